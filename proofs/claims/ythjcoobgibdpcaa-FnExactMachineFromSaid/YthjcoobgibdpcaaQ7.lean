-- Written by a program of this claim's session (gprint.py over the kit's print); not typed by hand; Lean checks it.
import Derived.Test.YthjcoobgibdpcaaQ0
import Derived.Test.YthjcoobgibdpcaaQ1
import Derived.Test.YthjcoobgibdpcaaQ6
namespace Go.Proofs.Ythjcoobgibdpcaa.Q
open Go.RowKit Go.Proofs.YthjcoobgibdpcaaW.PrintWords Go.Proofs.YthjcoobgibdpcaaW.PrintLast Go.Proofs.YthjcoobgibdpcaaW.PrintMore
attribute [local go_sem] max2_int min2_int max_two min_two max_three min_three max_four min_four   -- for this text's walks alone
set_option linter.unusedVariables false
set_option linter.unusedSimpArgs false

/-! ### spec_MachineFrom: function 9 -/
mutual
def spec_MachineFrom.j0 : Nat → List Int → List Int → Bool → Int → Int → Int → Int → Option (Int × Int × Int × Int × Int × Int × Int × Int × Int × Bool)
  | 0, _, _, _, _, _, _, _ => none
  | k + 1, x1, x2, x22, x336000, x336001, x336002, x336003 => if x22 = true then (some (0, 0, 0, 0, 0, 0, 0, 0, 0, false)) else (spec_MachineFrom.l0 k x1 x2 0 x336000 x336001 x336002 x336003)
def spec_MachineFrom.l0 : Nat → List Int → List Int → Int → Int → Int → Int → Int → Option (Int × Int × Int × Int × Int × Int × Int × Int × Int × Bool)
  | 0, _, _, _, _, _, _, _ => none
  | k + 1, x1, x2, x8, x336000, x336001, x336002, x336003 => if x8 < 4 then (if 0 ≤ x8 then (if x8 < (x1.length : Int) then ((spec_l00In.f (rd x1 x8) 0 80).bind fun t339 => (if t339 = true then (if x8 < (x2.length : Int) then ((spec_l00In.f (rd x2 x8) 0 2400).bind fun t341 => (if t341 = true then (spec_MachineFrom.l0 k x1 x2 (wrap64 (x8 + 1)) x336000 x336001 x336002 x336003) else (some (0, 0, 0, 0, 0, 0, 0, 0, 0, false)))) else (none)) else (some (0, 0, 0, 0, 0, 0, 0, 0, 0, false)))) else (none)) else (none)) else (if 0 < (x2.length : Int) then (if 2 < (x2.length : Int) then (if 3 < (x2.length : Int) then (if 1 < (x2.length : Int) then (if 0 < (x1.length : Int) then (if 1 < (x1.length : Int) then ((spec_l04Is.f k (wrap64 ((wrap64 (x336000 + (wrap64 (2 * (wrap64 (x336002 + (wrap64 (Int.tdiv (wrap64 ((rd x2 2) - (rd x2 0))) 4)))))))) - (wrap64 (40 - (rd x1 0))))) (wrap64 ((wrap64 (x336001 + (wrap64 (2 * (wrap64 (x336003 + (wrap64 (Int.tdiv (wrap64 ((rd x2 3) - (rd x2 1))) 4)))))))) - (wrap64 (40 - (rd x1 1))))) (wrap64 (x336002 + (wrap64 (Int.tdiv (wrap64 ((rd x2 2) - (rd x2 0))) 4)))) (wrap64 (x336003 + (wrap64 (Int.tdiv (wrap64 ((rd x2 3) - (rd x2 1))) 4)))) x336000 x336001 x336002 x336003 (wrap64 (Int.tdiv (wrap64 ((rd x2 0) + (rd x2 2))) 2))).bind fun t351 => (if t351 = true then ((spec_l04Gaps.f (wrap64 ((wrap64 (x336000 + (wrap64 (2 * (wrap64 (x336002 + (wrap64 (Int.tdiv (wrap64 ((rd x2 2) - (rd x2 0))) 4)))))))) - (wrap64 (40 - (rd x1 0))))) (wrap64 ((wrap64 (x336001 + (wrap64 (2 * (wrap64 (x336003 + (wrap64 (Int.tdiv (wrap64 ((rd x2 3) - (rd x2 1))) 4)))))))) - (wrap64 (40 - (rd x1 1))))) (wrap64 (x336002 + (wrap64 (Int.tdiv (wrap64 ((rd x2 2) - (rd x2 0))) 4)))) (wrap64 (x336003 + (wrap64 (Int.tdiv (wrap64 ((rd x2 3) - (rd x2 1))) 4)))) x336000 x336001 x336002 x336003 (wrap64 (Int.tdiv (wrap64 ((rd x2 0) + (rd x2 2))) 2))).bind fun t352 => ((spec_l00Same.f k t352 x1).bind fun t355 => (if t355 = true then ((spec_l04Strokes.f (wrap64 ((wrap64 (x336000 + (wrap64 (2 * (wrap64 (x336002 + (wrap64 (Int.tdiv (wrap64 ((rd x2 2) - (rd x2 0))) 4)))))))) - (wrap64 (40 - (rd x1 0))))) (wrap64 ((wrap64 (x336001 + (wrap64 (2 * (wrap64 (x336003 + (wrap64 (Int.tdiv (wrap64 ((rd x2 3) - (rd x2 1))) 4)))))))) - (wrap64 (40 - (rd x1 1))))) (wrap64 (x336002 + (wrap64 (Int.tdiv (wrap64 ((rd x2 2) - (rd x2 0))) 4)))) (wrap64 (x336003 + (wrap64 (Int.tdiv (wrap64 ((rd x2 3) - (rd x2 1))) 4)))) x336000 x336001 x336002 x336003 (wrap64 (Int.tdiv (wrap64 ((rd x2 0) + (rd x2 2))) 2))).bind fun t356 => ((spec_l00Same.f k t356 x2).bind fun t359 => (spec_MachineFrom.j2 k (!t359) (wrap64 ((wrap64 (x336000 + (wrap64 (2 * (wrap64 (x336002 + (wrap64 (Int.tdiv (wrap64 ((rd x2 2) - (rd x2 0))) 4)))))))) - (wrap64 (40 - (rd x1 0))))) (wrap64 ((wrap64 (x336001 + (wrap64 (2 * (wrap64 (x336003 + (wrap64 (Int.tdiv (wrap64 ((rd x2 3) - (rd x2 1))) 4)))))))) - (wrap64 (40 - (rd x1 1))))) (wrap64 (x336002 + (wrap64 (Int.tdiv (wrap64 ((rd x2 2) - (rd x2 0))) 4)))) (wrap64 (x336003 + (wrap64 (Int.tdiv (wrap64 ((rd x2 3) - (rd x2 1))) 4)))) x336000 x336001 x336002 x336003 (wrap64 (Int.tdiv (wrap64 ((rd x2 0) + (rd x2 2))) 2))))) else (spec_MachineFrom.j2 k true (wrap64 ((wrap64 (x336000 + (wrap64 (2 * (wrap64 (x336002 + (wrap64 (Int.tdiv (wrap64 ((rd x2 2) - (rd x2 0))) 4)))))))) - (wrap64 (40 - (rd x1 0))))) (wrap64 ((wrap64 (x336001 + (wrap64 (2 * (wrap64 (x336003 + (wrap64 (Int.tdiv (wrap64 ((rd x2 3) - (rd x2 1))) 4)))))))) - (wrap64 (40 - (rd x1 1))))) (wrap64 (x336002 + (wrap64 (Int.tdiv (wrap64 ((rd x2 2) - (rd x2 0))) 4)))) (wrap64 (x336003 + (wrap64 (Int.tdiv (wrap64 ((rd x2 3) - (rd x2 1))) 4)))) x336000 x336001 x336002 x336003 (wrap64 (Int.tdiv (wrap64 ((rd x2 0) + (rd x2 2))) 2)))))) else (spec_MachineFrom.j2 k true (wrap64 ((wrap64 (x336000 + (wrap64 (2 * (wrap64 (x336002 + (wrap64 (Int.tdiv (wrap64 ((rd x2 2) - (rd x2 0))) 4)))))))) - (wrap64 (40 - (rd x1 0))))) (wrap64 ((wrap64 (x336001 + (wrap64 (2 * (wrap64 (x336003 + (wrap64 (Int.tdiv (wrap64 ((rd x2 3) - (rd x2 1))) 4)))))))) - (wrap64 (40 - (rd x1 1))))) (wrap64 (x336002 + (wrap64 (Int.tdiv (wrap64 ((rd x2 2) - (rd x2 0))) 4)))) (wrap64 (x336003 + (wrap64 (Int.tdiv (wrap64 ((rd x2 3) - (rd x2 1))) 4)))) x336000 x336001 x336002 x336003 (wrap64 (Int.tdiv (wrap64 ((rd x2 0) + (rd x2 2))) 2))))) else (none)) else (none)) else (none)) else (none)) else (none)) else (none))
def spec_MachineFrom.j2 : Nat → Bool → Int → Int → Int → Int → Int → Int → Int → Int → Int → Option (Int × Int × Int × Int × Int × Int × Int × Int × Int × Bool)
  | 0, _, _, _, _, _, _, _, _, _, _ => none
  | k + 1, x120, x345000, x345001, x345002, x345003, x345004, x345005, x345006, x345007, x345008 => if x120 = true then (some (0, 0, 0, 0, 0, 0, 0, 0, 0, false)) else (some (x345000, x345001, x345002, x345003, x345004, x345005, x345006, x345007, x345008, true))
end
def spec_MachineFrom.f (k : Nat) (a0_0 : Int) (a0_1 : Int) (a0_2 : Int) (a0_3 : Int) (l1 : List Int) (l2 : List Int) : Option (Int × Int × Int × Int × Int × Int × Int × Int × Int × Bool) := (spec_l02Pose.f a0_0 a0_1 a0_2 a0_3).bind fun t337 => (if t337 = true then (if (l1.length : Int) = 4 then (spec_MachineFrom.j0 k l1 l2 ((l2.length : Int) != 4) a0_0 a0_1 a0_2 a0_3) else (spec_MachineFrom.j0 k l1 l2 true a0_0 a0_1 a0_2 a0_3)) else (spec_MachineFrom.j0 k l1 l2 true a0_0 a0_1 a0_2 a0_3))
theorem spec_MachineFrom.mono_l : ∀ k, (∀ y0 y1 y2 y3 y4 y5 y6, LeO (spec_MachineFrom.j0 k y0 y1 y2 y3 y4 y5 y6) (spec_MachineFrom.j0 (k + 1) y0 y1 y2 y3 y4 y5 y6)) ∧ (∀ y0 y1 y2 y3 y4 y5 y6, LeO (spec_MachineFrom.l0 k y0 y1 y2 y3 y4 y5 y6) (spec_MachineFrom.l0 (k + 1) y0 y1 y2 y3 y4 y5 y6)) ∧ (∀ y0 y1 y2 y3 y4 y5 y6 y7 y8 y9, LeO (spec_MachineFrom.j2 k y0 y1 y2 y3 y4 y5 y6 y7 y8 y9) (spec_MachineFrom.j2 (k + 1) y0 y1 y2 y3 y4 y5 y6 y7 y8 y9))
  | 0 => ⟨fun _ _ _ _ _ _ _ r h => by simp [spec_MachineFrom.j0] at h, fun _ _ _ _ _ _ _ r h => by simp [spec_MachineFrom.l0] at h, fun _ _ _ _ _ _ _ _ _ _ r h => by simp [spec_MachineFrom.j2] at h⟩
  | k + 1 => by
    obtain ⟨ih0, ih1, ih2⟩ := spec_MachineFrom.mono_l k
    refine ⟨?_, ?_, ?_⟩
    · intro y0 y1 y2 y3 y4 y5 y6
      unfold spec_MachineFrom.j0
      repeat' first
      | (with_reducible exact ih0 _ _ _ _ _ _ _)
      | (with_reducible exact ih1 _ _ _ _ _ _ _)
      | (with_reducible exact ih2 _ _ _ _ _ _ _ _ _ _)
      | (with_reducible exact spec_l00Same.mono _ _ _)
      | (with_reducible exact spec_l04Is.mono _ _ _ _ _ _ _ _ _ _)
      | (with_reducible exact LeO.refl _)
      | (with_reducible exact LeO.none _)
      | (with_reducible refine LeO.ite ?_ ?_)
      | (with_reducible refine LeO.bind ?_ (fun _ => ?_))
      | exact ih0 _ _ _ _ _ _ _
      | exact ih1 _ _ _ _ _ _ _
      | exact ih2 _ _ _ _ _ _ _ _ _ _
      | exact spec_l00Same.mono _ _ _
      | exact spec_l04Is.mono _ _ _ _ _ _ _ _ _ _
      | exact LeO.none _
      | refine LeO.ite ?_ ?_
      | refine LeO.bind ?_ (fun _ => ?_)
    · intro y0 y1 y2 y3 y4 y5 y6
      unfold spec_MachineFrom.l0
      repeat' first
      | (with_reducible exact ih0 _ _ _ _ _ _ _)
      | (with_reducible exact ih1 _ _ _ _ _ _ _)
      | (with_reducible exact ih2 _ _ _ _ _ _ _ _ _ _)
      | (with_reducible exact spec_l00Same.mono _ _ _)
      | (with_reducible exact spec_l04Is.mono _ _ _ _ _ _ _ _ _ _)
      | (with_reducible exact LeO.refl _)
      | (with_reducible exact LeO.none _)
      | (with_reducible refine LeO.ite ?_ ?_)
      | (with_reducible refine LeO.bind ?_ (fun _ => ?_))
      | exact ih0 _ _ _ _ _ _ _
      | exact ih1 _ _ _ _ _ _ _
      | exact ih2 _ _ _ _ _ _ _ _ _ _
      | exact spec_l00Same.mono _ _ _
      | exact spec_l04Is.mono _ _ _ _ _ _ _ _ _ _
      | exact LeO.none _
      | refine LeO.ite ?_ ?_
      | refine LeO.bind ?_ (fun _ => ?_)
    · intro y0 y1 y2 y3 y4 y5 y6 y7 y8 y9
      unfold spec_MachineFrom.j2
      repeat' first
      | (with_reducible exact ih0 _ _ _ _ _ _ _)
      | (with_reducible exact ih1 _ _ _ _ _ _ _)
      | (with_reducible exact ih2 _ _ _ _ _ _ _ _ _ _)
      | (with_reducible exact spec_l00Same.mono _ _ _)
      | (with_reducible exact spec_l04Is.mono _ _ _ _ _ _ _ _ _ _)
      | (with_reducible exact LeO.refl _)
      | (with_reducible exact LeO.none _)
      | (with_reducible refine LeO.ite ?_ ?_)
      | (with_reducible refine LeO.bind ?_ (fun _ => ?_))
      | exact ih0 _ _ _ _ _ _ _
      | exact ih1 _ _ _ _ _ _ _
      | exact ih2 _ _ _ _ _ _ _ _ _ _
      | exact spec_l00Same.mono _ _ _
      | exact spec_l04Is.mono _ _ _ _ _ _ _ _ _ _
      | exact LeO.none _
      | refine LeO.ite ?_ ?_
      | refine LeO.bind ?_ (fun _ => ?_)
theorem spec_MachineFrom.mono : ∀ a0 a1 a2 a3 a4 a5 k, LeO (spec_MachineFrom.f k a0 a1 a2 a3 a4 a5) (spec_MachineFrom.f (k + 1) a0 a1 a2 a3 a4 a5) := by
  intro a0 a1 a2 a3 a4 a5 k
  obtain ⟨ih0, ih1, ih2⟩ := spec_MachineFrom.mono_l k
  unfold spec_MachineFrom.f
  repeat' first
      | (with_reducible exact ih0 _ _ _ _ _ _ _)
      | (with_reducible exact ih1 _ _ _ _ _ _ _)
      | (with_reducible exact ih2 _ _ _ _ _ _ _ _ _ _)
      | (with_reducible exact spec_l00Same.mono _ _ _)
      | (with_reducible exact spec_l04Is.mono _ _ _ _ _ _ _ _ _ _)
      | (with_reducible exact LeO.refl _)
      | (with_reducible exact LeO.none _)
      | (with_reducible refine LeO.ite ?_ ?_)
      | (with_reducible refine LeO.bind ?_ (fun _ => ?_))
      | exact ih0 _ _ _ _ _ _ _
      | exact ih1 _ _ _ _ _ _ _
      | exact ih2 _ _ _ _ _ _ _ _ _ _
      | exact spec_l00Same.mono _ _ _
      | exact spec_l04Is.mono _ _ _ _ _ _ _ _ _ _
      | exact LeO.none _
      | refine LeO.ite ?_ ?_
      | refine LeO.bind ?_ (fun _ => ?_)
def spec_MachineFrom.T8 : Bool × List (List Nat × List Nat) := (true, [([], []), ([], []), ([1], [1]), ([2], [2]), ([], []), ([4], [4]), ([5], [5]), ([3, 6], [3, 6]), ([7], [7]), ([0, 8], [0, 8]), ([], []), ([10, 9, 0, 1, 2, 3, 4, 5, 6, 7, 8, 9, 10], [9, 10])])
def spec_MachineFrom.B8 : List Nat := [0, 0, 2, 6, 0, 16, 48, 126, 254, 511, 0, 2047]
theorem spec_MachineFrom.tab8 : rtab .any (opsOf Try.f9 8) = spec_MachineFrom.T8 := by kernel_rfl
theorem spec_MachineFrom.bits8 : waitsOk spec_MachineFrom.T8.2 spec_MachineFrom.B8 = true := by kernel_rfl
def spec_MachineFrom.T9 : Bool × List (List Nat × List Nat) := (true, [([], []), ([0], [0]), ([], []), ([2], [2]), ([3], [3]), ([], []), ([5], [5]), ([6], [6]), ([4, 7], [4, 7]), ([8], [8]), ([1, 9], [1, 9]), ([0, 1, 2, 3, 4, 5, 6, 7, 8, 9, 10], []), ([11, 0, 1, 2, 3, 4, 5, 6, 7, 8, 9, 10], [11]), ([12, 10, 0, 1, 2, 3, 4, 5, 6, 7, 8, 9, 10], [10, 12])])
def spec_MachineFrom.B9 : List Nat := [0, 1, 0, 4, 12, 0, 32, 96, 252, 508, 1023, 2047, 4095, 8191]
theorem spec_MachineFrom.tab9 : rtab .any (opsOf Try.f9 9) = spec_MachineFrom.T9 := by kernel_rfl
theorem spec_MachineFrom.bits9 : waitsOk spec_MachineFrom.T9.2 spec_MachineFrom.B9 = true := by kernel_rfl
def spec_MachineFrom.T10 : Bool × List (List Nat × List Nat) := (true, [([], []), ([0], [0]), ([], []), ([2], [2]), ([3], [3]), ([], []), ([5], [5]), ([6], [6]), ([4, 7], [4, 7]), ([8], [8]), ([1, 9], [1, 9]), ([0, 1, 2, 3, 4, 5, 6, 7, 8, 9, 10], []), ([11, 0, 1, 2, 3, 4, 5, 6, 7, 8, 9, 10], [11]), ([12, 10, 0, 1, 2, 3, 4, 5, 6, 7, 8, 9, 10], [10, 12])])
def spec_MachineFrom.B10 : List Nat := [0, 1, 0, 4, 12, 0, 32, 96, 252, 508, 1023, 2047, 4095, 8191]
theorem spec_MachineFrom.tab10 : rtab .any (opsOf Try.f9 10) = spec_MachineFrom.T10 := by kernel_rfl
theorem spec_MachineFrom.bits10 : waitsOk spec_MachineFrom.T10.2 spec_MachineFrom.B10 = true := by kernel_rfl
def spec_MachineFrom.T11 : Bool × List (List Nat × List Nat) := (true, [([], []), ([0], [0]), ([], []), ([2], [2]), ([3], [3]), ([4], [4]), ([1, 5], [1, 5]), ([], []), ([7], [7]), ([8], [8]), ([9], [9]), ([6, 10], [6, 10]), ([0, 1, 2, 3, 4, 5, 6, 7, 8, 9, 10, 11], []), ([12, 0, 1, 2, 3, 4, 5, 6, 7, 8, 9, 10, 11], [12]), ([13, 11, 0, 1, 2, 3, 4, 5, 6, 7, 8, 9, 10, 11], [11, 13])])
def spec_MachineFrom.B11 : List Nat := [0, 1, 0, 4, 12, 28, 63, 0, 128, 384, 896, 2047, 4095, 8191, 16383]
theorem spec_MachineFrom.tab11 : rtab .any (opsOf Try.f9 11) = spec_MachineFrom.T11 := by kernel_rfl
theorem spec_MachineFrom.bits11 : waitsOk spec_MachineFrom.T11.2 spec_MachineFrom.B11 = true := by kernel_rfl
def spec_MachineFrom.T12 : Bool × List (List Nat × List Nat) := (true, [([], []), ([0], [0]), ([], []), ([2], [2]), ([3], [3]), ([4], [4]), ([1, 5], [1, 5]), ([], []), ([7], [7]), ([8], [8]), ([9], [9]), ([6, 10], [6, 10]), ([0, 1, 2, 3, 4, 5, 6, 7, 8, 9, 10, 11], []), ([12, 0, 1, 2, 3, 4, 5, 6, 7, 8, 9, 10, 11], [12]), ([13, 11, 0, 1, 2, 3, 4, 5, 6, 7, 8, 9, 10, 11], [11, 13])])
def spec_MachineFrom.B12 : List Nat := [0, 1, 0, 4, 12, 28, 63, 0, 128, 384, 896, 2047, 4095, 8191, 16383]
theorem spec_MachineFrom.tab12 : rtab .any (opsOf Try.f9 12) = spec_MachineFrom.T12 := by kernel_rfl
theorem spec_MachineFrom.bits12 : waitsOk spec_MachineFrom.T12.2 spec_MachineFrom.B12 = true := by kernel_rfl
set_option maxHeartbeats 8000000 in
set_option maxRecDepth 100000 in
theorem spec_MachineFrom.calls (k : Nat) (a0_0 : Int) (a0_1 : Int) (a0_2 : Int) (a0_3 : Int) (A1 : Option Addr) (c1 : Nat) (l1 : List Int) (A2 : Option Addr) (c2 : Nat) (l2 : List Int) (r1 : Int) (r2 : Int) (r3 : Int) (r4 : Int) (r5 : Int) (r6 : Int) (r7 : Int) (r8 : Int) (r9 : Int) (r10 : Bool) (w : World) (hr1 : Kd.C (Kd.int .i64) w A1 l1.length l1) (hc1 : l1.length ≤ c1) (hr2 : Kd.C (Kd.int .i64) w A2 l2.length l2) (hc2 : l2.length ≤ c2) (h : spec_MachineFrom.f k a0_0 a0_1 a0_2 a0_3 l1 l2 = some (r1, r2, r3, r4, r5, r6, r7, r8, r9, r10)) :
    Calls Try.prog 9 #[.agg #[.int .i64 a0_0, .int .i64 a0_1, .int .i64 a0_2, .int .i64 a0_3], .slice A1 l1.length c1, .slice A2 l2.length c2] w fun e w' => e = .returned (.tuple #[.agg #[.int .i64 r1, .int .i64 r2, .int .i64 r3, .int .i64 r4, .int .i64 r5, .int .i64 r6, .int .i64 r7, .int .i64 r8, .int .i64 r9], .bool r10]) ∧ Below w.heap.size w w' := by
  have hu25 := Try.underlying25
  have hu38 := Try.underlying38
  have HR1 := Aside0.mk hr1
  have HC1 := Aside0.mk hc1
  clear hr1 hc1
  have HR2 := Aside0.mk hr2
  have HC2 := Aside0.mk hc2
  clear hr2 hc2
  have HB := Aside0.mk (Below.refl w.heap.size w)
  have H : ((spec_l02Pose.f a0_0 a0_1 a0_2 a0_3).bind fun t337 => (if t337 = true then (if (l1.length : Int) = 4 then (spec_MachineFrom.j0 k l1 l2 ((l2.length : Int) != 4) a0_0 a0_1 a0_2 a0_3) else (spec_MachineFrom.j0 k l1 l2 true a0_0 a0_1 a0_2 a0_3)) else (spec_MachineFrom.j0 k l1 l2 true a0_0 a0_1 a0_2 a0_3))) = some (r1, r2, r3, r4, r5, r6, r7, r8, r9, r10) := h
  clear h
  have HC4 := Aside0.mk H
  clear H
  go_enter Try.func9, Try.ntmps9
  go_upto_region 1 with (first | ((with_reducible refine gate_dst (N := 3) rfl ?_); (try (refine gate_guard (by rfl) ?_; dsimp only)); refine box_event ?hg (N := 3) ?hd (cs := #[.int .i64 a0_0, .int .i64 a0_1, .int .i64 a0_2, .int .i64 a0_3]) (t := 25) ?hr ?_; (case hd => rfl); (case hg => rfl); (case hr => first | (go_simp; done) | (go_simp; rfl)); intro gb335 hg w5 hbox hb; have n0_ := Aside0.mk (below_step (by repeat (first | (with_reducible first | exact HB.out | apply below_alloc | apply pw_below_drewN | apply below_drew1) | exact HB.out)) hb); have n1_ := Aside0.mk (hbox); have n2_ := Aside0.mk ((by rw [hg]; exact (below_size (by repeat (first | (with_reducible first | exact HB.out | apply below_alloc | apply pw_below_drewN | apply below_drew1) | exact HB.out))) : w.heap.size ≤ gb335)); have n3_ := Aside0.mk ((by rw [hg]; exact (below_size (by repeat (first | (with_reducible first | exact HB.out | apply below_alloc | apply pw_below_drewN | apply below_drew1) | exact HB.out))) : w.heap.size ≤ gb335)); clear HB; have HB := n0_; have BK335 := n1_; have GW335 := n2_; have GE335 := n3_; clear n0_ n1_ n2_ n3_; clear hb hbox hg) | ((with_reducible refine gate_dst (N := 6) rfl ?_); (try (refine gate_guard (by rfl) ?_; dsimp only)); refine box_event ?hg (N := 6) ?hd (cs := #[.int .i64 0, .int .i64 0, .int .i64 0, .int .i64 0, .int .i64 0, .int .i64 0, .int .i64 0, .int .i64 0, .int .i64 0]) (t := 38) ?hr ?_; (case hd => rfl); (case hg => rfl); (case hr => first | (go_simp; done) | (go_simp; rfl)); intro gb336 hg w6 hbox hb; have n0_ := Aside0.mk (blk_below (g := gb335) (o := .cells #[.int .i64 a0_0, .int .i64 a0_1, .int .i64 a0_2, .int .i64 a0_3] 25 (0, 0)) (by (with_reducible repeat (first | refine blk_drewN ?_ _ | refine blk_drew ?_ | refine blk_alloc ?_ _)); exact BK335.out) hb); have n1_ := Aside0.mk (below_step (by repeat (first | (with_reducible first | exact HB.out | apply below_alloc | apply pw_below_drewN | apply below_drew1 | refine below_set ?_ GE335.out) | exact HB.out)) hb); have n2_ := Aside0.mk (hbox); have n3_ := Aside0.mk ((by rw [hg]; exact (below_size (by repeat (first | (with_reducible first | exact HB.out | apply below_alloc | apply pw_below_drewN | apply below_drew1 | refine below_set ?_ GE335.out) | exact HB.out))) : w.heap.size ≤ gb336)); have n4_ := Aside0.mk ((by rw [hg]; exact (below_size (by repeat (first | (with_reducible first | exact HB.out | apply below_alloc | apply pw_below_drewN | apply below_drew1 | refine below_set ?_ GE335.out) | exact HB.out))) : w.heap.size ≤ gb336)); have n5_ := Aside0.mk ((by rw [hg]; exact Nat.ne_of_lt (blk_lt (g := gb335) (o := .cells #[.int .i64 a0_0, .int .i64 a0_1, .int .i64 a0_2, .int .i64 a0_3] 25 (0, 0)) (by (with_reducible repeat (first | refine blk_drewN ?_ _ | refine blk_drew ?_ | refine blk_alloc ?_ _)); exact BK335.out)) : gb335 ≠ gb336)); have n6_ := Aside0.mk ((by rw [hg]; exact Nat.ne_of_gt (blk_lt (g := gb335) (o := .cells #[.int .i64 a0_0, .int .i64 a0_1, .int .i64 a0_2, .int .i64 a0_3] 25 (0, 0)) (by (with_reducible repeat (first | refine blk_drewN ?_ _ | refine blk_drew ?_ | refine blk_alloc ?_ _)); exact BK335.out)) : gb336 ≠ gb335)); clear BK335; clear HB; have BK335 := n0_; have HB := n1_; have BK336 := n2_; have GW336 := n3_; have GE336 := n4_; have NB335_336 := n5_; have NB336_335 := n6_; clear n0_ n1_ n2_ n3_ n4_ n5_ n6_; clear hb hbox hg))
  (try simp only [Act.put, List.setIfInBounds_toArray, List.set_cons_zero, List.set_cons_succ])
  go_cut [22] (fun v22 wc => ∃ (kq : Nat) (x22_3 : Bool), v22 = .bool x22_3 ∧ Aside0 (spec_MachineFrom.j0 kq l1 l2 x22_3 a0_0 a0_1 a0_2 a0_3 = some (r1, r2, r3, r4, r5, r6, r7, r8, r9, r10)) ∧ Aside0 (kq ≤ k) ∧ Aside0 (wc.heap[gb335]? = some (.cells #[.int .i64 a0_0, .int .i64 a0_1, .int .i64 a0_2, .int .i64 a0_3] 25 (0, 0))) ∧ Aside0 (wc.heap[gb336]? = some (.cells #[.int .i64 0, .int .i64 0, .int .i64 0, .int .i64 0, .int .i64 0, .int .i64 0, .int .i64 0, .int .i64 0, .int .i64 0] 38 (0, 0))) ∧ Aside0 (Below w.heap.size w wc))
  case first =>
    have H := HC4.out
    clear HC4
    replace H := Option.bind_eq_some_iff.mp H
    obtain ⟨t337, A70, H⟩ := H
    replace H : (if t337 = true then (if (l1.length : Int) = 4 then (spec_MachineFrom.j0 k l1 l2 ((l2.length : Int) != 4) a0_0 a0_1 a0_2 a0_3) else (spec_MachineFrom.j0 k l1 l2 true a0_0 a0_1 a0_2 a0_3)) else (spec_MachineFrom.j0 k l1 l2 true a0_0 a0_1 a0_2 a0_3)) = some (r1, r2, r3, r4, r5, r6, r7, r8, r9, r10) := H
    have A7 := Aside0.mk A70
    clear A70
    by_cases c8 : t337 = true
    · subst c8
      have H1 : (if (l1.length : Int) = 4 then (spec_MachineFrom.j0 k l1 l2 ((l2.length : Int) != 4) a0_0 a0_1 a0_2 a0_3) else (spec_MachineFrom.j0 k l1 l2 true a0_0 a0_1 a0_2 a0_3)) = some (r1, r2, r3, r4, r5, r6, r7, r8, r9, r10) := by rw [if_pos rfl] at H; exact H
      clear H
      have H := H1
      clear H1
      by_cases c9 : (l1.length : Int) = 4
      · rw [if_pos c9] at H
        have c9b0 : ((l1.length : Int) == 4) = true := beq_iff_eq.mpr c9
        have c9b1 : ((l1.length : Int) != 4) = false := bne_eq_false_iff_eq.mpr c9
        clear c9
        (first | rw [c9b0] | (simp only [i64_w, i32_w]; rw [c9b0]) | skip)
        have H' := Aside0.mk H
        clear H
        have hnb10 := NB335_336.out
        have hnc10 := NB336_335.out
        have hcz11_0 : w6.cell? ⟨gb335, 0, none⟩ = some (.int .i64 a0_0) := (blk_cell BK335.out 0).trans rfl
        have hcz11_1 : w6.cell? ⟨gb335, 1, none⟩ = some (.int .i64 a0_1) := (blk_cell BK335.out 1).trans rfl
        have hcz11_2 : w6.cell? ⟨gb335, 2, none⟩ = some (.int .i64 a0_2) := (blk_cell BK335.out 2).trans rfl
        have hcz11_3 : w6.cell? ⟨gb335, 3, none⟩ = some (.int .i64 a0_3) := (blk_cell BK335.out 3).trans rfl
        have hfz11_0 := blk_frozen BK335.out 0
        have hfz11_1 := blk_frozen BK335.out 1
        have hfz11_2 := blk_frozen BK335.out 2
        have hfz11_3 := blk_frozen BK335.out 3
        go_wp2_with (first | ((with_reducible refine gate_callee (f := 18) rfl ?_); refine goesL_ (some 11) rfl rfl Try.func18 (by kernel_rfl) rfl #[.agg #[.int .i64 a0_0, .int .i64 a0_1, .int .i64 a0_2, .int .i64 a0_3]] rfl (by (try simp only [List.map_toArray, List.map_cons, List.map_nil]); first | done | rfl | (simp only [List.length_drop, List.length_take]; rfl)) ?_; (with_reducible refine (spec_l02Pose.calls a0_0 a0_1 a0_2 a0_3 true _ A7.out).mono ?_); rintro e w12 ⟨rfl, hb⟩; refine ⟨_, rfl, ?_⟩; have n0_ := Aside0.mk (blk_below (g := gb335) (o := .cells #[.int .i64 a0_0, .int .i64 a0_1, .int .i64 a0_2, .int .i64 a0_3] 25 (0, 0)) (by (with_reducible repeat (first | refine blk_drewN ?_ _ | refine blk_drew ?_ | refine blk_alloc ?_ _)); exact BK335.out) hb); have n1_ := Aside0.mk (blk_below (g := gb336) (o := .cells #[.int .i64 0, .int .i64 0, .int .i64 0, .int .i64 0, .int .i64 0, .int .i64 0, .int .i64 0, .int .i64 0, .int .i64 0] 38 (0, 0)) (by (with_reducible repeat (first | refine blk_drewN ?_ _ | refine blk_drew ?_ | refine blk_alloc ?_ _)); exact BK336.out) hb); have n2_ := Aside0.mk (below_step (by repeat (first | (with_reducible first | exact HB.out | apply below_alloc | apply pw_below_drewN | apply below_drew1 | refine below_set ?_ GE335.out | refine below_set ?_ GE336.out) | exact HB.out)) hb); clear BK335; clear BK336; clear HB; have BK335 := n0_; have BK336 := n1_; have HB := n2_; clear n0_ n1_ n2_; (try clear hb); (try clear hb2); (try clear hk); (try clear hi)))
        go_meet
        case rel => exact ⟨_, (((l2.length : Int) != 4)), (by first | rfl | (simp; done) | (simp [*]; done)), H', ⟨by first | omega | exact Nat.le_refl _⟩, ⟨by (with_reducible repeat (first | refine blk_drewN ?_ _ | refine blk_drew ?_ | refine blk_alloc ?_ _)); exact BK335.out⟩, ⟨by (with_reducible repeat (first | refine blk_drewN ?_ _ | refine blk_drew ?_ | refine blk_alloc ?_ _)); exact BK336.out⟩, ⟨by repeat (first | (with_reducible first | exact HB.out | apply below_alloc | apply pw_below_drewN | apply below_drew1 | refine below_set ?_ GE335.out | refine below_set ?_ GE336.out) | exact HB.out)⟩⟩
      · rw [if_neg c9] at H
        have c9b0 : ((l1.length : Int) == 4) = false := beq_eq_false_iff_ne.mpr c9
        have c9b1 : ((l1.length : Int) != 4) = true := bne_iff_ne.mpr c9
        (first | rw [c9b0] | (simp only [i64_w, i32_w]; rw [c9b0]) | skip)
        have H' := Aside0.mk H
        clear H
        have hnb13 := NB335_336.out
        have hnc13 := NB336_335.out
        have hcz14_0 : w6.cell? ⟨gb335, 0, none⟩ = some (.int .i64 a0_0) := (blk_cell BK335.out 0).trans rfl
        have hcz14_1 : w6.cell? ⟨gb335, 1, none⟩ = some (.int .i64 a0_1) := (blk_cell BK335.out 1).trans rfl
        have hcz14_2 : w6.cell? ⟨gb335, 2, none⟩ = some (.int .i64 a0_2) := (blk_cell BK335.out 2).trans rfl
        have hcz14_3 : w6.cell? ⟨gb335, 3, none⟩ = some (.int .i64 a0_3) := (blk_cell BK335.out 3).trans rfl
        have hfz14_0 := blk_frozen BK335.out 0
        have hfz14_1 := blk_frozen BK335.out 1
        have hfz14_2 := blk_frozen BK335.out 2
        have hfz14_3 := blk_frozen BK335.out 3
        go_wp2_with (first | ((with_reducible refine gate_callee (f := 18) rfl ?_); refine goesL_ (some 11) rfl rfl Try.func18 (by kernel_rfl) rfl #[.agg #[.int .i64 a0_0, .int .i64 a0_1, .int .i64 a0_2, .int .i64 a0_3]] rfl (by (try simp only [List.map_toArray, List.map_cons, List.map_nil]); first | done | rfl | (simp only [List.length_drop, List.length_take]; rfl)) ?_; (with_reducible refine (spec_l02Pose.calls a0_0 a0_1 a0_2 a0_3 true _ A7.out).mono ?_); rintro e w15 ⟨rfl, hb⟩; refine ⟨_, rfl, ?_⟩; have n0_ := Aside0.mk (blk_below (g := gb335) (o := .cells #[.int .i64 a0_0, .int .i64 a0_1, .int .i64 a0_2, .int .i64 a0_3] 25 (0, 0)) (by (with_reducible repeat (first | refine blk_drewN ?_ _ | refine blk_drew ?_ | refine blk_alloc ?_ _)); exact BK335.out) hb); have n1_ := Aside0.mk (blk_below (g := gb336) (o := .cells #[.int .i64 0, .int .i64 0, .int .i64 0, .int .i64 0, .int .i64 0, .int .i64 0, .int .i64 0, .int .i64 0, .int .i64 0] 38 (0, 0)) (by (with_reducible repeat (first | refine blk_drewN ?_ _ | refine blk_drew ?_ | refine blk_alloc ?_ _)); exact BK336.out) hb); have n2_ := Aside0.mk (below_step (by repeat (first | (with_reducible first | exact HB.out | apply below_alloc | apply pw_below_drewN | apply below_drew1 | refine below_set ?_ GE335.out | refine below_set ?_ GE336.out) | exact HB.out)) hb); clear BK335; clear BK336; clear HB; have BK335 := n0_; have BK336 := n1_; have HB := n2_; clear n0_ n1_ n2_; (try clear hb); (try clear hb2); (try clear hk); (try clear hi)))
        go_meet
        case rel => exact ⟨_, (true), (by first | rfl | (simp; done) | (simp [*]; done)), H', ⟨by first | omega | exact Nat.le_refl _⟩, ⟨by (with_reducible repeat (first | refine blk_drewN ?_ _ | refine blk_drew ?_ | refine blk_alloc ?_ _)); exact BK335.out⟩, ⟨by (with_reducible repeat (first | refine blk_drewN ?_ _ | refine blk_drew ?_ | refine blk_alloc ?_ _)); exact BK336.out⟩, ⟨by repeat (first | (with_reducible first | exact HB.out | apply below_alloc | apply pw_below_drewN | apply below_drew1 | refine below_set ?_ GE335.out | refine below_set ?_ GE336.out) | exact HB.out)⟩⟩
    · replace c8 := Bool.eq_false_iff.mpr c8
      subst c8
      have H1 : (spec_MachineFrom.j0 k l1 l2 true a0_0 a0_1 a0_2 a0_3) = some (r1, r2, r3, r4, r5, r6, r7, r8, r9, r10) := by rw [if_neg (show ¬ (false = true) by decide)] at H; exact H
      clear H
      have H := H1
      clear H1
      have H' := Aside0.mk H
      clear H
      have hnb16 := NB335_336.out
      have hnc16 := NB336_335.out
      have hcz17_0 : w6.cell? ⟨gb335, 0, none⟩ = some (.int .i64 a0_0) := (blk_cell BK335.out 0).trans rfl
      have hcz17_1 : w6.cell? ⟨gb335, 1, none⟩ = some (.int .i64 a0_1) := (blk_cell BK335.out 1).trans rfl
      have hcz17_2 : w6.cell? ⟨gb335, 2, none⟩ = some (.int .i64 a0_2) := (blk_cell BK335.out 2).trans rfl
      have hcz17_3 : w6.cell? ⟨gb335, 3, none⟩ = some (.int .i64 a0_3) := (blk_cell BK335.out 3).trans rfl
      have hfz17_0 := blk_frozen BK335.out 0
      have hfz17_1 := blk_frozen BK335.out 1
      have hfz17_2 := blk_frozen BK335.out 2
      have hfz17_3 := blk_frozen BK335.out 3
      go_wp2_with (first | ((with_reducible refine gate_callee (f := 18) rfl ?_); refine goesL_ (some 11) rfl rfl Try.func18 (by kernel_rfl) rfl #[.agg #[.int .i64 a0_0, .int .i64 a0_1, .int .i64 a0_2, .int .i64 a0_3]] rfl (by (try simp only [List.map_toArray, List.map_cons, List.map_nil]); first | done | rfl | (simp only [List.length_drop, List.length_take]; rfl)) ?_; (with_reducible refine (spec_l02Pose.calls a0_0 a0_1 a0_2 a0_3 false _ A7.out).mono ?_); rintro e w18 ⟨rfl, hb⟩; refine ⟨_, rfl, ?_⟩; have n0_ := Aside0.mk (blk_below (g := gb335) (o := .cells #[.int .i64 a0_0, .int .i64 a0_1, .int .i64 a0_2, .int .i64 a0_3] 25 (0, 0)) (by (with_reducible repeat (first | refine blk_drewN ?_ _ | refine blk_drew ?_ | refine blk_alloc ?_ _)); exact BK335.out) hb); have n1_ := Aside0.mk (blk_below (g := gb336) (o := .cells #[.int .i64 0, .int .i64 0, .int .i64 0, .int .i64 0, .int .i64 0, .int .i64 0, .int .i64 0, .int .i64 0, .int .i64 0] 38 (0, 0)) (by (with_reducible repeat (first | refine blk_drewN ?_ _ | refine blk_drew ?_ | refine blk_alloc ?_ _)); exact BK336.out) hb); have n2_ := Aside0.mk (below_step (by repeat (first | (with_reducible first | exact HB.out | apply below_alloc | apply pw_below_drewN | apply below_drew1 | refine below_set ?_ GE335.out | refine below_set ?_ GE336.out) | exact HB.out)) hb); clear BK335; clear BK336; clear HB; have BK335 := n0_; have BK336 := n1_; have HB := n2_; clear n0_ n1_ n2_; (try clear hb); (try clear hb2); (try clear hk); (try clear hi)))
      go_meet
      case rel => exact ⟨_, (true), (by first | rfl | (simp; done) | (simp [*]; done)), H', ⟨by first | omega | exact Nat.le_refl _⟩, ⟨by (with_reducible repeat (first | refine blk_drewN ?_ _ | refine blk_drew ?_ | refine blk_alloc ?_ _)); exact BK335.out⟩, ⟨by (with_reducible repeat (first | refine blk_drewN ?_ _ | refine blk_drew ?_ | refine blk_alloc ?_ _)); exact BK336.out⟩, ⟨by repeat (first | (with_reducible first | exact HB.out | apply below_alloc | apply pw_below_drewN | apply below_drew1 | refine below_set ?_ GE335.out | refine below_set ?_ GE336.out) | exact HB.out)⟩⟩
  case rest =>
    clear HC4
    try clear c1
    try clear c2
    try clear p2
    try clear c8
    try clear c9
    try clear c9b0
    try clear c9b1
    try clear c10
    try clear c13
    try clear c16
    try clear c18
    try clear hcz11_0
    try clear hcz11_1
    try clear hcz11_2
    try clear hcz11_3
    try clear hcz14_0
    try clear hcz14_1
    try clear hcz14_2
    try clear hcz14_3
    try clear hcz17_0
    try clear hcz17_1
    try clear hcz17_2
    try clear hcz17_3
    try clear hfz11_0
    try clear hfz11_1
    try clear hfz11_2
    try clear hfz11_3
    try clear hfz14_0
    try clear hfz14_1
    try clear hfz14_2
    try clear hfz14_3
    try clear hfz17_0
    try clear hfz17_1
    try clear hfz17_2
    try clear hfz17_3
    obtain ⟨kq, x22_3, rfl, HA, HJ3, BK335, BK336, HB⟩ := hcut
    cases kq with
    | zero => exact absurd HA.out (by simp [spec_MachineFrom.j0])
    | succ kj3 =>
      have H := HA.out
      clear HA
      simp only [spec_MachineFrom.j0] at H
      by_cases c19 : x22_3 = true
      · subst c19
        have H1 : (some (0, 0, 0, 0, 0, 0, 0, 0, 0, false)) = some (r1, r2, r3, r4, r5, r6, r7, r8, r9, r10) := by rw [if_pos rfl] at H; exact H
        clear H
        have H := H1
        clear H1
        simp only [Option.some.injEq, Prod.mk.injEq] at H
        obtain ⟨rfl, rfl, rfl, rfl, rfl, rfl, rfl, rfl, rfl, rfl⟩ := H
        have hnb20 := NB336_335.out
        have hnc20 := NB335_336.out
        have hcz21_0 : wc.cell? ⟨gb336, 0, none⟩ = some (.int .i64 0) := (blk_cell BK336.out 0).trans rfl
        have hcz21_1 : wc.cell? ⟨gb336, 1, none⟩ = some (.int .i64 0) := (blk_cell BK336.out 1).trans rfl
        have hcz21_2 : wc.cell? ⟨gb336, 2, none⟩ = some (.int .i64 0) := (blk_cell BK336.out 2).trans rfl
        have hcz21_3 : wc.cell? ⟨gb336, 3, none⟩ = some (.int .i64 0) := (blk_cell BK336.out 3).trans rfl
        have hcz21_4 : wc.cell? ⟨gb336, 4, none⟩ = some (.int .i64 0) := (blk_cell BK336.out 4).trans rfl
        have hcz21_5 : wc.cell? ⟨gb336, 5, none⟩ = some (.int .i64 0) := (blk_cell BK336.out 5).trans rfl
        have hcz21_6 : wc.cell? ⟨gb336, 6, none⟩ = some (.int .i64 0) := (blk_cell BK336.out 6).trans rfl
        have hcz21_7 : wc.cell? ⟨gb336, 7, none⟩ = some (.int .i64 0) := (blk_cell BK336.out 7).trans rfl
        have hcz21_8 : wc.cell? ⟨gb336, 8, none⟩ = some (.int .i64 0) := (blk_cell BK336.out 8).trans rfl
        have hfz21_0 := blk_frozen BK336.out 0
        have hfz21_1 := blk_frozen BK336.out 1
        have hfz21_2 := blk_frozen BK336.out 2
        have hfz21_3 := blk_frozen BK336.out 3
        have hfz21_4 := blk_frozen BK336.out 4
        have hfz21_5 := blk_frozen BK336.out 5
        have hfz21_6 := blk_frozen BK336.out 6
        have hfz21_7 := blk_frozen BK336.out 7
        have hfz21_8 := blk_frozen BK336.out 8
        go_wp2
        refine bodyPost_ret (results_ct rfl _ _ gb336 38 #[.int .i64 0, .int .i64 0, .int .i64 0, .int .i64 0, .int .i64 0, .int .i64 0, .int .i64 0, .int .i64 0, .int .i64 0] (0, 0) _ rfl (by (with_reducible repeat (first | refine blk_drewN ?_ _ | refine blk_drew ?_ | refine blk_alloc ?_ _)); refine blk_put (cs := #[.int .i64 0, .int .i64 0, .int .i64 0, .int .i64 0, .int .i64 0, .int .i64 0, .int .i64 0, .int .i64 0, .int .i64 0]) ?_ 8 _ rfl; (with_reducible repeat (first | refine blk_drewN ?_ _ | refine blk_drew ?_ | refine blk_alloc ?_ _)); refine blk_put (cs := #[.int .i64 0, .int .i64 0, .int .i64 0, .int .i64 0, .int .i64 0, .int .i64 0, .int .i64 0, .int .i64 0, .int .i64 0]) ?_ 7 _ rfl; (with_reducible repeat (first | refine blk_drewN ?_ _ | refine blk_drew ?_ | refine blk_alloc ?_ _)); refine blk_put (cs := #[.int .i64 0, .int .i64 0, .int .i64 0, .int .i64 0, .int .i64 0, .int .i64 0, .int .i64 0, .int .i64 0, .int .i64 0]) ?_ 6 _ rfl; (with_reducible repeat (first | refine blk_drewN ?_ _ | refine blk_drew ?_ | refine blk_alloc ?_ _)); refine blk_put (cs := #[.int .i64 0, .int .i64 0, .int .i64 0, .int .i64 0, .int .i64 0, .int .i64 0, .int .i64 0, .int .i64 0, .int .i64 0]) ?_ 5 _ rfl; (with_reducible repeat (first | refine blk_drewN ?_ _ | refine blk_drew ?_ | refine blk_alloc ?_ _)); refine blk_put (cs := #[.int .i64 0, .int .i64 0, .int .i64 0, .int .i64 0, .int .i64 0, .int .i64 0, .int .i64 0, .int .i64 0, .int .i64 0]) ?_ 4 _ rfl; (with_reducible repeat (first | refine blk_drewN ?_ _ | refine blk_drew ?_ | refine blk_alloc ?_ _)); refine blk_put (cs := #[.int .i64 0, .int .i64 0, .int .i64 0, .int .i64 0, .int .i64 0, .int .i64 0, .int .i64 0, .int .i64 0, .int .i64 0]) ?_ 3 _ rfl; (with_reducible repeat (first | refine blk_drewN ?_ _ | refine blk_drew ?_ | refine blk_alloc ?_ _)); refine blk_put (cs := #[.int .i64 0, .int .i64 0, .int .i64 0, .int .i64 0, .int .i64 0, .int .i64 0, .int .i64 0, .int .i64 0, .int .i64 0]) ?_ 2 _ rfl; (with_reducible repeat (first | refine blk_drewN ?_ _ | refine blk_drew ?_ | refine blk_alloc ?_ _)); refine blk_put (cs := #[.int .i64 0, .int .i64 0, .int .i64 0, .int .i64 0, .int .i64 0, .int .i64 0, .int .i64 0, .int .i64 0, .int .i64 0]) ?_ 1 _ rfl; (with_reducible repeat (first | refine blk_drewN ?_ _ | refine blk_drew ?_ | refine blk_alloc ?_ _)); refine blk_put (cs := #[.int .i64 0, .int .i64 0, .int .i64 0, .int .i64 0, .int .i64 0, .int .i64 0, .int .i64 0, .int .i64 0, .int .i64 0]) ?_ 0 _ rfl; (with_reducible repeat (first | refine blk_drewN ?_ _ | refine blk_drew ?_ | refine blk_alloc ?_ _)); exact BK336.out) Try.underlying38 rfl (by kernel_rfl)) rfl ?_
        exact ⟨by first | rfl | (simp [errW_none, errW_some] <;> rfl) | (simp [*, errW_none, errW_some] <;> rfl), by repeat (first | (with_reducible first | exact HB.out | apply below_alloc | apply pw_below_drewN | apply below_drew1 | refine below_set ?_ GE335.out | refine below_set ?_ GE336.out) | exact HB.out)⟩
      · replace c19 := Bool.eq_false_iff.mpr c19
        subst c19
        have H1 : (spec_MachineFrom.l0 kj3 l1 l2 0 a0_0 a0_1 a0_2 a0_3) = some (r1, r2, r3, r4, r5, r6, r7, r8, r9, r10) := by rw [if_neg (show ¬ (false = true) by decide)] at H; exact H
        clear H
        have H := H1
        clear H1
        have H' := Aside0.mk H
        clear H
        go_wp2
        go_loopg [8] kj3 (fun kq v8 w' => ∃ (x8_2 : Int) (x337000_2 : Int) (x337001_2 : Int) (x337002_2 : Int) (x337003_2 : Int) (x337004_2 : Int) (x337005_2 : Int) (x337006_2 : Int) (x337007_2 : Int) (x337008_2 : Int), v8 = .int .i64 x8_2 ∧ Aside0 (spec_MachineFrom.l0 kq l1 l2 x8_2 a0_0 a0_1 a0_2 a0_3 = some (r1, r2, r3, r4, r5, r6, r7, r8, r9, r10)) ∧ Aside0 (kq ≤ kj3) ∧ Aside0 (w'.heap[gb335]? = some (.cells #[.int .i64 a0_0, .int .i64 a0_1, .int .i64 a0_2, .int .i64 a0_3] 25 (0, 0))) ∧ Aside0 (w'.heap[gb336]? = some (.cells #[.int .i64 x337000_2, .int .i64 x337001_2, .int .i64 x337002_2, .int .i64 x337003_2, .int .i64 x337004_2, .int .i64 x337005_2, .int .i64 x337006_2, .int .i64 x337007_2, .int .i64 x337008_2] 38 (0, 0))) ∧ Aside0 (Below w.heap.size w w'))
        case atStart => exact ⟨(0), (0), (0), (0), (0), (0), (0), (0), (0), (0), (by first | rfl | (simp; done) | (simp [*]; done)), H', ⟨Nat.le_refl _⟩, ⟨by (with_reducible repeat (first | refine blk_drewN ?_ _ | refine blk_drew ?_ | refine blk_alloc ?_ _)); exact BK335.out⟩, ⟨by (with_reducible repeat (first | refine blk_drewN ?_ _ | refine blk_drew ?_ | refine blk_alloc ?_ _)); exact BK336.out⟩, ⟨by repeat (first | (with_reducible first | exact HB.out | apply below_alloc | apply pw_below_drewN | apply below_drew1 | refine below_set ?_ GE335.out | refine below_set ?_ GE336.out) | exact HB.out)⟩⟩
        case round =>
          clear H'
          try clear c1
          try clear c2
          try clear p2
          try clear c8
          try clear c9
          try clear c9b0
          try clear c9b1
          try clear c10
          try clear c13
          try clear c16
          try clear c18
          try clear c19
          try clear c20
          try clear hcz11_0
          try clear hcz11_1
          try clear hcz11_2
          try clear hcz11_3
          try clear hcz14_0
          try clear hcz14_1
          try clear hcz14_2
          try clear hcz14_3
          try clear hcz17_0
          try clear hcz17_1
          try clear hcz17_2
          try clear hcz17_3
          try clear hcz21_0
          try clear hcz21_1
          try clear hcz21_2
          try clear hcz21_3
          try clear hcz21_4
          try clear hcz21_5
          try clear hcz21_6
          try clear hcz21_7
          try clear hcz21_8
          try clear hfz11_0
          try clear hfz11_1
          try clear hfz11_2
          try clear hfz11_3
          try clear hfz14_0
          try clear hfz14_1
          try clear hfz14_2
          try clear hfz14_3
          try clear hfz17_0
          try clear hfz17_1
          try clear hfz17_2
          try clear hfz17_3
          try clear hfz21_0
          try clear hfz21_1
          try clear hfz21_2
          try clear hfz21_3
          try clear hfz21_4
          try clear hfz21_5
          try clear hfz21_6
          try clear hfz21_7
          try clear hfz21_8
          try clear p2
          obtain ⟨x8_2, x337000_2, x337001_2, x337002_2, x337003_2, x337004_2, x337005_2, x337006_2, x337007_2, x337008_2, rfl, HA, HK2, BK335, BK336, HB⟩ := hrel
          cases gk with
          | zero => exact absurd HA.out (by simp [spec_MachineFrom.l0])
          | succ k2 =>
            have H := HA.out
            clear HA
            simp only [spec_MachineFrom.l0] at H
            by_cases c22 : x8_2 < 4
            · rw [if_pos c22] at H
              have c22b0 : decide (x8_2 < 4) = true := decide_eq_true c22
              clear c22
              by_cases c23 : 0 ≤ x8_2
              · rw [if_pos c23] at H
                have c23b0 : decide (0 ≤ x8_2) = true := decide_eq_true c23
                clear c23
                by_cases c24 : x8_2 < (l1.length : Int)
                · rw [if_pos c24] at H
                  have c24b0 : decide (x8_2 < (l1.length : Int)) = true := decide_eq_true c24
                  clear c24
                  replace H := Option.bind_eq_some_iff.mp H
                  obtain ⟨t339, A250, H⟩ := H
                  replace H : (if t339 = true then (if x8_2 < (l2.length : Int) then ((spec_l00In.f (rd l2 x8_2) 0 2400).bind fun t341 => (if t341 = true then (spec_MachineFrom.l0 k2 l1 l2 (wrap64 (x8_2 + 1)) a0_0 a0_1 a0_2 a0_3) else (some (0, 0, 0, 0, 0, 0, 0, 0, 0, false)))) else (none)) else (some (0, 0, 0, 0, 0, 0, 0, 0, 0, false))) = some (r1, r2, r3, r4, r5, r6, r7, r8, r9, r10) := H
                  have A25 := Aside0.mk A250
                  clear A250
                  by_cases c26 : t339 = true
                  · subst c26
                    have H1 : (if x8_2 < (l2.length : Int) then ((spec_l00In.f (rd l2 x8_2) 0 2400).bind fun t341 => (if t341 = true then (spec_MachineFrom.l0 k2 l1 l2 (wrap64 (x8_2 + 1)) a0_0 a0_1 a0_2 a0_3) else (some (0, 0, 0, 0, 0, 0, 0, 0, 0, false)))) else (none)) = some (r1, r2, r3, r4, r5, r6, r7, r8, r9, r10) := by rw [if_pos rfl] at H; exact H
                    clear H
                    have H := H1
                    clear H1
                    by_cases c27 : x8_2 < (l2.length : Int)
                    · rw [if_pos c27] at H
                      have c27b0 : decide (x8_2 < (l2.length : Int)) = true := decide_eq_true c27
                      clear c27
                      replace H := Option.bind_eq_some_iff.mp H
                      obtain ⟨t341, A280, H⟩ := H
                      replace H : (if t341 = true then (spec_MachineFrom.l0 k2 l1 l2 (wrap64 (x8_2 + 1)) a0_0 a0_1 a0_2 a0_3) else (some (0, 0, 0, 0, 0, 0, 0, 0, 0, false))) = some (r1, r2, r3, r4, r5, r6, r7, r8, r9, r10) := H
                      have A28 := Aside0.mk A280
                      clear A280
                      by_cases c29 : t341 = true
                      · subst c29
                        have H1 : (spec_MachineFrom.l0 k2 l1 l2 (wrap64 (x8_2 + 1)) a0_0 a0_1 a0_2 a0_3) = some (r1, r2, r3, r4, r5, r6, r7, r8, r9, r10) := by rw [if_pos rfl] at H; exact H
                        clear H
                        have H := H1
                        clear H1
                        have H' := Aside0.mk H
                        clear H
                        have p338 : 0 ≤ (x8_2 : Int) := of_decide_eq_true (by first | (with_reducible assumption) | assumption)
                        have q338 : x8_2 < (l1.length : Int) := of_decide_eq_true (by first | (with_reducible assumption) | assumption)
                        obtain ⟨ad338, e338, hx338_0⟩ := Kd.at_int HR1.out x8_2 p338 q338
                        cases e338
                        replace hx338_0 := (HB.out.cell (World.block_lt_of_cell? w _ hx338_0)).trans hx338_0
                        replace p338 := eq_true p338
                        replace q338 := eq_true q338
                        go_wp2_with (first | ((with_reducible refine gate_callee (f := 19) rfl ?_); refine goesL_ (some 32) rfl rfl Try.func19 (by kernel_rfl) rfl #[.int .i64 (rd l1 x8_2), .int .i64 0, .int .i64 80] rfl (by (try simp only [List.map_toArray, List.map_cons, List.map_nil]); first | done | rfl | (simp only [List.length_drop, List.length_take]; rfl)) ?_; (with_reducible refine (spec_l00In.calls (rd l1 x8_2) 0 80 true _ A25.out).mono ?_); rintro e w' ⟨rfl, ⟨nd, rfl⟩⟩; refine ⟨_, rfl, ?_⟩; have p340 : 0 ≤ (x8_2 : Int) := of_decide_eq_true (by first | (with_reducible assumption) | assumption); have q340 : x8_2 < (l2.length : Int) := of_decide_eq_true (by first | (with_reducible assumption) | assumption); obtain ⟨ad340, e340, hx340_0⟩ := Kd.at_int HR2.out x8_2 p340 q340; cases e340; replace hx340_0 := (HB.out.cell (World.block_lt_of_cell? w _ hx340_0)).trans hx340_0; replace p340 := eq_true p340; replace q340 := eq_true q340) | (go_at_call 19; (with_reducible refine (spec_l00In.calls (rd l2 x8_2) 0 2400 true _ A28.out).mono ?_); rintro e w' ⟨rfl, ⟨nd, rfl⟩⟩))
                        go_roundg k2
                        case measure => have := HJ3.out; have := HK2.out; omega
                        case rel => exact ⟨(wrap64 (x8_2 + 1)), (x337000_2), (x337001_2), (x337002_2), (x337003_2), (x337004_2), (x337005_2), (x337006_2), (x337007_2), (x337008_2), (by first | rfl | (simp; done) | (simp [*]; done)), H', ⟨by have := HJ3.out; have := HK2.out; omega⟩, ⟨by (with_reducible repeat (first | refine blk_drewN ?_ _ | refine blk_drew ?_ | refine blk_alloc ?_ _)); exact BK335.out⟩, ⟨by (with_reducible repeat (first | refine blk_drewN ?_ _ | refine blk_drew ?_ | refine blk_alloc ?_ _)); exact BK336.out⟩, ⟨by repeat (first | (with_reducible first | exact HB.out | apply below_alloc | apply pw_below_drewN | apply below_drew1 | refine below_set ?_ GE335.out | refine below_set ?_ GE336.out) | exact HB.out)⟩⟩
                      · replace c29 := Bool.eq_false_iff.mpr c29
                        subst c29
                        have H1 : (some (0, 0, 0, 0, 0, 0, 0, 0, 0, false)) = some (r1, r2, r3, r4, r5, r6, r7, r8, r9, r10) := by rw [if_neg (show ¬ (false = true) by decide)] at H; exact H
                        clear H
                        have H := H1
                        clear H1
                        simp only [Option.some.injEq, Prod.mk.injEq] at H
                        obtain ⟨rfl, rfl, rfl, rfl, rfl, rfl, rfl, rfl, rfl, rfl⟩ := H
                        have p338 : 0 ≤ (x8_2 : Int) := of_decide_eq_true (by first | (with_reducible assumption) | assumption)
                        have q338 : x8_2 < (l1.length : Int) := of_decide_eq_true (by first | (with_reducible assumption) | assumption)
                        obtain ⟨ad338, e338, hx338_0⟩ := Kd.at_int HR1.out x8_2 p338 q338
                        cases e338
                        replace hx338_0 := (HB.out.cell (World.block_lt_of_cell? w _ hx338_0)).trans hx338_0
                        replace p338 := eq_true p338
                        replace q338 := eq_true q338
                        go_wp2_with (first | ((with_reducible refine gate_callee (f := 19) rfl ?_); refine goesL_ (some 32) rfl rfl Try.func19 (by kernel_rfl) rfl #[.int .i64 (rd l1 x8_2), .int .i64 0, .int .i64 80] rfl (by (try simp only [List.map_toArray, List.map_cons, List.map_nil]); first | done | rfl | (simp only [List.length_drop, List.length_take]; rfl)) ?_; (with_reducible refine (spec_l00In.calls (rd l1 x8_2) 0 80 true _ A25.out).mono ?_); rintro e w' ⟨rfl, ⟨nd, rfl⟩⟩; refine ⟨_, rfl, ?_⟩; (try (rw [drewN_self wr]; generalize hq_ : World.drewN wr _ = wr; have n0_ : Aside0 (wr.heap[gb335]? = some (.cells #[.int .i64 a0_0, .int .i64 a0_1, .int .i64 a0_2, .int .i64 a0_3] 25 (0, 0))) := ⟨by rw [← hq_]; exact (by (with_reducible repeat (first | refine blk_drewN ?_ _ | refine blk_drew ?_ | refine blk_alloc ?_ _)); exact BK335.out)⟩; have n1_ : Aside0 (wr.heap[gb336]? = some (.cells #[.int .i64 x337000_2, .int .i64 x337001_2, .int .i64 x337002_2, .int .i64 x337003_2, .int .i64 x337004_2, .int .i64 x337005_2, .int .i64 x337006_2, .int .i64 x337007_2, .int .i64 x337008_2] 38 (0, 0))) := ⟨by rw [← hq_]; exact (by (with_reducible repeat (first | refine blk_drewN ?_ _ | refine blk_drew ?_ | refine blk_alloc ?_ _)); exact BK336.out)⟩; have n2_ : Aside0 (Below w.heap.size w wr) := ⟨by rw [← hq_]; exact (by repeat (first | (with_reducible first | exact HB.out | apply below_alloc | apply pw_below_drewN | apply below_drew1 | refine below_set ?_ GE335.out | refine below_set ?_ GE336.out) | exact HB.out))⟩; clear BK335 BK336 HB hq_; have BK335 := n0_; have BK336 := n1_; have HB := n2_; clear n0_ n1_ n2_)); have p340 : 0 ≤ (x8_2 : Int) := of_decide_eq_true (by first | (with_reducible assumption) | assumption); have q340 : x8_2 < (l2.length : Int) := of_decide_eq_true (by first | (with_reducible assumption) | assumption); obtain ⟨ad340, e340, hx340_0⟩ := Kd.at_int HR2.out x8_2 p340 q340; cases e340; replace hx340_0 := (HB.out.cell (World.block_lt_of_cell? w _ hx340_0)).trans hx340_0; replace p340 := eq_true p340; replace q340 := eq_true q340) | (go_at_call 19; (with_reducible refine (spec_l00In.calls (rd l2 x8_2) 0 2400 false _ A28.out).mono ?_); rintro e w' ⟨rfl, ⟨nd, rfl⟩⟩; (try (rw [drewN_self wr]; generalize hq_ : World.drewN wr _ = wr; have n0_ : Aside0 (wr.heap[gb335]? = some (.cells #[.int .i64 a0_0, .int .i64 a0_1, .int .i64 a0_2, .int .i64 a0_3] 25 (0, 0))) := ⟨by rw [← hq_]; exact (by (with_reducible repeat (first | refine blk_drewN ?_ _ | refine blk_drew ?_ | refine blk_alloc ?_ _)); exact BK335.out)⟩; have n1_ : Aside0 (wr.heap[gb336]? = some (.cells #[.int .i64 x337000_2, .int .i64 x337001_2, .int .i64 x337002_2, .int .i64 x337003_2, .int .i64 x337004_2, .int .i64 x337005_2, .int .i64 x337006_2, .int .i64 x337007_2, .int .i64 x337008_2] 38 (0, 0))) := ⟨by rw [← hq_]; exact (by (with_reducible repeat (first | refine blk_drewN ?_ _ | refine blk_drew ?_ | refine blk_alloc ?_ _)); exact BK336.out)⟩; have n2_ : Aside0 (Below w.heap.size w wr) := ⟨by rw [← hq_]; exact (by repeat (first | (with_reducible first | exact HB.out | apply below_alloc | apply pw_below_drewN | apply below_drew1 | refine below_set ?_ GE335.out | refine below_set ?_ GE336.out) | exact HB.out))⟩; clear BK335 BK336 HB hq_; have BK335 := n0_; have BK336 := n1_; have HB := n2_; clear n0_ n1_ n2_)); have hnb30 := NB336_335.out; have hnc30 := NB335_336.out; have hcz31_0 : wr.cell? ⟨gb336, 0, none⟩ = some (.int .i64 x337000_2) := (blk_cell BK336.out 0).trans rfl; have hcz31_1 : wr.cell? ⟨gb336, 1, none⟩ = some (.int .i64 x337001_2) := (blk_cell BK336.out 1).trans rfl; have hcz31_2 : wr.cell? ⟨gb336, 2, none⟩ = some (.int .i64 x337002_2) := (blk_cell BK336.out 2).trans rfl; have hcz31_3 : wr.cell? ⟨gb336, 3, none⟩ = some (.int .i64 x337003_2) := (blk_cell BK336.out 3).trans rfl; have hcz31_4 : wr.cell? ⟨gb336, 4, none⟩ = some (.int .i64 x337004_2) := (blk_cell BK336.out 4).trans rfl; have hcz31_5 : wr.cell? ⟨gb336, 5, none⟩ = some (.int .i64 x337005_2) := (blk_cell BK336.out 5).trans rfl; have hcz31_6 : wr.cell? ⟨gb336, 6, none⟩ = some (.int .i64 x337006_2) := (blk_cell BK336.out 6).trans rfl; have hcz31_7 : wr.cell? ⟨gb336, 7, none⟩ = some (.int .i64 x337007_2) := (blk_cell BK336.out 7).trans rfl; have hcz31_8 : wr.cell? ⟨gb336, 8, none⟩ = some (.int .i64 x337008_2) := (blk_cell BK336.out 8).trans rfl; have hfz31_0 := blk_frozen BK336.out 0; have hfz31_1 := blk_frozen BK336.out 1; have hfz31_2 := blk_frozen BK336.out 2; have hfz31_3 := blk_frozen BK336.out 3; have hfz31_4 := blk_frozen BK336.out 4; have hfz31_5 := blk_frozen BK336.out 5; have hfz31_6 := blk_frozen BK336.out 6; have hfz31_7 := blk_frozen BK336.out 7; have hfz31_8 := blk_frozen BK336.out 8))
                        refine bodyPost_ret (results_ct rfl _ _ gb336 38 #[.int .i64 0, .int .i64 0, .int .i64 0, .int .i64 0, .int .i64 0, .int .i64 0, .int .i64 0, .int .i64 0, .int .i64 0] (0, 0) _ rfl (by (with_reducible repeat (first | refine blk_drewN ?_ _ | refine blk_drew ?_ | refine blk_alloc ?_ _)); refine blk_put (cs := #[.int .i64 0, .int .i64 0, .int .i64 0, .int .i64 0, .int .i64 0, .int .i64 0, .int .i64 0, .int .i64 0, .int .i64 x337008_2]) ?_ 8 _ rfl; (with_reducible repeat (first | refine blk_drewN ?_ _ | refine blk_drew ?_ | refine blk_alloc ?_ _)); refine blk_put (cs := #[.int .i64 0, .int .i64 0, .int .i64 0, .int .i64 0, .int .i64 0, .int .i64 0, .int .i64 0, .int .i64 x337007_2, .int .i64 x337008_2]) ?_ 7 _ rfl; (with_reducible repeat (first | refine blk_drewN ?_ _ | refine blk_drew ?_ | refine blk_alloc ?_ _)); refine blk_put (cs := #[.int .i64 0, .int .i64 0, .int .i64 0, .int .i64 0, .int .i64 0, .int .i64 0, .int .i64 x337006_2, .int .i64 x337007_2, .int .i64 x337008_2]) ?_ 6 _ rfl; (with_reducible repeat (first | refine blk_drewN ?_ _ | refine blk_drew ?_ | refine blk_alloc ?_ _)); refine blk_put (cs := #[.int .i64 0, .int .i64 0, .int .i64 0, .int .i64 0, .int .i64 0, .int .i64 x337005_2, .int .i64 x337006_2, .int .i64 x337007_2, .int .i64 x337008_2]) ?_ 5 _ rfl; (with_reducible repeat (first | refine blk_drewN ?_ _ | refine blk_drew ?_ | refine blk_alloc ?_ _)); refine blk_put (cs := #[.int .i64 0, .int .i64 0, .int .i64 0, .int .i64 0, .int .i64 x337004_2, .int .i64 x337005_2, .int .i64 x337006_2, .int .i64 x337007_2, .int .i64 x337008_2]) ?_ 4 _ rfl; (with_reducible repeat (first | refine blk_drewN ?_ _ | refine blk_drew ?_ | refine blk_alloc ?_ _)); refine blk_put (cs := #[.int .i64 0, .int .i64 0, .int .i64 0, .int .i64 x337003_2, .int .i64 x337004_2, .int .i64 x337005_2, .int .i64 x337006_2, .int .i64 x337007_2, .int .i64 x337008_2]) ?_ 3 _ rfl; (with_reducible repeat (first | refine blk_drewN ?_ _ | refine blk_drew ?_ | refine blk_alloc ?_ _)); refine blk_put (cs := #[.int .i64 0, .int .i64 0, .int .i64 x337002_2, .int .i64 x337003_2, .int .i64 x337004_2, .int .i64 x337005_2, .int .i64 x337006_2, .int .i64 x337007_2, .int .i64 x337008_2]) ?_ 2 _ rfl; (with_reducible repeat (first | refine blk_drewN ?_ _ | refine blk_drew ?_ | refine blk_alloc ?_ _)); refine blk_put (cs := #[.int .i64 0, .int .i64 x337001_2, .int .i64 x337002_2, .int .i64 x337003_2, .int .i64 x337004_2, .int .i64 x337005_2, .int .i64 x337006_2, .int .i64 x337007_2, .int .i64 x337008_2]) ?_ 1 _ rfl; (with_reducible repeat (first | refine blk_drewN ?_ _ | refine blk_drew ?_ | refine blk_alloc ?_ _)); refine blk_put (cs := #[.int .i64 x337000_2, .int .i64 x337001_2, .int .i64 x337002_2, .int .i64 x337003_2, .int .i64 x337004_2, .int .i64 x337005_2, .int .i64 x337006_2, .int .i64 x337007_2, .int .i64 x337008_2]) ?_ 0 _ rfl; (with_reducible repeat (first | refine blk_drewN ?_ _ | refine blk_drew ?_ | refine blk_alloc ?_ _)); exact BK336.out) Try.underlying38 rfl (by kernel_rfl)) rfl ?_
                        exact ⟨by first | rfl | (simp [errW_none, errW_some] <;> rfl) | (simp [*, errW_none, errW_some] <;> rfl), by repeat (first | (with_reducible first | exact HB.out | apply below_alloc | apply pw_below_drewN | apply below_drew1 | refine below_set ?_ GE335.out | refine below_set ?_ GE336.out) | exact HB.out)⟩
                    · rw [if_neg c27] at H
                      exact absurd H (by simp)
                  · replace c26 := Bool.eq_false_iff.mpr c26
                    subst c26
                    have H1 : (some (0, 0, 0, 0, 0, 0, 0, 0, 0, false)) = some (r1, r2, r3, r4, r5, r6, r7, r8, r9, r10) := by rw [if_neg (show ¬ (false = true) by decide)] at H; exact H
                    clear H
                    have H := H1
                    clear H1
                    simp only [Option.some.injEq, Prod.mk.injEq] at H
                    obtain ⟨rfl, rfl, rfl, rfl, rfl, rfl, rfl, rfl, rfl, rfl⟩ := H
                    have p338 : 0 ≤ (x8_2 : Int) := of_decide_eq_true (by first | (with_reducible assumption) | assumption)
                    have q338 : x8_2 < (l1.length : Int) := of_decide_eq_true (by first | (with_reducible assumption) | assumption)
                    obtain ⟨ad338, e338, hx338_0⟩ := Kd.at_int HR1.out x8_2 p338 q338
                    cases e338
                    replace hx338_0 := (HB.out.cell (World.block_lt_of_cell? w _ hx338_0)).trans hx338_0
                    replace p338 := eq_true p338
                    replace q338 := eq_true q338
                    go_wp2_with (first | ((with_reducible refine gate_callee (f := 19) rfl ?_); refine goesL_ (some 32) rfl rfl Try.func19 (by kernel_rfl) rfl #[.int .i64 (rd l1 x8_2), .int .i64 0, .int .i64 80] rfl (by (try simp only [List.map_toArray, List.map_cons, List.map_nil]); first | done | rfl | (simp only [List.length_drop, List.length_take]; rfl)) ?_; (with_reducible refine (spec_l00In.calls (rd l1 x8_2) 0 80 false _ A25.out).mono ?_); rintro e w' ⟨rfl, ⟨nd, rfl⟩⟩; refine ⟨_, rfl, ?_⟩; (try (rw [drewN_self wr]; generalize hq_ : World.drewN wr _ = wr; have n0_ : Aside0 (wr.heap[gb335]? = some (.cells #[.int .i64 a0_0, .int .i64 a0_1, .int .i64 a0_2, .int .i64 a0_3] 25 (0, 0))) := ⟨by rw [← hq_]; exact (by (with_reducible repeat (first | refine blk_drewN ?_ _ | refine blk_drew ?_ | refine blk_alloc ?_ _)); exact BK335.out)⟩; have n1_ : Aside0 (wr.heap[gb336]? = some (.cells #[.int .i64 x337000_2, .int .i64 x337001_2, .int .i64 x337002_2, .int .i64 x337003_2, .int .i64 x337004_2, .int .i64 x337005_2, .int .i64 x337006_2, .int .i64 x337007_2, .int .i64 x337008_2] 38 (0, 0))) := ⟨by rw [← hq_]; exact (by (with_reducible repeat (first | refine blk_drewN ?_ _ | refine blk_drew ?_ | refine blk_alloc ?_ _)); exact BK336.out)⟩; have n2_ : Aside0 (Below w.heap.size w wr) := ⟨by rw [← hq_]; exact (by repeat (first | (with_reducible first | exact HB.out | apply below_alloc | apply pw_below_drewN | apply below_drew1 | refine below_set ?_ GE335.out | refine below_set ?_ GE336.out) | exact HB.out))⟩; clear BK335 BK336 HB hq_; have BK335 := n0_; have BK336 := n1_; have HB := n2_; clear n0_ n1_ n2_)); have hnb32 := NB336_335.out; have hnc32 := NB335_336.out; have hcz33_0 : wr.cell? ⟨gb336, 0, none⟩ = some (.int .i64 x337000_2) := (blk_cell BK336.out 0).trans rfl; have hcz33_1 : wr.cell? ⟨gb336, 1, none⟩ = some (.int .i64 x337001_2) := (blk_cell BK336.out 1).trans rfl; have hcz33_2 : wr.cell? ⟨gb336, 2, none⟩ = some (.int .i64 x337002_2) := (blk_cell BK336.out 2).trans rfl; have hcz33_3 : wr.cell? ⟨gb336, 3, none⟩ = some (.int .i64 x337003_2) := (blk_cell BK336.out 3).trans rfl; have hcz33_4 : wr.cell? ⟨gb336, 4, none⟩ = some (.int .i64 x337004_2) := (blk_cell BK336.out 4).trans rfl; have hcz33_5 : wr.cell? ⟨gb336, 5, none⟩ = some (.int .i64 x337005_2) := (blk_cell BK336.out 5).trans rfl; have hcz33_6 : wr.cell? ⟨gb336, 6, none⟩ = some (.int .i64 x337006_2) := (blk_cell BK336.out 6).trans rfl; have hcz33_7 : wr.cell? ⟨gb336, 7, none⟩ = some (.int .i64 x337007_2) := (blk_cell BK336.out 7).trans rfl; have hcz33_8 : wr.cell? ⟨gb336, 8, none⟩ = some (.int .i64 x337008_2) := (blk_cell BK336.out 8).trans rfl; have hfz33_0 := blk_frozen BK336.out 0; have hfz33_1 := blk_frozen BK336.out 1; have hfz33_2 := blk_frozen BK336.out 2; have hfz33_3 := blk_frozen BK336.out 3; have hfz33_4 := blk_frozen BK336.out 4; have hfz33_5 := blk_frozen BK336.out 5; have hfz33_6 := blk_frozen BK336.out 6; have hfz33_7 := blk_frozen BK336.out 7; have hfz33_8 := blk_frozen BK336.out 8))
                    refine bodyPost_ret (results_ct rfl _ _ gb336 38 #[.int .i64 0, .int .i64 0, .int .i64 0, .int .i64 0, .int .i64 0, .int .i64 0, .int .i64 0, .int .i64 0, .int .i64 0] (0, 0) _ rfl (by (with_reducible repeat (first | refine blk_drewN ?_ _ | refine blk_drew ?_ | refine blk_alloc ?_ _)); refine blk_put (cs := #[.int .i64 0, .int .i64 0, .int .i64 0, .int .i64 0, .int .i64 0, .int .i64 0, .int .i64 0, .int .i64 0, .int .i64 x337008_2]) ?_ 8 _ rfl; (with_reducible repeat (first | refine blk_drewN ?_ _ | refine blk_drew ?_ | refine blk_alloc ?_ _)); refine blk_put (cs := #[.int .i64 0, .int .i64 0, .int .i64 0, .int .i64 0, .int .i64 0, .int .i64 0, .int .i64 0, .int .i64 x337007_2, .int .i64 x337008_2]) ?_ 7 _ rfl; (with_reducible repeat (first | refine blk_drewN ?_ _ | refine blk_drew ?_ | refine blk_alloc ?_ _)); refine blk_put (cs := #[.int .i64 0, .int .i64 0, .int .i64 0, .int .i64 0, .int .i64 0, .int .i64 0, .int .i64 x337006_2, .int .i64 x337007_2, .int .i64 x337008_2]) ?_ 6 _ rfl; (with_reducible repeat (first | refine blk_drewN ?_ _ | refine blk_drew ?_ | refine blk_alloc ?_ _)); refine blk_put (cs := #[.int .i64 0, .int .i64 0, .int .i64 0, .int .i64 0, .int .i64 0, .int .i64 x337005_2, .int .i64 x337006_2, .int .i64 x337007_2, .int .i64 x337008_2]) ?_ 5 _ rfl; (with_reducible repeat (first | refine blk_drewN ?_ _ | refine blk_drew ?_ | refine blk_alloc ?_ _)); refine blk_put (cs := #[.int .i64 0, .int .i64 0, .int .i64 0, .int .i64 0, .int .i64 x337004_2, .int .i64 x337005_2, .int .i64 x337006_2, .int .i64 x337007_2, .int .i64 x337008_2]) ?_ 4 _ rfl; (with_reducible repeat (first | refine blk_drewN ?_ _ | refine blk_drew ?_ | refine blk_alloc ?_ _)); refine blk_put (cs := #[.int .i64 0, .int .i64 0, .int .i64 0, .int .i64 x337003_2, .int .i64 x337004_2, .int .i64 x337005_2, .int .i64 x337006_2, .int .i64 x337007_2, .int .i64 x337008_2]) ?_ 3 _ rfl; (with_reducible repeat (first | refine blk_drewN ?_ _ | refine blk_drew ?_ | refine blk_alloc ?_ _)); refine blk_put (cs := #[.int .i64 0, .int .i64 0, .int .i64 x337002_2, .int .i64 x337003_2, .int .i64 x337004_2, .int .i64 x337005_2, .int .i64 x337006_2, .int .i64 x337007_2, .int .i64 x337008_2]) ?_ 2 _ rfl; (with_reducible repeat (first | refine blk_drewN ?_ _ | refine blk_drew ?_ | refine blk_alloc ?_ _)); refine blk_put (cs := #[.int .i64 0, .int .i64 x337001_2, .int .i64 x337002_2, .int .i64 x337003_2, .int .i64 x337004_2, .int .i64 x337005_2, .int .i64 x337006_2, .int .i64 x337007_2, .int .i64 x337008_2]) ?_ 1 _ rfl; (with_reducible repeat (first | refine blk_drewN ?_ _ | refine blk_drew ?_ | refine blk_alloc ?_ _)); refine blk_put (cs := #[.int .i64 x337000_2, .int .i64 x337001_2, .int .i64 x337002_2, .int .i64 x337003_2, .int .i64 x337004_2, .int .i64 x337005_2, .int .i64 x337006_2, .int .i64 x337007_2, .int .i64 x337008_2]) ?_ 0 _ rfl; (with_reducible repeat (first | refine blk_drewN ?_ _ | refine blk_drew ?_ | refine blk_alloc ?_ _)); exact BK336.out) Try.underlying38 rfl (by kernel_rfl)) rfl ?_
                    exact ⟨by first | rfl | (simp [errW_none, errW_some] <;> rfl) | (simp [*, errW_none, errW_some] <;> rfl), by repeat (first | (with_reducible first | exact HB.out | apply below_alloc | apply pw_below_drewN | apply below_drew1 | refine below_set ?_ GE335.out | refine below_set ?_ GE336.out) | exact HB.out)⟩
                · rw [if_neg c24] at H
                  exact absurd H (by simp)
              · rw [if_neg c23] at H
                exact absurd H (by simp)
            · rw [if_neg c22] at H
              have c22b0 : decide (x8_2 < 4) = false := decide_eq_false c22
              clear c22
              by_cases c34 : 0 < (l2.length : Int)
              · rw [if_pos c34] at H
                have c34b0 : decide (0 < (l2.length : Int)) = true := decide_eq_true c34
                have c34b1 : decide (0 < l2.length) = true := decide_eq_true (by omega)
                clear c34
                by_cases c35 : 2 < (l2.length : Int)
                · rw [if_pos c35] at H
                  have c35b0 : decide (2 < (l2.length : Int)) = true := decide_eq_true c35
                  have c35b1 : decide (2 < l2.length) = true := decide_eq_true (by omega)
                  clear c35
                  by_cases c36 : 3 < (l2.length : Int)
                  · rw [if_pos c36] at H
                    have c36b0 : decide (3 < (l2.length : Int)) = true := decide_eq_true c36
                    have c36b1 : decide (3 < l2.length) = true := decide_eq_true (by omega)
                    clear c36
                    by_cases c37 : 1 < (l2.length : Int)
                    · rw [if_pos c37] at H
                      have c37b0 : decide (1 < (l2.length : Int)) = true := decide_eq_true c37
                      have c37b1 : decide (1 < l2.length) = true := decide_eq_true (by omega)
                      clear c37
                      by_cases c38 : 0 < (l1.length : Int)
                      · rw [if_pos c38] at H
                        have c38b0 : decide (0 < (l1.length : Int)) = true := decide_eq_true c38
                        have c38b1 : decide (0 < l1.length) = true := decide_eq_true (by omega)
                        clear c38
                        by_cases c39 : 1 < (l1.length : Int)
                        · rw [if_pos c39] at H
                          have c39b0 : decide (1 < (l1.length : Int)) = true := decide_eq_true c39
                          have c39b1 : decide (1 < l1.length) = true := decide_eq_true (by omega)
                          clear c39
                          have HC40 := Aside0.mk H
                          clear H
                          try go_wp2
                          have n0_ := Aside0.mk (blk_drew BK335.out)
                          have n1_ := Aside0.mk (blk_drew BK336.out)
                          have n2_ := Aside0.mk (below_drew1 HB.out)
                          clear BK335
                          clear BK336
                          clear HB
                          have BK335 := n0_
                          have BK336 := n1_
                          have HB := n2_
                          clear n0_ n1_ n2_
                          have p342 : 0 ≤ (0 : Int) := (by omega)
                          have q342 : 0 < (l2.length : Int) := of_decide_eq_true (by first | (with_reducible assumption) | assumption)
                          obtain ⟨ad342, e342, hx342_0⟩ := Kd.at_int HR2.out 0 p342 q342
                          have hw342_0 := hx342_0
                          (try rw [show ((0 : Int)).toNat = 0 from rfl] at hw342_0)
                          (try rw [show 0 * 1 = 0 from rfl] at hw342_0)
                          (try rw [Addr.add_zero'] at hw342_0)
                          cases e342
                          have qi342 : (0 < l2.length) = True := eq_true (by omega)
                          (try rw [show ((0 : Int)).toNat = 0 from rfl] at hx342_0)
                          (try rw [Addr.add_zero'] at hx342_0)
                          replace hx342_0 := (HB.out.cell (World.block_lt_of_cell? w _ hx342_0)).trans hx342_0
                          replace p342 := eq_true p342
                          replace q342 := eq_true q342
                          have p343 : 0 ≤ (2 : Int) := (by omega)
                          have q343 : 2 < (l2.length : Int) := of_decide_eq_true (by first | (with_reducible assumption) | assumption)
                          obtain ⟨ad343, e343, hx343_0⟩ := Kd.at_int HR2.out 2 p343 q343
                          have hw343_0 := hx343_0
                          (try rw [show ((2 : Int)).toNat = 2 from rfl] at hw343_0)
                          (try rw [show 2 * 1 = 2 from rfl] at hw343_0)
                          (try simp only [Nat.reduceMul, Nat.reduceEqDiff, Go.Addr.add, ↓reduceIte] at hw343_0)
                          obtain rfl : ad342 = ad343 := (by injection e343)
                          (try simp only [show (2 : Int).toNat = 2 from rfl, Nat.reduceMul, Nat.reduceEqDiff, Go.Addr.add, ↓reduceIte] at hx343_0)
                          have qi343 : (2 < l2.length) = True := eq_true (by omega)
                          (try rw [show ((2 : Int)).toNat = 2 from rfl] at hx343_0)
                          replace hx343_0 := (HB.out.cell (World.block_lt_of_cell? w _ hx343_0)).trans hx343_0
                          replace p343 := eq_true p343
                          replace q343 := eq_true q343
                          refine start_ (n := 12) (S := fun w' => w'.cell? ⟨gb335, 0, none⟩ = some (.int .i64 a0_0) ∧ w'.cell? ⟨gb335, 1, none⟩ = some (.int .i64 a0_1) ∧ w'.cell? ⟨gb335, 2, none⟩ = some (.int .i64 a0_2) ∧ w'.cell? ⟨gb335, 3, none⟩ = some (.int .i64 a0_3) ∧ w'.cell? ad342 = some (.int .i64 (rd l2 0)) ∧ w'.cell? ⟨ad342.block, ad342.off + 2, none⟩ = some (.int .i64 (rd l2 2))) (ds := []) #[false, false, false, false, false, false, false, false, false, false, false, false] (by kernel_rfl) rfl rfl ⟨(blk_cell BK335.out 0).trans rfl, (blk_cell BK335.out 1).trans rfl, (blk_cell BK335.out 2).trans rfl, (blk_cell BK335.out 3).trans rfl, ((HB.out.cell (World.block_lt_of_cell? w _ hw342_0)).trans hw342_0), ((HB.out.cell (World.block_lt_of_cell? w _ hw343_0)).trans hw343_0)⟩ (fun hHeld => ?_); refine with_tabW spec_MachineFrom.tab8 spec_MachineFrom.bits8 (fun HT_ HW_ => ?_)
                          generalize wr.drew = w41 at BK335 BK336 HB hx342_0 hx343_0 hHeld ⊢
                          refine pure_ (i := 1) (N := some 44) (v := ?_) (a' := ?_) #[false, true, false, false, false, false, false, false, false, false, false, false] rfl rfl (any_of HT_.out (by kernel_rfl)) (fun _ _ _ h => h) (Or.inl ⟨by rfl, ?_⟩) ?_ ?_
                          rotate_left
                          · intro w'
                            go_simp
                            with_reducible rfl
                          rotate_left
                          · simp only [Act.put, List.setIfInBounds_toArray, List.set_cons_zero, List.set_cons_succ, i64_w, i32_w]
                            rfl
                          refine pure_ (i := 2) (N := some 45) (v := ?_) (a' := ?_) #[false, true, true, false, false, false, false, false, false, false, false, false] rfl rfl (any_of HT_.out (by kernel_rfl)) (fun _ _ _ h => h) (Or.inl ⟨by rfl, ?_⟩) ?_ ?_
                          rotate_left
                          · intro w'
                            go_simp
                            with_reducible rfl
                          rotate_left
                          · simp only [Act.put, List.setIfInBounds_toArray, List.set_cons_zero, List.set_cons_succ, i64_w, i32_w]
                            rfl
                          refine pure_ (i := 4) (N := some 47) (v := ?_) (a' := ?_) #[false, true, true, false, true, false, false, false, false, false, false, false] rfl rfl (any_of HT_.out (by kernel_rfl)) (fun _ _ _ h => h) (Or.inl ⟨by rfl, ?_⟩) ?_ ?_
                          rotate_left
                          · intro w'
                            go_simp
                            with_reducible rfl
                          rotate_left
                          · simp only [Act.put, List.setIfInBounds_toArray, List.set_cons_zero, List.set_cons_succ, i64_w, i32_w]
                            rfl
                          refine pure_ (i := 5) (N := some 48) (v := ?_) (a' := ?_) #[false, true, true, false, true, true, false, false, false, false, false, false] rfl rfl (any_of HT_.out (by kernel_rfl)) (fun _ _ _ h => h) (Or.inl ⟨by rfl, ?_⟩) ?_ ?_
                          rotate_left
                          · intro w'
                            go_simp
                            with_reducible rfl
                          rotate_left
                          · simp only [Act.put, List.setIfInBounds_toArray, List.set_cons_zero, List.set_cons_succ, i64_w, i32_w]
                            rfl
                          refine take_ (i := 0) (N := some 43) (v := ?_) (a' := ?_) #[true, true, true, false, true, true, false, false, false, false, false, false] rfl rfl (take_ofW HT_.out HW_.out (by kernel_rfl)) (fun _ _ _ h => h) (Or.inl ⟨by rfl, ?_⟩) hHeld ?_ ?_
                          rotate_left
                          · rintro w' ⟨s0, s1, s2, s3, s4, s5⟩
                            go_simp
                            with_reducible rfl
                          rotate_left
                          · simp only [Act.put, List.setIfInBounds_toArray, List.set_cons_zero, List.set_cons_succ, i64_w, i32_w]
                            rfl
                          refine take_ (i := 3) (N := some 46) (v := ?_) (a' := ?_) #[true, true, true, true, true, true, false, false, false, false, false, false] rfl rfl (take_ofW HT_.out HW_.out (by kernel_rfl)) (fun _ _ _ h => h) (Or.inl ⟨by rfl, ?_⟩) hHeld ?_ ?_
                          rotate_left
                          · rintro w' ⟨s0, s1, s2, s3, s4, s5⟩
                            go_simp
                            with_reducible rfl
                          rotate_left
                          · simp only [Act.put, List.setIfInBounds_toArray, List.set_cons_zero, List.set_cons_succ, i64_w, i32_w]
                            rfl
                          refine take_ (i := 6) (N := some 49) (v := ?_) (a' := ?_) #[true, true, true, true, true, true, true, false, false, false, false, false] rfl rfl (take_ofW HT_.out HW_.out (by kernel_rfl)) (fun _ _ _ h => h) (Or.inl ⟨by rfl, ?_⟩) hHeld ?_ ?_
                          rotate_left
                          · rintro w' ⟨s0, s1, s2, s3, s4, s5⟩
                            go_simp
                            with_reducible rfl
                          rotate_left
                          · simp only [Act.put, List.setIfInBounds_toArray, List.set_cons_zero, List.set_cons_succ, i64_w, i32_w]
                            rfl
                          refine pure_ (i := 7) (N := some 50) (v := ?_) (a' := ?_) #[true, true, true, true, true, true, true, true, false, false, false, false] rfl rfl (any_of HT_.out (by kernel_rfl)) (fun _ _ _ h => h) (Or.inl ⟨by rfl, ?_⟩) ?_ ?_
                          rotate_left
                          · intro w'
                            go_simp
                            with_reducible rfl
                          rotate_left
                          · simp only [Act.put, List.setIfInBounds_toArray, List.set_cons_zero, List.set_cons_succ, i64_w, i32_w]
                            rfl
                          refine pure_ (i := 8) (N := some 51) (v := ?_) (a' := ?_) #[true, true, true, true, true, true, true, true, true, false, false, false] rfl rfl (any_of HT_.out (by kernel_rfl)) (fun _ _ _ h => h) (Or.inl ⟨by rfl, ?_⟩) ?_ ?_
                          rotate_left
                          · intro w'
                            go_simp
                            with_reducible rfl
                          rotate_left
                          · simp only [Act.put, List.setIfInBounds_toArray, List.set_cons_zero, List.set_cons_succ, i64_w, i32_w]
                            rfl
                          refine pure_ (i := 9) (N := some 52) (v := ?_) (a' := ?_) #[true, true, true, true, true, true, true, true, true, true, false, false] rfl rfl (any_of HT_.out (by kernel_rfl)) (fun _ _ _ h => h) (Or.inl ⟨by rfl, ?_⟩) ?_ ?_
                          rotate_left
                          · intro w'
                            go_simp
                            with_reducible rfl
                          rotate_left
                          · simp only [Act.put, List.setIfInBounds_toArray, List.set_cons_zero, List.set_cons_succ, i64_w, i32_w]
                            rfl
                          refine one_ (i := 10) (N := some 9) #[true, true, true, true, true, true, true, true, true, true, true, false] rfl rfl (one_of HT_.out (by kernel_rfl)) (by decide) (fun K hK => ?_)
                          refine box_step ?hg (N := 9) ?hd (cs := #[.int .i64 0, .int .i64 0, .int .i64 0, .int .i64 0, .int .i64 0, .int .i64 0, .int .i64 0, .int .i64 0, .int .i64 0]) (t := 38) ?hr ?_; (case hd => rfl); (case hg => rfl); (case hr => first | (go_simp; done) | (go_simp; rfl))
                          intro gb344 hg w42 hbox hb
                          have n0_ := Aside0.mk (blk_below (g := gb335) (o := .cells #[.int .i64 a0_0, .int .i64 a0_1, .int .i64 a0_2, .int .i64 a0_3] 25 (0, 0)) (by (with_reducible repeat (first | refine blk_drewN ?_ _ | refine blk_drew ?_ | refine blk_alloc ?_ _)); exact BK335.out) hb)
                          have n1_ := Aside0.mk (blk_below (g := gb336) (o := .cells #[.int .i64 x337000_2, .int .i64 x337001_2, .int .i64 x337002_2, .int .i64 x337003_2, .int .i64 x337004_2, .int .i64 x337005_2, .int .i64 x337006_2, .int .i64 x337007_2, .int .i64 x337008_2] 38 (0, 0)) (by (with_reducible repeat (first | refine blk_drewN ?_ _ | refine blk_drew ?_ | refine blk_alloc ?_ _)); exact BK336.out) hb)
                          have n2_ := Aside0.mk (below_step (by repeat (first | (with_reducible first | exact HB.out | apply below_alloc | apply pw_below_drewN | apply below_drew1 | refine below_set ?_ GE335.out | refine below_set ?_ GE336.out) | exact HB.out)) hb)
                          have n3_ := Aside0.mk (hbox)
                          have n4_ := Aside0.mk ((by rw [hg]; exact (below_size (by repeat (first | (with_reducible first | exact HB.out | apply below_alloc | apply pw_below_drewN | apply below_drew1 | refine below_set ?_ GE335.out | refine below_set ?_ GE336.out) | exact HB.out))) : w.heap.size ≤ gb344))
                          have n5_ := Aside0.mk ((by rw [hg]; exact (below_size (by repeat (first | (with_reducible first | exact HB.out | apply below_alloc | apply pw_below_drewN | apply below_drew1 | refine below_set ?_ GE335.out | refine below_set ?_ GE336.out) | exact HB.out))) : w.heap.size ≤ gb344))
                          have n6_ := Aside0.mk ((by rw [hg]; exact Nat.ne_of_lt (blk_lt (g := gb335) (o := .cells #[.int .i64 a0_0, .int .i64 a0_1, .int .i64 a0_2, .int .i64 a0_3] 25 (0, 0)) (by (with_reducible repeat (first | refine blk_drewN ?_ _ | refine blk_drew ?_ | refine blk_alloc ?_ _)); exact BK335.out)) : gb335 ≠ gb344))
                          have n7_ := Aside0.mk ((by rw [hg]; exact Nat.ne_of_gt (blk_lt (g := gb335) (o := .cells #[.int .i64 a0_0, .int .i64 a0_1, .int .i64 a0_2, .int .i64 a0_3] 25 (0, 0)) (by (with_reducible repeat (first | refine blk_drewN ?_ _ | refine blk_drew ?_ | refine blk_alloc ?_ _)); exact BK335.out)) : gb344 ≠ gb335))
                          have n8_ := Aside0.mk ((by rw [hg]; exact Nat.ne_of_lt (blk_lt (g := gb336) (o := .cells #[.int .i64 x337000_2, .int .i64 x337001_2, .int .i64 x337002_2, .int .i64 x337003_2, .int .i64 x337004_2, .int .i64 x337005_2, .int .i64 x337006_2, .int .i64 x337007_2, .int .i64 x337008_2] 38 (0, 0)) (by (with_reducible repeat (first | refine blk_drewN ?_ _ | refine blk_drew ?_ | refine blk_alloc ?_ _)); exact BK336.out)) : gb336 ≠ gb344))
                          have n9_ := Aside0.mk ((by rw [hg]; exact Nat.ne_of_gt (blk_lt (g := gb336) (o := .cells #[.int .i64 x337000_2, .int .i64 x337001_2, .int .i64 x337002_2, .int .i64 x337003_2, .int .i64 x337004_2, .int .i64 x337005_2, .int .i64 x337006_2, .int .i64 x337007_2, .int .i64 x337008_2] 38 (0, 0)) (by (with_reducible repeat (first | refine blk_drewN ?_ _ | refine blk_drew ?_ | refine blk_alloc ?_ _)); exact BK336.out)) : gb344 ≠ gb336))
                          clear BK335
                          clear BK336
                          clear HB
                          have BK335 := n0_
                          have BK336 := n1_
                          have HB := n2_
                          have BK344 := n3_
                          have GW344 := n4_
                          have GE344 := n5_
                          have NB335_344 := n6_
                          have NB344_335 := n7_
                          have NB336_344 := n8_
                          have NB344_336 := n9_
                          clear n0_ n1_ n2_ n3_ n4_ n5_ n6_ n7_ n8_ n9_
                          clear hb hbox hg
                          refine hK.out _ _ ⟨(blk_cell BK335.out 0).trans rfl, (blk_cell BK335.out 1).trans rfl, (blk_cell BK335.out 2).trans rfl, (blk_cell BK335.out 3).trans rfl, ((HB.out.cell (World.block_lt_of_cell? w _ hw342_0)).trans hw342_0), ((HB.out.cell (World.block_lt_of_cell? w _ hw343_0)).trans hw343_0)⟩ (fun hHeld => ?_)
                          clear hK K
                          refine norm_ (a' := ?_) ?_ ?_
                          rotate_left
                          · show Act.put _ (some 9) _ = _
                            simp only [Act.put, List.setIfInBounds_toArray, List.set_cons_zero, List.set_cons_succ, i64_w, i32_w]
                            rfl
                          refine one_ (i := 11) (N := none) #[true, true, true, true, true, true, true, true, true, true, true, true] rfl rfl (one_of HT_.out (by kernel_rfl)) (by decide) (fun K hK => ?_)
                          have hs43 : w42.cell? ⟨gb344, 0, none⟩ = some (.int .i64 0) := (blk_cell BK344.out 0).trans rfl
                          have hfs43 := blk_frozen BK344.out 0
                          have hns43_0 := NB335_344.out
                          have hns43_1 := NB336_344.out
                          have hms43_0 := NB344_335.out
                          have hms43_1 := NB344_336.out
                          have hs44 : w42.cell? ⟨gb344, 1, none⟩ = some (.int .i64 0) := (blk_cell BK344.out 1).trans rfl
                          have hfs44 := blk_frozen BK344.out 1
                          have hns44_0 := NB335_344.out
                          have hns44_1 := NB336_344.out
                          have hms44_0 := NB344_335.out
                          have hms44_1 := NB344_336.out
                          have hs45 : w42.cell? ⟨gb344, 2, none⟩ = some (.int .i64 0) := (blk_cell BK344.out 2).trans rfl
                          have hfs45 := blk_frozen BK344.out 2
                          have hns45_0 := NB335_344.out
                          have hns45_1 := NB336_344.out
                          have hms45_0 := NB344_335.out
                          have hms45_1 := NB344_336.out
                          have hs46 : w42.cell? ⟨gb344, 3, none⟩ = some (.int .i64 0) := (blk_cell BK344.out 3).trans rfl
                          have hfs46 := blk_frozen BK344.out 3
                          have hns46_0 := NB335_344.out
                          have hns46_1 := NB336_344.out
                          have hms46_0 := NB344_335.out
                          have hms46_1 := NB344_336.out
                          have hs47 : w42.cell? ⟨gb344, 4, none⟩ = some (.int .i64 0) := (blk_cell BK344.out 4).trans rfl
                          have hfs47 := blk_frozen BK344.out 4
                          have hns47_0 := NB335_344.out
                          have hns47_1 := NB336_344.out
                          have hms47_0 := NB344_335.out
                          have hms47_1 := NB344_336.out
                          have hs48 : w42.cell? ⟨gb344, 5, none⟩ = some (.int .i64 0) := (blk_cell BK344.out 5).trans rfl
                          have hfs48 := blk_frozen BK344.out 5
                          have hns48_0 := NB335_344.out
                          have hns48_1 := NB336_344.out
                          have hms48_0 := NB344_335.out
                          have hms48_1 := NB344_336.out
                          have hs49 : w42.cell? ⟨gb344, 6, none⟩ = some (.int .i64 0) := (blk_cell BK344.out 6).trans rfl
                          have hfs49 := blk_frozen BK344.out 6
                          have hns49_0 := NB335_344.out
                          have hns49_1 := NB336_344.out
                          have hms49_0 := NB344_335.out
                          have hms49_1 := NB344_336.out
                          have hs50 : w42.cell? ⟨gb344, 7, none⟩ = some (.int .i64 0) := (blk_cell BK344.out 7).trans rfl
                          have hfs50 := blk_frozen BK344.out 7
                          have hns50_0 := NB335_344.out
                          have hns50_1 := NB336_344.out
                          have hms50_0 := NB344_335.out
                          have hms50_1 := NB344_336.out
                          have hs51 : w42.cell? ⟨gb344, 8, none⟩ = some (.int .i64 0) := (blk_cell BK344.out 8).trans rfl
                          have hfs51 := blk_frozen BK344.out 8
                          have hns51_0 := NB335_344.out
                          have hns51_1 := NB336_344.out
                          have hms51_0 := NB344_335.out
                          have hms51_1 := NB344_336.out
                          refine skip_ (w1 := ?_) (by rfl) rfl ?_ ?_
                          rotate_left
                          · go_simp
                            rfl
                          refine hK.out _ _ ⟨((cell_far (p := ⟨gb344, _, none⟩) NB335_344.out _).trans (((cell_far (p := ⟨gb344, _, none⟩) NB335_344.out _).trans (((cell_far (p := ⟨gb344, _, none⟩) NB335_344.out _).trans (((cell_far (p := ⟨gb344, _, none⟩) NB335_344.out _).trans (((cell_far (p := ⟨gb344, _, none⟩) NB335_344.out _).trans (((cell_far (p := ⟨gb344, _, none⟩) NB335_344.out _).trans (((cell_far (p := ⟨gb344, _, none⟩) NB335_344.out _).trans (((cell_far (p := ⟨gb344, _, none⟩) NB335_344.out _).trans (((cell_far (p := ⟨gb344, _, none⟩) NB335_344.out _).trans (hHeld.1)))))))))))))))))), ((cell_far (p := ⟨gb344, _, none⟩) NB335_344.out _).trans (((cell_far (p := ⟨gb344, _, none⟩) NB335_344.out _).trans (((cell_far (p := ⟨gb344, _, none⟩) NB335_344.out _).trans (((cell_far (p := ⟨gb344, _, none⟩) NB335_344.out _).trans (((cell_far (p := ⟨gb344, _, none⟩) NB335_344.out _).trans (((cell_far (p := ⟨gb344, _, none⟩) NB335_344.out _).trans (((cell_far (p := ⟨gb344, _, none⟩) NB335_344.out _).trans (((cell_far (p := ⟨gb344, _, none⟩) NB335_344.out _).trans (((cell_far (p := ⟨gb344, _, none⟩) NB335_344.out _).trans (hHeld.2.1)))))))))))))))))), ((cell_far (p := ⟨gb344, _, none⟩) NB335_344.out _).trans (((cell_far (p := ⟨gb344, _, none⟩) NB335_344.out _).trans (((cell_far (p := ⟨gb344, _, none⟩) NB335_344.out _).trans (((cell_far (p := ⟨gb344, _, none⟩) NB335_344.out _).trans (((cell_far (p := ⟨gb344, _, none⟩) NB335_344.out _).trans (((cell_far (p := ⟨gb344, _, none⟩) NB335_344.out _).trans (((cell_far (p := ⟨gb344, _, none⟩) NB335_344.out _).trans (((cell_far (p := ⟨gb344, _, none⟩) NB335_344.out _).trans (((cell_far (p := ⟨gb344, _, none⟩) NB335_344.out _).trans (hHeld.2.2.1)))))))))))))))))), ((cell_far (p := ⟨gb344, _, none⟩) NB335_344.out _).trans (((cell_far (p := ⟨gb344, _, none⟩) NB335_344.out _).trans (((cell_far (p := ⟨gb344, _, none⟩) NB335_344.out _).trans (((cell_far (p := ⟨gb344, _, none⟩) NB335_344.out _).trans (((cell_far (p := ⟨gb344, _, none⟩) NB335_344.out _).trans (((cell_far (p := ⟨gb344, _, none⟩) NB335_344.out _).trans (((cell_far (p := ⟨gb344, _, none⟩) NB335_344.out _).trans (((cell_far (p := ⟨gb344, _, none⟩) NB335_344.out _).trans (((cell_far (p := ⟨gb344, _, none⟩) NB335_344.out _).trans (hHeld.2.2.2.1)))))))))))))))))), ((cell_far (p := ⟨gb344, _, none⟩) (by first | exact Nat.ne_of_lt (Nat.lt_of_lt_of_le (by have := World.block_lt_of_cell? _ _ hw342_0; first | rwa [add_block] at this | exact this) GW344.out) | (rw [add_block]; exact Nat.ne_of_lt (Nat.lt_of_lt_of_le (by have := World.block_lt_of_cell? _ _ hw342_0; first | rwa [add_block] at this | exact this) GW344.out)) | (show (Addr.add _ _).block ≠ _; rw [add_block]; exact Nat.ne_of_lt (Nat.lt_of_lt_of_le (by have := World.block_lt_of_cell? _ _ hw342_0; first | rwa [add_block] at this | exact this) GW344.out)) | (dsimp only; exact Nat.ne_of_lt (Nat.lt_of_lt_of_le (by have := World.block_lt_of_cell? _ _ hw342_0; first | rwa [add_block] at this | exact this) GW344.out))) _).trans (((cell_far (p := ⟨gb344, _, none⟩) (by first | exact Nat.ne_of_lt (Nat.lt_of_lt_of_le (by have := World.block_lt_of_cell? _ _ hw342_0; first | rwa [add_block] at this | exact this) GW344.out) | (rw [add_block]; exact Nat.ne_of_lt (Nat.lt_of_lt_of_le (by have := World.block_lt_of_cell? _ _ hw342_0; first | rwa [add_block] at this | exact this) GW344.out)) | (show (Addr.add _ _).block ≠ _; rw [add_block]; exact Nat.ne_of_lt (Nat.lt_of_lt_of_le (by have := World.block_lt_of_cell? _ _ hw342_0; first | rwa [add_block] at this | exact this) GW344.out)) | (dsimp only; exact Nat.ne_of_lt (Nat.lt_of_lt_of_le (by have := World.block_lt_of_cell? _ _ hw342_0; first | rwa [add_block] at this | exact this) GW344.out))) _).trans (((cell_far (p := ⟨gb344, _, none⟩) (by first | exact Nat.ne_of_lt (Nat.lt_of_lt_of_le (by have := World.block_lt_of_cell? _ _ hw342_0; first | rwa [add_block] at this | exact this) GW344.out) | (rw [add_block]; exact Nat.ne_of_lt (Nat.lt_of_lt_of_le (by have := World.block_lt_of_cell? _ _ hw342_0; first | rwa [add_block] at this | exact this) GW344.out)) | (show (Addr.add _ _).block ≠ _; rw [add_block]; exact Nat.ne_of_lt (Nat.lt_of_lt_of_le (by have := World.block_lt_of_cell? _ _ hw342_0; first | rwa [add_block] at this | exact this) GW344.out)) | (dsimp only; exact Nat.ne_of_lt (Nat.lt_of_lt_of_le (by have := World.block_lt_of_cell? _ _ hw342_0; first | rwa [add_block] at this | exact this) GW344.out))) _).trans (((cell_far (p := ⟨gb344, _, none⟩) (by first | exact Nat.ne_of_lt (Nat.lt_of_lt_of_le (by have := World.block_lt_of_cell? _ _ hw342_0; first | rwa [add_block] at this | exact this) GW344.out) | (rw [add_block]; exact Nat.ne_of_lt (Nat.lt_of_lt_of_le (by have := World.block_lt_of_cell? _ _ hw342_0; first | rwa [add_block] at this | exact this) GW344.out)) | (show (Addr.add _ _).block ≠ _; rw [add_block]; exact Nat.ne_of_lt (Nat.lt_of_lt_of_le (by have := World.block_lt_of_cell? _ _ hw342_0; first | rwa [add_block] at this | exact this) GW344.out)) | (dsimp only; exact Nat.ne_of_lt (Nat.lt_of_lt_of_le (by have := World.block_lt_of_cell? _ _ hw342_0; first | rwa [add_block] at this | exact this) GW344.out))) _).trans (((cell_far (p := ⟨gb344, _, none⟩) (by first | exact Nat.ne_of_lt (Nat.lt_of_lt_of_le (by have := World.block_lt_of_cell? _ _ hw342_0; first | rwa [add_block] at this | exact this) GW344.out) | (rw [add_block]; exact Nat.ne_of_lt (Nat.lt_of_lt_of_le (by have := World.block_lt_of_cell? _ _ hw342_0; first | rwa [add_block] at this | exact this) GW344.out)) | (show (Addr.add _ _).block ≠ _; rw [add_block]; exact Nat.ne_of_lt (Nat.lt_of_lt_of_le (by have := World.block_lt_of_cell? _ _ hw342_0; first | rwa [add_block] at this | exact this) GW344.out)) | (dsimp only; exact Nat.ne_of_lt (Nat.lt_of_lt_of_le (by have := World.block_lt_of_cell? _ _ hw342_0; first | rwa [add_block] at this | exact this) GW344.out))) _).trans (((cell_far (p := ⟨gb344, _, none⟩) (by first | exact Nat.ne_of_lt (Nat.lt_of_lt_of_le (by have := World.block_lt_of_cell? _ _ hw342_0; first | rwa [add_block] at this | exact this) GW344.out) | (rw [add_block]; exact Nat.ne_of_lt (Nat.lt_of_lt_of_le (by have := World.block_lt_of_cell? _ _ hw342_0; first | rwa [add_block] at this | exact this) GW344.out)) | (show (Addr.add _ _).block ≠ _; rw [add_block]; exact Nat.ne_of_lt (Nat.lt_of_lt_of_le (by have := World.block_lt_of_cell? _ _ hw342_0; first | rwa [add_block] at this | exact this) GW344.out)) | (dsimp only; exact Nat.ne_of_lt (Nat.lt_of_lt_of_le (by have := World.block_lt_of_cell? _ _ hw342_0; first | rwa [add_block] at this | exact this) GW344.out))) _).trans (((cell_far (p := ⟨gb344, _, none⟩) (by first | exact Nat.ne_of_lt (Nat.lt_of_lt_of_le (by have := World.block_lt_of_cell? _ _ hw342_0; first | rwa [add_block] at this | exact this) GW344.out) | (rw [add_block]; exact Nat.ne_of_lt (Nat.lt_of_lt_of_le (by have := World.block_lt_of_cell? _ _ hw342_0; first | rwa [add_block] at this | exact this) GW344.out)) | (show (Addr.add _ _).block ≠ _; rw [add_block]; exact Nat.ne_of_lt (Nat.lt_of_lt_of_le (by have := World.block_lt_of_cell? _ _ hw342_0; first | rwa [add_block] at this | exact this) GW344.out)) | (dsimp only; exact Nat.ne_of_lt (Nat.lt_of_lt_of_le (by have := World.block_lt_of_cell? _ _ hw342_0; first | rwa [add_block] at this | exact this) GW344.out))) _).trans (((cell_far (p := ⟨gb344, _, none⟩) (by first | exact Nat.ne_of_lt (Nat.lt_of_lt_of_le (by have := World.block_lt_of_cell? _ _ hw342_0; first | rwa [add_block] at this | exact this) GW344.out) | (rw [add_block]; exact Nat.ne_of_lt (Nat.lt_of_lt_of_le (by have := World.block_lt_of_cell? _ _ hw342_0; first | rwa [add_block] at this | exact this) GW344.out)) | (show (Addr.add _ _).block ≠ _; rw [add_block]; exact Nat.ne_of_lt (Nat.lt_of_lt_of_le (by have := World.block_lt_of_cell? _ _ hw342_0; first | rwa [add_block] at this | exact this) GW344.out)) | (dsimp only; exact Nat.ne_of_lt (Nat.lt_of_lt_of_le (by have := World.block_lt_of_cell? _ _ hw342_0; first | rwa [add_block] at this | exact this) GW344.out))) _).trans (((cell_far (p := ⟨gb344, _, none⟩) (by first | exact Nat.ne_of_lt (Nat.lt_of_lt_of_le (by have := World.block_lt_of_cell? _ _ hw342_0; first | rwa [add_block] at this | exact this) GW344.out) | (rw [add_block]; exact Nat.ne_of_lt (Nat.lt_of_lt_of_le (by have := World.block_lt_of_cell? _ _ hw342_0; first | rwa [add_block] at this | exact this) GW344.out)) | (show (Addr.add _ _).block ≠ _; rw [add_block]; exact Nat.ne_of_lt (Nat.lt_of_lt_of_le (by have := World.block_lt_of_cell? _ _ hw342_0; first | rwa [add_block] at this | exact this) GW344.out)) | (dsimp only; exact Nat.ne_of_lt (Nat.lt_of_lt_of_le (by have := World.block_lt_of_cell? _ _ hw342_0; first | rwa [add_block] at this | exact this) GW344.out))) _).trans (hHeld.2.2.2.2.1)))))))))))))))))), ((cell_far (p := ⟨gb344, _, none⟩) (by first | exact Nat.ne_of_lt (Nat.lt_of_lt_of_le (by have := World.block_lt_of_cell? _ _ hw343_0; first | rwa [add_block] at this | exact this) GW344.out) | (rw [add_block]; exact Nat.ne_of_lt (Nat.lt_of_lt_of_le (by have := World.block_lt_of_cell? _ _ hw343_0; first | rwa [add_block] at this | exact this) GW344.out)) | (show (Addr.add _ _).block ≠ _; rw [add_block]; exact Nat.ne_of_lt (Nat.lt_of_lt_of_le (by have := World.block_lt_of_cell? _ _ hw343_0; first | rwa [add_block] at this | exact this) GW344.out)) | (dsimp only; exact Nat.ne_of_lt (Nat.lt_of_lt_of_le (by have := World.block_lt_of_cell? _ _ hw343_0; first | rwa [add_block] at this | exact this) GW344.out))) _).trans (((cell_far (p := ⟨gb344, _, none⟩) (by first | exact Nat.ne_of_lt (Nat.lt_of_lt_of_le (by have := World.block_lt_of_cell? _ _ hw343_0; first | rwa [add_block] at this | exact this) GW344.out) | (rw [add_block]; exact Nat.ne_of_lt (Nat.lt_of_lt_of_le (by have := World.block_lt_of_cell? _ _ hw343_0; first | rwa [add_block] at this | exact this) GW344.out)) | (show (Addr.add _ _).block ≠ _; rw [add_block]; exact Nat.ne_of_lt (Nat.lt_of_lt_of_le (by have := World.block_lt_of_cell? _ _ hw343_0; first | rwa [add_block] at this | exact this) GW344.out)) | (dsimp only; exact Nat.ne_of_lt (Nat.lt_of_lt_of_le (by have := World.block_lt_of_cell? _ _ hw343_0; first | rwa [add_block] at this | exact this) GW344.out))) _).trans (((cell_far (p := ⟨gb344, _, none⟩) (by first | exact Nat.ne_of_lt (Nat.lt_of_lt_of_le (by have := World.block_lt_of_cell? _ _ hw343_0; first | rwa [add_block] at this | exact this) GW344.out) | (rw [add_block]; exact Nat.ne_of_lt (Nat.lt_of_lt_of_le (by have := World.block_lt_of_cell? _ _ hw343_0; first | rwa [add_block] at this | exact this) GW344.out)) | (show (Addr.add _ _).block ≠ _; rw [add_block]; exact Nat.ne_of_lt (Nat.lt_of_lt_of_le (by have := World.block_lt_of_cell? _ _ hw343_0; first | rwa [add_block] at this | exact this) GW344.out)) | (dsimp only; exact Nat.ne_of_lt (Nat.lt_of_lt_of_le (by have := World.block_lt_of_cell? _ _ hw343_0; first | rwa [add_block] at this | exact this) GW344.out))) _).trans (((cell_far (p := ⟨gb344, _, none⟩) (by first | exact Nat.ne_of_lt (Nat.lt_of_lt_of_le (by have := World.block_lt_of_cell? _ _ hw343_0; first | rwa [add_block] at this | exact this) GW344.out) | (rw [add_block]; exact Nat.ne_of_lt (Nat.lt_of_lt_of_le (by have := World.block_lt_of_cell? _ _ hw343_0; first | rwa [add_block] at this | exact this) GW344.out)) | (show (Addr.add _ _).block ≠ _; rw [add_block]; exact Nat.ne_of_lt (Nat.lt_of_lt_of_le (by have := World.block_lt_of_cell? _ _ hw343_0; first | rwa [add_block] at this | exact this) GW344.out)) | (dsimp only; exact Nat.ne_of_lt (Nat.lt_of_lt_of_le (by have := World.block_lt_of_cell? _ _ hw343_0; first | rwa [add_block] at this | exact this) GW344.out))) _).trans (((cell_far (p := ⟨gb344, _, none⟩) (by first | exact Nat.ne_of_lt (Nat.lt_of_lt_of_le (by have := World.block_lt_of_cell? _ _ hw343_0; first | rwa [add_block] at this | exact this) GW344.out) | (rw [add_block]; exact Nat.ne_of_lt (Nat.lt_of_lt_of_le (by have := World.block_lt_of_cell? _ _ hw343_0; first | rwa [add_block] at this | exact this) GW344.out)) | (show (Addr.add _ _).block ≠ _; rw [add_block]; exact Nat.ne_of_lt (Nat.lt_of_lt_of_le (by have := World.block_lt_of_cell? _ _ hw343_0; first | rwa [add_block] at this | exact this) GW344.out)) | (dsimp only; exact Nat.ne_of_lt (Nat.lt_of_lt_of_le (by have := World.block_lt_of_cell? _ _ hw343_0; first | rwa [add_block] at this | exact this) GW344.out))) _).trans (((cell_far (p := ⟨gb344, _, none⟩) (by first | exact Nat.ne_of_lt (Nat.lt_of_lt_of_le (by have := World.block_lt_of_cell? _ _ hw343_0; first | rwa [add_block] at this | exact this) GW344.out) | (rw [add_block]; exact Nat.ne_of_lt (Nat.lt_of_lt_of_le (by have := World.block_lt_of_cell? _ _ hw343_0; first | rwa [add_block] at this | exact this) GW344.out)) | (show (Addr.add _ _).block ≠ _; rw [add_block]; exact Nat.ne_of_lt (Nat.lt_of_lt_of_le (by have := World.block_lt_of_cell? _ _ hw343_0; first | rwa [add_block] at this | exact this) GW344.out)) | (dsimp only; exact Nat.ne_of_lt (Nat.lt_of_lt_of_le (by have := World.block_lt_of_cell? _ _ hw343_0; first | rwa [add_block] at this | exact this) GW344.out))) _).trans (((cell_far (p := ⟨gb344, _, none⟩) (by first | exact Nat.ne_of_lt (Nat.lt_of_lt_of_le (by have := World.block_lt_of_cell? _ _ hw343_0; first | rwa [add_block] at this | exact this) GW344.out) | (rw [add_block]; exact Nat.ne_of_lt (Nat.lt_of_lt_of_le (by have := World.block_lt_of_cell? _ _ hw343_0; first | rwa [add_block] at this | exact this) GW344.out)) | (show (Addr.add _ _).block ≠ _; rw [add_block]; exact Nat.ne_of_lt (Nat.lt_of_lt_of_le (by have := World.block_lt_of_cell? _ _ hw343_0; first | rwa [add_block] at this | exact this) GW344.out)) | (dsimp only; exact Nat.ne_of_lt (Nat.lt_of_lt_of_le (by have := World.block_lt_of_cell? _ _ hw343_0; first | rwa [add_block] at this | exact this) GW344.out))) _).trans (((cell_far (p := ⟨gb344, _, none⟩) (by first | exact Nat.ne_of_lt (Nat.lt_of_lt_of_le (by have := World.block_lt_of_cell? _ _ hw343_0; first | rwa [add_block] at this | exact this) GW344.out) | (rw [add_block]; exact Nat.ne_of_lt (Nat.lt_of_lt_of_le (by have := World.block_lt_of_cell? _ _ hw343_0; first | rwa [add_block] at this | exact this) GW344.out)) | (show (Addr.add _ _).block ≠ _; rw [add_block]; exact Nat.ne_of_lt (Nat.lt_of_lt_of_le (by have := World.block_lt_of_cell? _ _ hw343_0; first | rwa [add_block] at this | exact this) GW344.out)) | (dsimp only; exact Nat.ne_of_lt (Nat.lt_of_lt_of_le (by have := World.block_lt_of_cell? _ _ hw343_0; first | rwa [add_block] at this | exact this) GW344.out))) _).trans (((cell_far (p := ⟨gb344, _, none⟩) (by first | exact Nat.ne_of_lt (Nat.lt_of_lt_of_le (by have := World.block_lt_of_cell? _ _ hw343_0; first | rwa [add_block] at this | exact this) GW344.out) | (rw [add_block]; exact Nat.ne_of_lt (Nat.lt_of_lt_of_le (by have := World.block_lt_of_cell? _ _ hw343_0; first | rwa [add_block] at this | exact this) GW344.out)) | (show (Addr.add _ _).block ≠ _; rw [add_block]; exact Nat.ne_of_lt (Nat.lt_of_lt_of_le (by have := World.block_lt_of_cell? _ _ hw343_0; first | rwa [add_block] at this | exact this) GW344.out)) | (dsimp only; exact Nat.ne_of_lt (Nat.lt_of_lt_of_le (by have := World.block_lt_of_cell? _ _ hw343_0; first | rwa [add_block] at this | exact this) GW344.out))) _).trans (hHeld.2.2.2.2.2))))))))))))))))))⟩ (fun hHeld => ?_)
                          clear hK K
                          refine done_ (done_of HT_.out (by kernel_rfl)) ?_
                          try go_wp2
                          have n0_ : Aside0 ((((((((((w42.setCell ⟨gb344, 0, none⟩ (.int .i64 0)).setCell ⟨gb344, 1, none⟩ (.int .i64 0)).setCell ⟨gb344, 2, none⟩ (.int .i64 0)).setCell ⟨gb344, 3, none⟩ (.int .i64 0)).setCell ⟨gb344, 4, none⟩ (.int .i64 a0_0)).setCell ⟨gb344, 5, none⟩ (.int .i64 a0_1)).setCell ⟨gb344, 6, none⟩ (.int .i64 a0_2)).setCell ⟨gb344, 7, none⟩ (.int .i64 a0_3)).setCell ⟨gb344, 8, none⟩ (.int .i64 (wrap64 (Int.tdiv (wrap64 ((rd l2 0) + (rd l2 2))) 2)))).heap[gb335]? = some (.cells #[.int .i64 a0_0, .int .i64 a0_1, .int .i64 a0_2, .int .i64 a0_3] 25 (0, 0))) := ⟨by (with_reducible repeat (first | refine blk_drewN ?_ _ | refine blk_drew ?_ | refine blk_alloc ?_ _)); refine blk_far ?_ NB335_344.out _; (with_reducible repeat (first | refine blk_drewN ?_ _ | refine blk_drew ?_ | refine blk_alloc ?_ _)); refine blk_far ?_ NB335_344.out _; (with_reducible repeat (first | refine blk_drewN ?_ _ | refine blk_drew ?_ | refine blk_alloc ?_ _)); refine blk_far ?_ NB335_344.out _; (with_reducible repeat (first | refine blk_drewN ?_ _ | refine blk_drew ?_ | refine blk_alloc ?_ _)); refine blk_far ?_ NB335_344.out _; (with_reducible repeat (first | refine blk_drewN ?_ _ | refine blk_drew ?_ | refine blk_alloc ?_ _)); refine blk_far ?_ NB335_344.out _; (with_reducible repeat (first | refine blk_drewN ?_ _ | refine blk_drew ?_ | refine blk_alloc ?_ _)); refine blk_far ?_ NB335_344.out _; (with_reducible repeat (first | refine blk_drewN ?_ _ | refine blk_drew ?_ | refine blk_alloc ?_ _)); refine blk_far ?_ NB335_344.out _; (with_reducible repeat (first | refine blk_drewN ?_ _ | refine blk_drew ?_ | refine blk_alloc ?_ _)); refine blk_far ?_ NB335_344.out _; (with_reducible repeat (first | refine blk_drewN ?_ _ | refine blk_drew ?_ | refine blk_alloc ?_ _)); refine blk_far ?_ NB335_344.out _; (with_reducible repeat (first | refine blk_drewN ?_ _ | refine blk_drew ?_ | refine blk_alloc ?_ _)); exact BK335.out⟩
                          have n1_ : Aside0 ((((((((((w42.setCell ⟨gb344, 0, none⟩ (.int .i64 0)).setCell ⟨gb344, 1, none⟩ (.int .i64 0)).setCell ⟨gb344, 2, none⟩ (.int .i64 0)).setCell ⟨gb344, 3, none⟩ (.int .i64 0)).setCell ⟨gb344, 4, none⟩ (.int .i64 a0_0)).setCell ⟨gb344, 5, none⟩ (.int .i64 a0_1)).setCell ⟨gb344, 6, none⟩ (.int .i64 a0_2)).setCell ⟨gb344, 7, none⟩ (.int .i64 a0_3)).setCell ⟨gb344, 8, none⟩ (.int .i64 (wrap64 (Int.tdiv (wrap64 ((rd l2 0) + (rd l2 2))) 2)))).heap[gb336]? = some (.cells #[.int .i64 x337000_2, .int .i64 x337001_2, .int .i64 x337002_2, .int .i64 x337003_2, .int .i64 x337004_2, .int .i64 x337005_2, .int .i64 x337006_2, .int .i64 x337007_2, .int .i64 x337008_2] 38 (0, 0))) := ⟨by (with_reducible repeat (first | refine blk_drewN ?_ _ | refine blk_drew ?_ | refine blk_alloc ?_ _)); refine blk_far ?_ NB336_344.out _; (with_reducible repeat (first | refine blk_drewN ?_ _ | refine blk_drew ?_ | refine blk_alloc ?_ _)); refine blk_far ?_ NB336_344.out _; (with_reducible repeat (first | refine blk_drewN ?_ _ | refine blk_drew ?_ | refine blk_alloc ?_ _)); refine blk_far ?_ NB336_344.out _; (with_reducible repeat (first | refine blk_drewN ?_ _ | refine blk_drew ?_ | refine blk_alloc ?_ _)); refine blk_far ?_ NB336_344.out _; (with_reducible repeat (first | refine blk_drewN ?_ _ | refine blk_drew ?_ | refine blk_alloc ?_ _)); refine blk_far ?_ NB336_344.out _; (with_reducible repeat (first | refine blk_drewN ?_ _ | refine blk_drew ?_ | refine blk_alloc ?_ _)); refine blk_far ?_ NB336_344.out _; (with_reducible repeat (first | refine blk_drewN ?_ _ | refine blk_drew ?_ | refine blk_alloc ?_ _)); refine blk_far ?_ NB336_344.out _; (with_reducible repeat (first | refine blk_drewN ?_ _ | refine blk_drew ?_ | refine blk_alloc ?_ _)); refine blk_far ?_ NB336_344.out _; (with_reducible repeat (first | refine blk_drewN ?_ _ | refine blk_drew ?_ | refine blk_alloc ?_ _)); refine blk_far ?_ NB336_344.out _; (with_reducible repeat (first | refine blk_drewN ?_ _ | refine blk_drew ?_ | refine blk_alloc ?_ _)); exact BK336.out⟩
                          have n2_ : Aside0 ((((((((((w42.setCell ⟨gb344, 0, none⟩ (.int .i64 0)).setCell ⟨gb344, 1, none⟩ (.int .i64 0)).setCell ⟨gb344, 2, none⟩ (.int .i64 0)).setCell ⟨gb344, 3, none⟩ (.int .i64 0)).setCell ⟨gb344, 4, none⟩ (.int .i64 a0_0)).setCell ⟨gb344, 5, none⟩ (.int .i64 a0_1)).setCell ⟨gb344, 6, none⟩ (.int .i64 a0_2)).setCell ⟨gb344, 7, none⟩ (.int .i64 a0_3)).setCell ⟨gb344, 8, none⟩ (.int .i64 (wrap64 (Int.tdiv (wrap64 ((rd l2 0) + (rd l2 2))) 2)))).heap[gb344]? = some (.cells #[.int .i64 0, .int .i64 0, .int .i64 0, .int .i64 0, .int .i64 a0_0, .int .i64 a0_1, .int .i64 a0_2, .int .i64 a0_3, .int .i64 (wrap64 (Int.tdiv (wrap64 ((rd l2 0) + (rd l2 2))) 2))] 38 (0, 0))) := ⟨by (with_reducible repeat (first | refine blk_drewN ?_ _ | refine blk_drew ?_ | refine blk_alloc ?_ _)); refine blk_put (cs := #[.int .i64 0, .int .i64 0, .int .i64 0, .int .i64 0, .int .i64 a0_0, .int .i64 a0_1, .int .i64 a0_2, .int .i64 a0_3, .int .i64 0]) ?_ 8 _ rfl; (with_reducible repeat (first | refine blk_drewN ?_ _ | refine blk_drew ?_ | refine blk_alloc ?_ _)); refine blk_put (cs := #[.int .i64 0, .int .i64 0, .int .i64 0, .int .i64 0, .int .i64 a0_0, .int .i64 a0_1, .int .i64 a0_2, .int .i64 0, .int .i64 0]) ?_ 7 _ rfl; (with_reducible repeat (first | refine blk_drewN ?_ _ | refine blk_drew ?_ | refine blk_alloc ?_ _)); refine blk_put (cs := #[.int .i64 0, .int .i64 0, .int .i64 0, .int .i64 0, .int .i64 a0_0, .int .i64 a0_1, .int .i64 0, .int .i64 0, .int .i64 0]) ?_ 6 _ rfl; (with_reducible repeat (first | refine blk_drewN ?_ _ | refine blk_drew ?_ | refine blk_alloc ?_ _)); refine blk_put (cs := #[.int .i64 0, .int .i64 0, .int .i64 0, .int .i64 0, .int .i64 a0_0, .int .i64 0, .int .i64 0, .int .i64 0, .int .i64 0]) ?_ 5 _ rfl; (with_reducible repeat (first | refine blk_drewN ?_ _ | refine blk_drew ?_ | refine blk_alloc ?_ _)); refine blk_put (cs := #[.int .i64 0, .int .i64 0, .int .i64 0, .int .i64 0, .int .i64 0, .int .i64 0, .int .i64 0, .int .i64 0, .int .i64 0]) ?_ 4 _ rfl; (with_reducible repeat (first | refine blk_drewN ?_ _ | refine blk_drew ?_ | refine blk_alloc ?_ _)); refine blk_put (cs := #[.int .i64 0, .int .i64 0, .int .i64 0, .int .i64 0, .int .i64 0, .int .i64 0, .int .i64 0, .int .i64 0, .int .i64 0]) ?_ 3 _ rfl; (with_reducible repeat (first | refine blk_drewN ?_ _ | refine blk_drew ?_ | refine blk_alloc ?_ _)); refine blk_put (cs := #[.int .i64 0, .int .i64 0, .int .i64 0, .int .i64 0, .int .i64 0, .int .i64 0, .int .i64 0, .int .i64 0, .int .i64 0]) ?_ 2 _ rfl; (with_reducible repeat (first | refine blk_drewN ?_ _ | refine blk_drew ?_ | refine blk_alloc ?_ _)); refine blk_put (cs := #[.int .i64 0, .int .i64 0, .int .i64 0, .int .i64 0, .int .i64 0, .int .i64 0, .int .i64 0, .int .i64 0, .int .i64 0]) ?_ 1 _ rfl; (with_reducible repeat (first | refine blk_drewN ?_ _ | refine blk_drew ?_ | refine blk_alloc ?_ _)); refine blk_put (cs := #[.int .i64 0, .int .i64 0, .int .i64 0, .int .i64 0, .int .i64 0, .int .i64 0, .int .i64 0, .int .i64 0, .int .i64 0]) ?_ 0 _ rfl; (with_reducible repeat (first | refine blk_drewN ?_ _ | refine blk_drew ?_ | refine blk_alloc ?_ _)); exact BK344.out⟩
                          have n3_ : Aside0 (Below w.heap.size w (((((((((w42.setCell ⟨gb344, 0, none⟩ (.int .i64 0)).setCell ⟨gb344, 1, none⟩ (.int .i64 0)).setCell ⟨gb344, 2, none⟩ (.int .i64 0)).setCell ⟨gb344, 3, none⟩ (.int .i64 0)).setCell ⟨gb344, 4, none⟩ (.int .i64 a0_0)).setCell ⟨gb344, 5, none⟩ (.int .i64 a0_1)).setCell ⟨gb344, 6, none⟩ (.int .i64 a0_2)).setCell ⟨gb344, 7, none⟩ (.int .i64 a0_3)).setCell ⟨gb344, 8, none⟩ (.int .i64 (wrap64 (Int.tdiv (wrap64 ((rd l2 0) + (rd l2 2))) 2))))) := ⟨by repeat (first | (with_reducible first | exact HB.out | apply below_alloc | apply pw_below_drewN | apply below_drew1 | refine below_set ?_ GE335.out | refine below_set ?_ GE336.out | refine below_set ?_ GE344.out) | exact HB.out)⟩
                          (try clear BK335)
                          (try clear BK336)
                          (try clear BK344)
                          (try clear HB)
                          generalize (((((((((w42.setCell ⟨gb344, 0, none⟩ (.int .i64 0)).setCell ⟨gb344, 1, none⟩ (.int .i64 0)).setCell ⟨gb344, 2, none⟩ (.int .i64 0)).setCell ⟨gb344, 3, none⟩ (.int .i64 0)).setCell ⟨gb344, 4, none⟩ (.int .i64 a0_0)).setCell ⟨gb344, 5, none⟩ (.int .i64 a0_1)).setCell ⟨gb344, 6, none⟩ (.int .i64 a0_2)).setCell ⟨gb344, 7, none⟩ (.int .i64 a0_3)).setCell ⟨gb344, 8, none⟩ (.int .i64 (wrap64 (Int.tdiv (wrap64 ((rd l2 0) + (rd l2 2))) 2)))) = w52 at n0_ n1_ n2_ n3_ ⊢
                          have BK335 := n0_
                          have BK336 := n1_
                          have BK344 := n2_
                          have HB := n3_
                          clear n0_ n1_ n2_ n3_
                          have n0_ := Aside0.mk (blk_drew BK335.out)
                          have n1_ := Aside0.mk (blk_drew BK336.out)
                          have n2_ := Aside0.mk (blk_drew BK344.out)
                          have n3_ := Aside0.mk (below_drew1 HB.out)
                          clear BK335
                          clear BK336
                          clear BK344
                          clear HB
                          have BK335 := n0_
                          have BK336 := n1_
                          have BK344 := n2_
                          have HB := n3_
                          clear n0_ n1_ n2_ n3_
                          have p345 : 0 ≤ (2 : Int) := (by omega)
                          have q345 : 2 < (l2.length : Int) := of_decide_eq_true (by first | (with_reducible assumption) | assumption)
                          obtain ⟨ad345, e345, hx345_0⟩ := Kd.at_int HR2.out 2 p345 q345
                          have hw345_0 := hx345_0
                          (try rw [show ((2 : Int)).toNat = 2 from rfl] at hw345_0)
                          (try rw [show 2 * 1 = 2 from rfl] at hw345_0)
                          (try simp only [Nat.reduceMul, Nat.reduceEqDiff, Go.Addr.add, ↓reduceIte] at hw345_0)
                          obtain rfl : ad342 = ad345 := (by injection e345)
                          (try simp only [show (2 : Int).toNat = 2 from rfl, Nat.reduceMul, Nat.reduceEqDiff, Go.Addr.add, ↓reduceIte] at hx345_0)
                          have qi345 : (2 < l2.length) = True := eq_true (by omega)
                          (try rw [show ((2 : Int)).toNat = 2 from rfl] at hx345_0)
                          replace hx345_0 := (HB.out.cell (World.block_lt_of_cell? w _ hx345_0)).trans hx345_0
                          replace p345 := eq_true p345
                          replace q345 := eq_true q345
                          have p346 : 0 ≤ (0 : Int) := (by omega)
                          have q346 : 0 < (l2.length : Int) := of_decide_eq_true (by first | (with_reducible assumption) | assumption)
                          obtain ⟨ad346, e346, hx346_0⟩ := Kd.at_int HR2.out 0 p346 q346
                          have hw346_0 := hx346_0
                          (try rw [show ((0 : Int)).toNat = 0 from rfl] at hw346_0)
                          (try rw [show 0 * 1 = 0 from rfl] at hw346_0)
                          (try rw [Addr.add_zero'] at hw346_0)
                          obtain rfl : ad342 = ad346 := (by injection e346)
                          have qi346 : (0 < l2.length) = True := eq_true (by omega)
                          (try rw [show ((0 : Int)).toNat = 0 from rfl] at hx346_0)
                          (try rw [Addr.add_zero'] at hx346_0)
                          replace hx346_0 := (HB.out.cell (World.block_lt_of_cell? w _ hx346_0)).trans hx346_0
                          replace p346 := eq_true p346
                          replace q346 := eq_true q346
                          refine start_ (n := 14) (S := fun w' => w'.cell? ⟨gb335, 0, none⟩ = some (.int .i64 a0_0) ∧ w'.cell? ⟨gb335, 1, none⟩ = some (.int .i64 a0_1) ∧ w'.cell? ⟨gb335, 2, none⟩ = some (.int .i64 a0_2) ∧ w'.cell? ⟨gb335, 3, none⟩ = some (.int .i64 a0_3) ∧ w'.cell? ⟨ad342.block, ad342.off + 2, none⟩ = some (.int .i64 (rd l2 2)) ∧ w'.cell? ad342 = some (.int .i64 (rd l2 0))) (ds := []) #[false, false, false, false, false, false, false, false, false, false, false, false, false, false] (by kernel_rfl) rfl rfl ⟨(blk_cell BK335.out 0).trans rfl, (blk_cell BK335.out 1).trans rfl, (blk_cell BK335.out 2).trans rfl, (blk_cell BK335.out 3).trans rfl, ((HB.out.cell (World.block_lt_of_cell? w _ hw345_0)).trans hw345_0), ((HB.out.cell (World.block_lt_of_cell? w _ hw346_0)).trans hw346_0)⟩ (fun hHeld => ?_); refine with_tabW spec_MachineFrom.tab9 spec_MachineFrom.bits9 (fun HT_ HW_ => ?_)
                          generalize w52.drew = w53 at BK335 BK336 BK344 HB hx345_0 hx346_0 hHeld ⊢
                          refine pure_ (i := 0) (N := some 53) (v := ?_) (a' := ?_) #[true, false, false, false, false, false, false, false, false, false, false, false, false, false] rfl rfl (any_of HT_.out (by kernel_rfl)) (fun _ _ _ h => h) (Or.inl ⟨by rfl, ?_⟩) ?_ ?_
                          rotate_left
                          · intro w'
                            go_simp
                            with_reducible rfl
                          rotate_left
                          · simp only [Act.put, List.setIfInBounds_toArray, List.set_cons_zero, List.set_cons_succ, i64_w, i32_w]
                            rfl
                          refine pure_ (i := 2) (N := some 55) (v := ?_) (a' := ?_) #[true, false, true, false, false, false, false, false, false, false, false, false, false, false] rfl rfl (any_of HT_.out (by kernel_rfl)) (fun _ _ _ h => h) (Or.inl ⟨by rfl, ?_⟩) ?_ ?_
                          rotate_left
                          · intro w'
                            go_simp
                            with_reducible rfl
                          rotate_left
                          · simp only [Act.put, List.setIfInBounds_toArray, List.set_cons_zero, List.set_cons_succ, i64_w, i32_w]
                            rfl
                          refine pure_ (i := 3) (N := some 56) (v := ?_) (a' := ?_) #[true, false, true, true, false, false, false, false, false, false, false, false, false, false] rfl rfl (any_of HT_.out (by kernel_rfl)) (fun _ _ _ h => h) (Or.inl ⟨by rfl, ?_⟩) ?_ ?_
                          rotate_left
                          · intro w'
                            go_simp
                            with_reducible rfl
                          rotate_left
                          · simp only [Act.put, List.setIfInBounds_toArray, List.set_cons_zero, List.set_cons_succ, i64_w, i32_w]
                            rfl
                          refine pure_ (i := 5) (N := some 58) (v := ?_) (a' := ?_) #[true, false, true, true, false, true, false, false, false, false, false, false, false, false] rfl rfl (any_of HT_.out (by kernel_rfl)) (fun _ _ _ h => h) (Or.inl ⟨by rfl, ?_⟩) ?_ ?_
                          rotate_left
                          · intro w'
                            go_simp
                            with_reducible rfl
                          rotate_left
                          · simp only [Act.put, List.setIfInBounds_toArray, List.set_cons_zero, List.set_cons_succ, i64_w, i32_w]
                            rfl
                          refine pure_ (i := 6) (N := some 59) (v := ?_) (a' := ?_) #[true, false, true, true, false, true, true, false, false, false, false, false, false, false] rfl rfl (any_of HT_.out (by kernel_rfl)) (fun _ _ _ h => h) (Or.inl ⟨by rfl, ?_⟩) ?_ ?_
                          rotate_left
                          · intro w'
                            go_simp
                            with_reducible rfl
                          rotate_left
                          · simp only [Act.put, List.setIfInBounds_toArray, List.set_cons_zero, List.set_cons_succ, i64_w, i32_w]
                            rfl
                          refine take_ (i := 1) (N := some 54) (v := ?_) (a' := ?_) #[true, true, true, true, false, true, true, false, false, false, false, false, false, false] rfl rfl (take_ofW HT_.out HW_.out (by kernel_rfl)) (fun _ _ _ h => h) (Or.inl ⟨by rfl, ?_⟩) hHeld ?_ ?_
                          rotate_left
                          · rintro w' ⟨s0, s1, s2, s3, s4, s5⟩
                            go_simp
                            with_reducible rfl
                          rotate_left
                          · simp only [Act.put, List.setIfInBounds_toArray, List.set_cons_zero, List.set_cons_succ, i64_w, i32_w]
                            rfl
                          refine take_ (i := 4) (N := some 57) (v := ?_) (a' := ?_) #[true, true, true, true, true, true, true, false, false, false, false, false, false, false] rfl rfl (take_ofW HT_.out HW_.out (by kernel_rfl)) (fun _ _ _ h => h) (Or.inl ⟨by rfl, ?_⟩) hHeld ?_ ?_
                          rotate_left
                          · rintro w' ⟨s0, s1, s2, s3, s4, s5⟩
                            go_simp
                            with_reducible rfl
                          rotate_left
                          · simp only [Act.put, List.setIfInBounds_toArray, List.set_cons_zero, List.set_cons_succ, i64_w, i32_w]
                            rfl
                          refine take_ (i := 7) (N := some 60) (v := ?_) (a' := ?_) #[true, true, true, true, true, true, true, true, false, false, false, false, false, false] rfl rfl (take_ofW HT_.out HW_.out (by kernel_rfl)) (fun _ _ _ h => h) (Or.inl ⟨by rfl, ?_⟩) hHeld ?_ ?_
                          rotate_left
                          · rintro w' ⟨s0, s1, s2, s3, s4, s5⟩
                            go_simp
                            with_reducible rfl
                          rotate_left
                          · simp only [Act.put, List.setIfInBounds_toArray, List.set_cons_zero, List.set_cons_succ, i64_w, i32_w]
                            rfl
                          refine pure_ (i := 8) (N := some 61) (v := ?_) (a' := ?_) #[true, true, true, true, true, true, true, true, true, false, false, false, false, false] rfl rfl (any_of HT_.out (by kernel_rfl)) (fun _ _ _ h => h) (Or.inl ⟨by rfl, ?_⟩) ?_ ?_
                          rotate_left
                          · intro w'
                            go_simp
                            with_reducible rfl
                          rotate_left
                          · simp only [Act.put, List.setIfInBounds_toArray, List.set_cons_zero, List.set_cons_succ, i64_w, i32_w]
                            rfl
                          refine pure_ (i := 9) (N := some 62) (v := ?_) (a' := ?_) #[true, true, true, true, true, true, true, true, true, true, false, false, false, false] rfl rfl (any_of HT_.out (by kernel_rfl)) (fun _ _ _ h => h) (Or.inl ⟨by rfl, ?_⟩) ?_ ?_
                          rotate_left
                          · intro w'
                            go_simp
                            with_reducible rfl
                          rotate_left
                          · simp only [Act.put, List.setIfInBounds_toArray, List.set_cons_zero, List.set_cons_succ, i64_w, i32_w]
                            rfl
                          refine pure_ (i := 10) (N := some 63) (v := ?_) (a' := ?_) #[true, true, true, true, true, true, true, true, true, true, true, false, false, false] rfl rfl (any_of HT_.out (by kernel_rfl)) (fun _ _ _ h => h) (Or.inl ⟨by rfl, ?_⟩) ?_ ?_
                          rotate_left
                          · intro w'
                            go_simp
                            with_reducible rfl
                          rotate_left
                          · simp only [Act.put, List.setIfInBounds_toArray, List.set_cons_zero, List.set_cons_succ, i64_w, i32_w]
                            rfl
                          refine pure_ (i := 11) (N := some 64) (v := ?_) (a' := ?_) #[true, true, true, true, true, true, true, true, true, true, true, true, false, false] rfl rfl (any_of HT_.out (by kernel_rfl)) (fun _ _ _ h => h) (Or.inl ⟨by rfl, ?_⟩) ?_ ?_
                          rotate_left
                          · intro w'
                            go_simp
                            with_reducible rfl
                          rotate_left
                          · simp only [Act.put, List.setIfInBounds_toArray, List.set_cons_zero, List.set_cons_succ, i64_w, i32_w]
                            rfl
                          refine pure_ (i := 12) (N := some 65) (v := ?_) (a' := ?_) #[true, true, true, true, true, true, true, true, true, true, true, true, true, false] rfl rfl (any_of HT_.out (by kernel_rfl)) (fun _ _ _ h => h) (Or.inl ⟨by rfl, ?_⟩) ?_ ?_
                          rotate_left
                          · intro w'
                            go_simp
                            with_reducible rfl
                          rotate_left
                          · simp only [Act.put, List.setIfInBounds_toArray, List.set_cons_zero, List.set_cons_succ, i64_w, i32_w]
                            rfl
                          refine one_ (i := 13) (N := none) #[true, true, true, true, true, true, true, true, true, true, true, true, true, true] rfl rfl (one_of HT_.out (by kernel_rfl)) (by decide) (fun K hK => ?_)
                          have hs54 : w53.cell? ⟨gb344, 2, none⟩ = some (.int .i64 0) := (blk_cell BK344.out 2).trans rfl
                          have hfs54 := blk_frozen BK344.out 2
                          have hns54_0 := NB335_344.out
                          have hns54_1 := NB336_344.out
                          have hms54_0 := NB344_335.out
                          have hms54_1 := NB344_336.out
                          refine skip_ (w1 := ?_) (by rfl) rfl ?_ ?_
                          rotate_left
                          · go_simp
                            rfl
                          refine hK.out _ _ ⟨((cell_far (p := ⟨gb344, _, none⟩) NB335_344.out _).trans (hHeld.1)), ((cell_far (p := ⟨gb344, _, none⟩) NB335_344.out _).trans (hHeld.2.1)), ((cell_far (p := ⟨gb344, _, none⟩) NB335_344.out _).trans (hHeld.2.2.1)), ((cell_far (p := ⟨gb344, _, none⟩) NB335_344.out _).trans (hHeld.2.2.2.1)), ((cell_far (p := ⟨gb344, _, none⟩) (by first | exact Nat.ne_of_lt (Nat.lt_of_lt_of_le (by have := World.block_lt_of_cell? _ _ hw345_0; first | rwa [add_block] at this | exact this) GW344.out) | (rw [add_block]; exact Nat.ne_of_lt (Nat.lt_of_lt_of_le (by have := World.block_lt_of_cell? _ _ hw345_0; first | rwa [add_block] at this | exact this) GW344.out)) | (show (Addr.add _ _).block ≠ _; rw [add_block]; exact Nat.ne_of_lt (Nat.lt_of_lt_of_le (by have := World.block_lt_of_cell? _ _ hw345_0; first | rwa [add_block] at this | exact this) GW344.out)) | (dsimp only; exact Nat.ne_of_lt (Nat.lt_of_lt_of_le (by have := World.block_lt_of_cell? _ _ hw345_0; first | rwa [add_block] at this | exact this) GW344.out))) _).trans (hHeld.2.2.2.2.1)), ((cell_far (p := ⟨gb344, _, none⟩) (by first | exact Nat.ne_of_lt (Nat.lt_of_lt_of_le (by have := World.block_lt_of_cell? _ _ hw346_0; first | rwa [add_block] at this | exact this) GW344.out) | (rw [add_block]; exact Nat.ne_of_lt (Nat.lt_of_lt_of_le (by have := World.block_lt_of_cell? _ _ hw346_0; first | rwa [add_block] at this | exact this) GW344.out)) | (show (Addr.add _ _).block ≠ _; rw [add_block]; exact Nat.ne_of_lt (Nat.lt_of_lt_of_le (by have := World.block_lt_of_cell? _ _ hw346_0; first | rwa [add_block] at this | exact this) GW344.out)) | (dsimp only; exact Nat.ne_of_lt (Nat.lt_of_lt_of_le (by have := World.block_lt_of_cell? _ _ hw346_0; first | rwa [add_block] at this | exact this) GW344.out))) _).trans (hHeld.2.2.2.2.2))⟩ (fun hHeld => ?_)
                          clear hK K
                          refine done_ (done_of HT_.out (by kernel_rfl)) ?_
                          try go_wp2
                          have n0_ : Aside0 ((w53.setCell ⟨gb344, 2, none⟩ (.int .i64 (wrap64 (a0_2 + (wrap64 (Int.tdiv (wrap64 ((rd l2 2) - (rd l2 0))) 4)))))).heap[gb335]? = some (.cells #[.int .i64 a0_0, .int .i64 a0_1, .int .i64 a0_2, .int .i64 a0_3] 25 (0, 0))) := ⟨by (with_reducible repeat (first | refine blk_drewN ?_ _ | refine blk_drew ?_ | refine blk_alloc ?_ _)); refine blk_far ?_ NB335_344.out _; (with_reducible repeat (first | refine blk_drewN ?_ _ | refine blk_drew ?_ | refine blk_alloc ?_ _)); exact BK335.out⟩
                          have n1_ : Aside0 ((w53.setCell ⟨gb344, 2, none⟩ (.int .i64 (wrap64 (a0_2 + (wrap64 (Int.tdiv (wrap64 ((rd l2 2) - (rd l2 0))) 4)))))).heap[gb336]? = some (.cells #[.int .i64 x337000_2, .int .i64 x337001_2, .int .i64 x337002_2, .int .i64 x337003_2, .int .i64 x337004_2, .int .i64 x337005_2, .int .i64 x337006_2, .int .i64 x337007_2, .int .i64 x337008_2] 38 (0, 0))) := ⟨by (with_reducible repeat (first | refine blk_drewN ?_ _ | refine blk_drew ?_ | refine blk_alloc ?_ _)); refine blk_far ?_ NB336_344.out _; (with_reducible repeat (first | refine blk_drewN ?_ _ | refine blk_drew ?_ | refine blk_alloc ?_ _)); exact BK336.out⟩
                          have n2_ : Aside0 ((w53.setCell ⟨gb344, 2, none⟩ (.int .i64 (wrap64 (a0_2 + (wrap64 (Int.tdiv (wrap64 ((rd l2 2) - (rd l2 0))) 4)))))).heap[gb344]? = some (.cells #[.int .i64 0, .int .i64 0, .int .i64 (wrap64 (a0_2 + (wrap64 (Int.tdiv (wrap64 ((rd l2 2) - (rd l2 0))) 4)))), .int .i64 0, .int .i64 a0_0, .int .i64 a0_1, .int .i64 a0_2, .int .i64 a0_3, .int .i64 (wrap64 (Int.tdiv (wrap64 ((rd l2 0) + (rd l2 2))) 2))] 38 (0, 0))) := ⟨by (with_reducible repeat (first | refine blk_drewN ?_ _ | refine blk_drew ?_ | refine blk_alloc ?_ _)); refine blk_put (cs := #[.int .i64 0, .int .i64 0, .int .i64 0, .int .i64 0, .int .i64 a0_0, .int .i64 a0_1, .int .i64 a0_2, .int .i64 a0_3, .int .i64 (wrap64 (Int.tdiv (wrap64 ((rd l2 0) + (rd l2 2))) 2))]) ?_ 2 _ rfl; (with_reducible repeat (first | refine blk_drewN ?_ _ | refine blk_drew ?_ | refine blk_alloc ?_ _)); exact BK344.out⟩
                          have n3_ : Aside0 (Below w.heap.size w (w53.setCell ⟨gb344, 2, none⟩ (.int .i64 (wrap64 (a0_2 + (wrap64 (Int.tdiv (wrap64 ((rd l2 2) - (rd l2 0))) 4))))))) := ⟨by repeat (first | (with_reducible first | exact HB.out | apply below_alloc | apply pw_below_drewN | apply below_drew1 | refine below_set ?_ GE335.out | refine below_set ?_ GE336.out | refine below_set ?_ GE344.out) | exact HB.out)⟩
                          (try clear BK335)
                          (try clear BK336)
                          (try clear BK344)
                          (try clear HB)
                          generalize (w53.setCell ⟨gb344, 2, none⟩ (.int .i64 (wrap64 (a0_2 + (wrap64 (Int.tdiv (wrap64 ((rd l2 2) - (rd l2 0))) 4)))))) = w55 at n0_ n1_ n2_ n3_ ⊢
                          have BK335 := n0_
                          have BK336 := n1_
                          have BK344 := n2_
                          have HB := n3_
                          clear n0_ n1_ n2_ n3_
                          have n0_ := Aside0.mk (blk_drew BK335.out)
                          have n1_ := Aside0.mk (blk_drew BK336.out)
                          have n2_ := Aside0.mk (blk_drew BK344.out)
                          have n3_ := Aside0.mk (below_drew1 HB.out)
                          clear BK335
                          clear BK336
                          clear BK344
                          clear HB
                          have BK335 := n0_
                          have BK336 := n1_
                          have BK344 := n2_
                          have HB := n3_
                          clear n0_ n1_ n2_ n3_
                          have p347 : 0 ≤ (3 : Int) := (by omega)
                          have q347 : 3 < (l2.length : Int) := of_decide_eq_true (by first | (with_reducible assumption) | assumption)
                          obtain ⟨ad347, e347, hx347_0⟩ := Kd.at_int HR2.out 3 p347 q347
                          have hw347_0 := hx347_0
                          (try rw [show ((3 : Int)).toNat = 3 from rfl] at hw347_0)
                          (try rw [show 3 * 1 = 3 from rfl] at hw347_0)
                          (try simp only [Nat.reduceMul, Nat.reduceEqDiff, Go.Addr.add, ↓reduceIte] at hw347_0)
                          obtain rfl : ad342 = ad347 := (by injection e347)
                          (try simp only [show (3 : Int).toNat = 3 from rfl, Nat.reduceMul, Nat.reduceEqDiff, Go.Addr.add, ↓reduceIte] at hx347_0)
                          have qi347 : (3 < l2.length) = True := eq_true (by omega)
                          (try rw [show ((3 : Int)).toNat = 3 from rfl] at hx347_0)
                          replace hx347_0 := (HB.out.cell (World.block_lt_of_cell? w _ hx347_0)).trans hx347_0
                          replace p347 := eq_true p347
                          replace q347 := eq_true q347
                          have p348 : 0 ≤ (1 : Int) := (by omega)
                          have q348 : 1 < (l2.length : Int) := of_decide_eq_true (by first | (with_reducible assumption) | assumption)
                          obtain ⟨ad348, e348, hx348_0⟩ := Kd.at_int HR2.out 1 p348 q348
                          have hw348_0 := hx348_0
                          (try rw [show ((1 : Int)).toNat = 1 from rfl] at hw348_0)
                          (try rw [show 1 * 1 = 1 from rfl] at hw348_0)
                          (try simp only [Nat.reduceMul, Nat.reduceEqDiff, Go.Addr.add, ↓reduceIte] at hw348_0)
                          obtain rfl : ad342 = ad348 := (by injection e348)
                          (try simp only [show (1 : Int).toNat = 1 from rfl, Nat.reduceMul, Nat.reduceEqDiff, Go.Addr.add, ↓reduceIte] at hx348_0)
                          have qi348 : (1 < l2.length) = True := eq_true (by omega)
                          (try rw [show ((1 : Int)).toNat = 1 from rfl] at hx348_0)
                          replace hx348_0 := (HB.out.cell (World.block_lt_of_cell? w _ hx348_0)).trans hx348_0
                          replace p348 := eq_true p348
                          replace q348 := eq_true q348
                          refine start_ (n := 14) (S := fun w' => w'.cell? ⟨gb335, 0, none⟩ = some (.int .i64 a0_0) ∧ w'.cell? ⟨gb335, 1, none⟩ = some (.int .i64 a0_1) ∧ w'.cell? ⟨gb335, 2, none⟩ = some (.int .i64 a0_2) ∧ w'.cell? ⟨gb335, 3, none⟩ = some (.int .i64 a0_3) ∧ w'.cell? ⟨ad342.block, ad342.off + 3, none⟩ = some (.int .i64 (rd l2 3)) ∧ w'.cell? ⟨ad342.block, ad342.off + 1, none⟩ = some (.int .i64 (rd l2 1))) (ds := []) #[false, false, false, false, false, false, false, false, false, false, false, false, false, false] (by kernel_rfl) rfl rfl ⟨(blk_cell BK335.out 0).trans rfl, (blk_cell BK335.out 1).trans rfl, (blk_cell BK335.out 2).trans rfl, (blk_cell BK335.out 3).trans rfl, ((HB.out.cell (World.block_lt_of_cell? w _ hw347_0)).trans hw347_0), ((HB.out.cell (World.block_lt_of_cell? w _ hw348_0)).trans hw348_0)⟩ (fun hHeld => ?_); refine with_tabW spec_MachineFrom.tab10 spec_MachineFrom.bits10 (fun HT_ HW_ => ?_)
                          generalize w55.drew = w56 at BK335 BK336 BK344 HB hx347_0 hx348_0 hHeld ⊢
                          refine pure_ (i := 0) (N := some 66) (v := ?_) (a' := ?_) #[true, false, false, false, false, false, false, false, false, false, false, false, false, false] rfl rfl (any_of HT_.out (by kernel_rfl)) (fun _ _ _ h => h) (Or.inl ⟨by rfl, ?_⟩) ?_ ?_
                          rotate_left
                          · intro w'
                            go_simp
                            with_reducible rfl
                          rotate_left
                          · simp only [Act.put, List.setIfInBounds_toArray, List.set_cons_zero, List.set_cons_succ, i64_w, i32_w]
                            rfl
                          refine pure_ (i := 2) (N := some 68) (v := ?_) (a' := ?_) #[true, false, true, false, false, false, false, false, false, false, false, false, false, false] rfl rfl (any_of HT_.out (by kernel_rfl)) (fun _ _ _ h => h) (Or.inl ⟨by rfl, ?_⟩) ?_ ?_
                          rotate_left
                          · intro w'
                            go_simp
                            with_reducible rfl
                          rotate_left
                          · simp only [Act.put, List.setIfInBounds_toArray, List.set_cons_zero, List.set_cons_succ, i64_w, i32_w]
                            rfl
                          refine pure_ (i := 3) (N := some 69) (v := ?_) (a' := ?_) #[true, false, true, true, false, false, false, false, false, false, false, false, false, false] rfl rfl (any_of HT_.out (by kernel_rfl)) (fun _ _ _ h => h) (Or.inl ⟨by rfl, ?_⟩) ?_ ?_
                          rotate_left
                          · intro w'
                            go_simp
                            with_reducible rfl
                          rotate_left
                          · simp only [Act.put, List.setIfInBounds_toArray, List.set_cons_zero, List.set_cons_succ, i64_w, i32_w]
                            rfl
                          refine pure_ (i := 5) (N := some 71) (v := ?_) (a' := ?_) #[true, false, true, true, false, true, false, false, false, false, false, false, false, false] rfl rfl (any_of HT_.out (by kernel_rfl)) (fun _ _ _ h => h) (Or.inl ⟨by rfl, ?_⟩) ?_ ?_
                          rotate_left
                          · intro w'
                            go_simp
                            with_reducible rfl
                          rotate_left
                          · simp only [Act.put, List.setIfInBounds_toArray, List.set_cons_zero, List.set_cons_succ, i64_w, i32_w]
                            rfl
                          refine pure_ (i := 6) (N := some 72) (v := ?_) (a' := ?_) #[true, false, true, true, false, true, true, false, false, false, false, false, false, false] rfl rfl (any_of HT_.out (by kernel_rfl)) (fun _ _ _ h => h) (Or.inl ⟨by rfl, ?_⟩) ?_ ?_
                          rotate_left
                          · intro w'
                            go_simp
                            with_reducible rfl
                          rotate_left
                          · simp only [Act.put, List.setIfInBounds_toArray, List.set_cons_zero, List.set_cons_succ, i64_w, i32_w]
                            rfl
                          refine take_ (i := 1) (N := some 67) (v := ?_) (a' := ?_) #[true, true, true, true, false, true, true, false, false, false, false, false, false, false] rfl rfl (take_ofW HT_.out HW_.out (by kernel_rfl)) (fun _ _ _ h => h) (Or.inl ⟨by rfl, ?_⟩) hHeld ?_ ?_
                          rotate_left
                          · rintro w' ⟨s0, s1, s2, s3, s4, s5⟩
                            go_simp
                            with_reducible rfl
                          rotate_left
                          · simp only [Act.put, List.setIfInBounds_toArray, List.set_cons_zero, List.set_cons_succ, i64_w, i32_w]
                            rfl
                          refine take_ (i := 4) (N := some 70) (v := ?_) (a' := ?_) #[true, true, true, true, true, true, true, false, false, false, false, false, false, false] rfl rfl (take_ofW HT_.out HW_.out (by kernel_rfl)) (fun _ _ _ h => h) (Or.inl ⟨by rfl, ?_⟩) hHeld ?_ ?_
                          rotate_left
                          · rintro w' ⟨s0, s1, s2, s3, s4, s5⟩
                            go_simp
                            with_reducible rfl
                          rotate_left
                          · simp only [Act.put, List.setIfInBounds_toArray, List.set_cons_zero, List.set_cons_succ, i64_w, i32_w]
                            rfl
                          refine take_ (i := 7) (N := some 73) (v := ?_) (a' := ?_) #[true, true, true, true, true, true, true, true, false, false, false, false, false, false] rfl rfl (take_ofW HT_.out HW_.out (by kernel_rfl)) (fun _ _ _ h => h) (Or.inl ⟨by rfl, ?_⟩) hHeld ?_ ?_
                          rotate_left
                          · rintro w' ⟨s0, s1, s2, s3, s4, s5⟩
                            go_simp
                            with_reducible rfl
                          rotate_left
                          · simp only [Act.put, List.setIfInBounds_toArray, List.set_cons_zero, List.set_cons_succ, i64_w, i32_w]
                            rfl
                          refine pure_ (i := 8) (N := some 74) (v := ?_) (a' := ?_) #[true, true, true, true, true, true, true, true, true, false, false, false, false, false] rfl rfl (any_of HT_.out (by kernel_rfl)) (fun _ _ _ h => h) (Or.inl ⟨by rfl, ?_⟩) ?_ ?_
                          rotate_left
                          · intro w'
                            go_simp
                            with_reducible rfl
                          rotate_left
                          · simp only [Act.put, List.setIfInBounds_toArray, List.set_cons_zero, List.set_cons_succ, i64_w, i32_w]
                            rfl
                          refine pure_ (i := 9) (N := some 75) (v := ?_) (a' := ?_) #[true, true, true, true, true, true, true, true, true, true, false, false, false, false] rfl rfl (any_of HT_.out (by kernel_rfl)) (fun _ _ _ h => h) (Or.inl ⟨by rfl, ?_⟩) ?_ ?_
                          rotate_left
                          · intro w'
                            go_simp
                            with_reducible rfl
                          rotate_left
                          · simp only [Act.put, List.setIfInBounds_toArray, List.set_cons_zero, List.set_cons_succ, i64_w, i32_w]
                            rfl
                          refine pure_ (i := 10) (N := some 76) (v := ?_) (a' := ?_) #[true, true, true, true, true, true, true, true, true, true, true, false, false, false] rfl rfl (any_of HT_.out (by kernel_rfl)) (fun _ _ _ h => h) (Or.inl ⟨by rfl, ?_⟩) ?_ ?_
                          rotate_left
                          · intro w'
                            go_simp
                            with_reducible rfl
                          rotate_left
                          · simp only [Act.put, List.setIfInBounds_toArray, List.set_cons_zero, List.set_cons_succ, i64_w, i32_w]
                            rfl
                          refine pure_ (i := 11) (N := some 77) (v := ?_) (a' := ?_) #[true, true, true, true, true, true, true, true, true, true, true, true, false, false] rfl rfl (any_of HT_.out (by kernel_rfl)) (fun _ _ _ h => h) (Or.inl ⟨by rfl, ?_⟩) ?_ ?_
                          rotate_left
                          · intro w'
                            go_simp
                            with_reducible rfl
                          rotate_left
                          · simp only [Act.put, List.setIfInBounds_toArray, List.set_cons_zero, List.set_cons_succ, i64_w, i32_w]
                            rfl
                          refine pure_ (i := 12) (N := some 78) (v := ?_) (a' := ?_) #[true, true, true, true, true, true, true, true, true, true, true, true, true, false] rfl rfl (any_of HT_.out (by kernel_rfl)) (fun _ _ _ h => h) (Or.inl ⟨by rfl, ?_⟩) ?_ ?_
                          rotate_left
                          · intro w'
                            go_simp
                            with_reducible rfl
                          rotate_left
                          · simp only [Act.put, List.setIfInBounds_toArray, List.set_cons_zero, List.set_cons_succ, i64_w, i32_w]
                            rfl
                          refine one_ (i := 13) (N := none) #[true, true, true, true, true, true, true, true, true, true, true, true, true, true] rfl rfl (one_of HT_.out (by kernel_rfl)) (by decide) (fun K hK => ?_)
                          have hs57 : w56.cell? ⟨gb344, 3, none⟩ = some (.int .i64 0) := (blk_cell BK344.out 3).trans rfl
                          have hfs57 := blk_frozen BK344.out 3
                          have hns57_0 := NB335_344.out
                          have hns57_1 := NB336_344.out
                          have hms57_0 := NB344_335.out
                          have hms57_1 := NB344_336.out
                          refine skip_ (w1 := ?_) (by rfl) rfl ?_ ?_
                          rotate_left
                          · go_simp
                            rfl
                          refine hK.out _ _ ⟨((cell_far (p := ⟨gb344, _, none⟩) NB335_344.out _).trans (hHeld.1)), ((cell_far (p := ⟨gb344, _, none⟩) NB335_344.out _).trans (hHeld.2.1)), ((cell_far (p := ⟨gb344, _, none⟩) NB335_344.out _).trans (hHeld.2.2.1)), ((cell_far (p := ⟨gb344, _, none⟩) NB335_344.out _).trans (hHeld.2.2.2.1)), ((cell_far (p := ⟨gb344, _, none⟩) (by first | exact Nat.ne_of_lt (Nat.lt_of_lt_of_le (by have := World.block_lt_of_cell? _ _ hw347_0; first | rwa [add_block] at this | exact this) GW344.out) | (rw [add_block]; exact Nat.ne_of_lt (Nat.lt_of_lt_of_le (by have := World.block_lt_of_cell? _ _ hw347_0; first | rwa [add_block] at this | exact this) GW344.out)) | (show (Addr.add _ _).block ≠ _; rw [add_block]; exact Nat.ne_of_lt (Nat.lt_of_lt_of_le (by have := World.block_lt_of_cell? _ _ hw347_0; first | rwa [add_block] at this | exact this) GW344.out)) | (dsimp only; exact Nat.ne_of_lt (Nat.lt_of_lt_of_le (by have := World.block_lt_of_cell? _ _ hw347_0; first | rwa [add_block] at this | exact this) GW344.out))) _).trans (hHeld.2.2.2.2.1)), ((cell_far (p := ⟨gb344, _, none⟩) (by first | exact Nat.ne_of_lt (Nat.lt_of_lt_of_le (by have := World.block_lt_of_cell? _ _ hw348_0; first | rwa [add_block] at this | exact this) GW344.out) | (rw [add_block]; exact Nat.ne_of_lt (Nat.lt_of_lt_of_le (by have := World.block_lt_of_cell? _ _ hw348_0; first | rwa [add_block] at this | exact this) GW344.out)) | (show (Addr.add _ _).block ≠ _; rw [add_block]; exact Nat.ne_of_lt (Nat.lt_of_lt_of_le (by have := World.block_lt_of_cell? _ _ hw348_0; first | rwa [add_block] at this | exact this) GW344.out)) | (dsimp only; exact Nat.ne_of_lt (Nat.lt_of_lt_of_le (by have := World.block_lt_of_cell? _ _ hw348_0; first | rwa [add_block] at this | exact this) GW344.out))) _).trans (hHeld.2.2.2.2.2))⟩ (fun hHeld => ?_)
                          clear hK K
                          refine done_ (done_of HT_.out (by kernel_rfl)) ?_
                          try go_wp2
                          have n0_ : Aside0 ((w56.setCell ⟨gb344, 3, none⟩ (.int .i64 (wrap64 (a0_3 + (wrap64 (Int.tdiv (wrap64 ((rd l2 3) - (rd l2 1))) 4)))))).heap[gb335]? = some (.cells #[.int .i64 a0_0, .int .i64 a0_1, .int .i64 a0_2, .int .i64 a0_3] 25 (0, 0))) := ⟨by (with_reducible repeat (first | refine blk_drewN ?_ _ | refine blk_drew ?_ | refine blk_alloc ?_ _)); refine blk_far ?_ NB335_344.out _; (with_reducible repeat (first | refine blk_drewN ?_ _ | refine blk_drew ?_ | refine blk_alloc ?_ _)); exact BK335.out⟩
                          have n1_ : Aside0 ((w56.setCell ⟨gb344, 3, none⟩ (.int .i64 (wrap64 (a0_3 + (wrap64 (Int.tdiv (wrap64 ((rd l2 3) - (rd l2 1))) 4)))))).heap[gb336]? = some (.cells #[.int .i64 x337000_2, .int .i64 x337001_2, .int .i64 x337002_2, .int .i64 x337003_2, .int .i64 x337004_2, .int .i64 x337005_2, .int .i64 x337006_2, .int .i64 x337007_2, .int .i64 x337008_2] 38 (0, 0))) := ⟨by (with_reducible repeat (first | refine blk_drewN ?_ _ | refine blk_drew ?_ | refine blk_alloc ?_ _)); refine blk_far ?_ NB336_344.out _; (with_reducible repeat (first | refine blk_drewN ?_ _ | refine blk_drew ?_ | refine blk_alloc ?_ _)); exact BK336.out⟩
                          have n2_ : Aside0 ((w56.setCell ⟨gb344, 3, none⟩ (.int .i64 (wrap64 (a0_3 + (wrap64 (Int.tdiv (wrap64 ((rd l2 3) - (rd l2 1))) 4)))))).heap[gb344]? = some (.cells #[.int .i64 0, .int .i64 0, .int .i64 (wrap64 (a0_2 + (wrap64 (Int.tdiv (wrap64 ((rd l2 2) - (rd l2 0))) 4)))), .int .i64 (wrap64 (a0_3 + (wrap64 (Int.tdiv (wrap64 ((rd l2 3) - (rd l2 1))) 4)))), .int .i64 a0_0, .int .i64 a0_1, .int .i64 a0_2, .int .i64 a0_3, .int .i64 (wrap64 (Int.tdiv (wrap64 ((rd l2 0) + (rd l2 2))) 2))] 38 (0, 0))) := ⟨by (with_reducible repeat (first | refine blk_drewN ?_ _ | refine blk_drew ?_ | refine blk_alloc ?_ _)); refine blk_put (cs := #[.int .i64 0, .int .i64 0, .int .i64 (wrap64 (a0_2 + (wrap64 (Int.tdiv (wrap64 ((rd l2 2) - (rd l2 0))) 4)))), .int .i64 0, .int .i64 a0_0, .int .i64 a0_1, .int .i64 a0_2, .int .i64 a0_3, .int .i64 (wrap64 (Int.tdiv (wrap64 ((rd l2 0) + (rd l2 2))) 2))]) ?_ 3 _ rfl; (with_reducible repeat (first | refine blk_drewN ?_ _ | refine blk_drew ?_ | refine blk_alloc ?_ _)); exact BK344.out⟩
                          have n3_ : Aside0 (Below w.heap.size w (w56.setCell ⟨gb344, 3, none⟩ (.int .i64 (wrap64 (a0_3 + (wrap64 (Int.tdiv (wrap64 ((rd l2 3) - (rd l2 1))) 4))))))) := ⟨by repeat (first | (with_reducible first | exact HB.out | apply below_alloc | apply pw_below_drewN | apply below_drew1 | refine below_set ?_ GE335.out | refine below_set ?_ GE336.out | refine below_set ?_ GE344.out) | exact HB.out)⟩
                          (try clear BK335)
                          (try clear BK336)
                          (try clear BK344)
                          (try clear HB)
                          generalize (w56.setCell ⟨gb344, 3, none⟩ (.int .i64 (wrap64 (a0_3 + (wrap64 (Int.tdiv (wrap64 ((rd l2 3) - (rd l2 1))) 4)))))) = w58 at n0_ n1_ n2_ n3_ ⊢
                          have BK335 := n0_
                          have BK336 := n1_
                          have BK344 := n2_
                          have HB := n3_
                          clear n0_ n1_ n2_ n3_
                          have n0_ := Aside0.mk (blk_drew BK335.out)
                          have n1_ := Aside0.mk (blk_drew BK336.out)
                          have n2_ := Aside0.mk (blk_drew BK344.out)
                          have n3_ := Aside0.mk (below_drew1 HB.out)
                          clear BK335
                          clear BK336
                          clear BK344
                          clear HB
                          have BK335 := n0_
                          have BK336 := n1_
                          have BK344 := n2_
                          have HB := n3_
                          clear n0_ n1_ n2_ n3_
                          have p349 : 0 ≤ (0 : Int) := (by omega)
                          have q349 : 0 < (l1.length : Int) := of_decide_eq_true (by first | (with_reducible assumption) | assumption)
                          obtain ⟨ad349, e349, hx349_0⟩ := Kd.at_int HR1.out 0 p349 q349
                          have hw349_0 := hx349_0
                          (try rw [show ((0 : Int)).toNat = 0 from rfl] at hw349_0)
                          (try rw [show 0 * 1 = 0 from rfl] at hw349_0)
                          (try rw [Addr.add_zero'] at hw349_0)
                          cases e349
                          have qi349 : (0 < l1.length) = True := eq_true (by omega)
                          (try rw [show ((0 : Int)).toNat = 0 from rfl] at hx349_0)
                          (try rw [Addr.add_zero'] at hx349_0)
                          replace hx349_0 := (HB.out.cell (World.block_lt_of_cell? w _ hx349_0)).trans hx349_0
                          replace p349 := eq_true p349
                          replace q349 := eq_true q349
                          refine start_ (n := 15) (S := fun w' => w'.cell? ⟨gb335, 0, none⟩ = some (.int .i64 a0_0) ∧ w'.cell? ⟨gb335, 1, none⟩ = some (.int .i64 a0_1) ∧ w'.cell? ⟨gb335, 2, none⟩ = some (.int .i64 a0_2) ∧ w'.cell? ⟨gb335, 3, none⟩ = some (.int .i64 a0_3) ∧ w'.cell? ⟨gb344, 0, none⟩ = some (.int .i64 0) ∧ w'.cell? ⟨gb344, 1, none⟩ = some (.int .i64 0) ∧ w'.cell? ⟨gb344, 2, none⟩ = some (.int .i64 (wrap64 (a0_2 + (wrap64 (Int.tdiv (wrap64 ((rd l2 2) - (rd l2 0))) 4))))) ∧ w'.cell? ⟨gb344, 3, none⟩ = some (.int .i64 (wrap64 (a0_3 + (wrap64 (Int.tdiv (wrap64 ((rd l2 3) - (rd l2 1))) 4))))) ∧ w'.cell? ⟨gb344, 4, none⟩ = some (.int .i64 a0_0) ∧ w'.cell? ⟨gb344, 5, none⟩ = some (.int .i64 a0_1) ∧ w'.cell? ⟨gb344, 6, none⟩ = some (.int .i64 a0_2) ∧ w'.cell? ⟨gb344, 7, none⟩ = some (.int .i64 a0_3) ∧ w'.cell? ⟨gb344, 8, none⟩ = some (.int .i64 (wrap64 (Int.tdiv (wrap64 ((rd l2 0) + (rd l2 2))) 2))) ∧ w'.cell? ad349 = some (.int .i64 (rd l1 0))) (ds := [14]) #[false, false, false, false, false, false, false, false, false, false, false, false, false, false, false] (by kernel_rfl) rfl rfl ⟨(blk_cell BK335.out 0).trans rfl, (blk_cell BK335.out 1).trans rfl, (blk_cell BK335.out 2).trans rfl, (blk_cell BK335.out 3).trans rfl, (blk_cell BK344.out 0).trans rfl, (blk_cell BK344.out 1).trans rfl, (blk_cell BK344.out 2).trans rfl, (blk_cell BK344.out 3).trans rfl, (blk_cell BK344.out 4).trans rfl, (blk_cell BK344.out 5).trans rfl, (blk_cell BK344.out 6).trans rfl, (blk_cell BK344.out 7).trans rfl, (blk_cell BK344.out 8).trans rfl, ((HB.out.cell (World.block_lt_of_cell? w _ hw349_0)).trans hw349_0)⟩ (fun hHeld => ?_); refine with_tabW spec_MachineFrom.tab11 spec_MachineFrom.bits11 (fun HT_ HW_ => ?_)
                          generalize w58.drew = w59 at BK335 BK336 BK344 HB hx349_0 hHeld ⊢
                          refine pure_ (i := 0) (N := some 79) (v := ?_) (a' := ?_) #[true, false, false, false, false, false, false, false, false, false, false, false, false, false, false] rfl rfl (any_of HT_.out (by kernel_rfl)) (fun _ _ _ h => h) (Or.inl ⟨by rfl, ?_⟩) ?_ ?_
                          rotate_left
                          · intro w'
                            go_simp
                            with_reducible rfl
                          rotate_left
                          · simp only [Act.put, List.setIfInBounds_toArray, List.set_cons_zero, List.set_cons_succ, i64_w, i32_w]
                            rfl
                          refine pure_ (i := 2) (N := some 81) (v := ?_) (a' := ?_) #[true, false, true, false, false, false, false, false, false, false, false, false, false, false, false] rfl rfl (any_of HT_.out (by kernel_rfl)) (fun _ _ _ h => h) (Or.inl ⟨by rfl, ?_⟩) ?_ ?_
                          rotate_left
                          · intro w'
                            go_simp
                            with_reducible rfl
                          rotate_left
                          · simp only [Act.put, List.setIfInBounds_toArray, List.set_cons_zero, List.set_cons_succ, i64_w, i32_w]
                            rfl
                          refine pure_ (i := 3) (N := some 82) (v := ?_) (a' := ?_) #[true, false, true, true, false, false, false, false, false, false, false, false, false, false, false] rfl rfl (any_of HT_.out (by kernel_rfl)) (fun _ _ _ h => h) (Or.inl ⟨by rfl, ?_⟩) ?_ ?_
                          rotate_left
                          · intro w'
                            go_simp
                            with_reducible rfl
                          rotate_left
                          · simp only [Act.put, List.setIfInBounds_toArray, List.set_cons_zero, List.set_cons_succ, i64_w, i32_w]
                            rfl
                          refine pure_ (i := 7) (N := some 86) (v := ?_) (a' := ?_) #[true, false, true, true, false, false, false, true, false, false, false, false, false, false, false] rfl rfl (any_of HT_.out (by kernel_rfl)) (fun _ _ _ h => h) (Or.inl ⟨by rfl, ?_⟩) ?_ ?_
                          rotate_left
                          · intro w'
                            go_simp
                            with_reducible rfl
                          rotate_left
                          · simp only [Act.put, List.setIfInBounds_toArray, List.set_cons_zero, List.set_cons_succ, i64_w, i32_w]
                            rfl
                          refine pure_ (i := 8) (N := some 87) (v := ?_) (a' := ?_) #[true, false, true, true, false, false, false, true, true, false, false, false, false, false, false] rfl rfl (any_of HT_.out (by kernel_rfl)) (fun _ _ _ h => h) (Or.inl ⟨by rfl, ?_⟩) ?_ ?_
                          rotate_left
                          · intro w'
                            go_simp
                            with_reducible rfl
                          rotate_left
                          · simp only [Act.put, List.setIfInBounds_toArray, List.set_cons_zero, List.set_cons_succ, i64_w, i32_w]
                            rfl
                          refine take_ (i := 1) (N := some 80) (v := ?_) (a' := ?_) #[true, true, true, true, false, false, false, true, true, false, false, false, false, false, false] rfl rfl (take_ofW HT_.out HW_.out (by kernel_rfl)) (fun _ _ _ h => h) (Or.inl ⟨by rfl, ?_⟩) hHeld ?_ ?_
                          rotate_left
                          · rintro w' ⟨s0, s1, s2, s3, s4, s5, s6, s7, s8, s9, s10, s11, s12, s13⟩
                            go_simp
                            with_reducible rfl
                          rotate_left
                          · simp only [Act.put, List.setIfInBounds_toArray, List.set_cons_zero, List.set_cons_succ, i64_w, i32_w]
                            rfl
                          refine take_ (i := 4) (N := some 83) (v := ?_) (a' := ?_) #[true, true, true, true, true, false, false, true, true, false, false, false, false, false, false] rfl rfl (take_ofW HT_.out HW_.out (by kernel_rfl)) (fun _ _ _ h => h) (Or.inl ⟨by rfl, ?_⟩) hHeld ?_ ?_
                          rotate_left
                          · rintro w' ⟨s0, s1, s2, s3, s4, s5, s6, s7, s8, s9, s10, s11, s12, s13⟩
                            go_simp
                            with_reducible rfl
                          rotate_left
                          · simp only [Act.put, List.setIfInBounds_toArray, List.set_cons_zero, List.set_cons_succ, i64_w, i32_w]
                            rfl
                          refine pure_ (i := 5) (N := some 84) (v := ?_) (a' := ?_) #[true, true, true, true, true, true, false, true, true, false, false, false, false, false, false] rfl rfl (any_of HT_.out (by kernel_rfl)) (fun _ _ _ h => h) (Or.inl ⟨by rfl, ?_⟩) ?_ ?_
                          rotate_left
                          · intro w'
                            go_simp
                            with_reducible rfl
                          rotate_left
                          · simp only [Act.put, List.setIfInBounds_toArray, List.set_cons_zero, List.set_cons_succ, i64_w, i32_w]
                            rfl
                          refine pure_ (i := 6) (N := some 85) (v := ?_) (a' := ?_) #[true, true, true, true, true, true, true, true, true, false, false, false, false, false, false] rfl rfl (any_of HT_.out (by kernel_rfl)) (fun _ _ _ h => h) (Or.inl ⟨by rfl, ?_⟩) ?_ ?_
                          rotate_left
                          · intro w'
                            go_simp
                            with_reducible rfl
                          rotate_left
                          · simp only [Act.put, List.setIfInBounds_toArray, List.set_cons_zero, List.set_cons_succ, i64_w, i32_w]
                            rfl
                          refine take_ (i := 9) (N := some 88) (v := ?_) (a' := ?_) #[true, true, true, true, true, true, true, true, true, true, false, false, false, false, false] rfl rfl (take_ofW HT_.out HW_.out (by kernel_rfl)) (fun _ _ _ h => h) (Or.inl ⟨by rfl, ?_⟩) hHeld ?_ ?_
                          rotate_left
                          · rintro w' ⟨s0, s1, s2, s3, s4, s5, s6, s7, s8, s9, s10, s11, s12, s13⟩
                            go_simp
                            with_reducible rfl
                          rotate_left
                          · simp only [Act.put, List.setIfInBounds_toArray, List.set_cons_zero, List.set_cons_succ, i64_w, i32_w]
                            rfl
                          refine pure_ (i := 10) (N := some 89) (v := ?_) (a' := ?_) #[true, true, true, true, true, true, true, true, true, true, true, false, false, false, false] rfl rfl (any_of HT_.out (by kernel_rfl)) (fun _ _ _ h => h) (Or.inl ⟨by rfl, ?_⟩) ?_ ?_
                          rotate_left
                          · intro w'
                            go_simp
                            with_reducible rfl
                          rotate_left
                          · simp only [Act.put, List.setIfInBounds_toArray, List.set_cons_zero, List.set_cons_succ, i64_w, i32_w]
                            rfl
                          refine pure_ (i := 11) (N := some 90) (v := ?_) (a' := ?_) #[true, true, true, true, true, true, true, true, true, true, true, true, false, false, false] rfl rfl (any_of HT_.out (by kernel_rfl)) (fun _ _ _ h => h) (Or.inl ⟨by rfl, ?_⟩) ?_ ?_
                          rotate_left
                          · intro w'
                            go_simp
                            with_reducible rfl
                          rotate_left
                          · simp only [Act.put, List.setIfInBounds_toArray, List.set_cons_zero, List.set_cons_succ, i64_w, i32_w]
                            rfl
                          refine pure_ (i := 12) (N := some 91) (v := ?_) (a' := ?_) #[true, true, true, true, true, true, true, true, true, true, true, true, true, false, false] rfl rfl (any_of HT_.out (by kernel_rfl)) (fun _ _ _ h => h) (Or.inl ⟨by rfl, ?_⟩) ?_ ?_
                          rotate_left
                          · intro w'
                            go_simp
                            with_reducible rfl
                          rotate_left
                          · simp only [Act.put, List.setIfInBounds_toArray, List.set_cons_zero, List.set_cons_succ, i64_w, i32_w]
                            rfl
                          refine pure_ (i := 13) (N := some 92) (v := ?_) (a' := ?_) #[true, true, true, true, true, true, true, true, true, true, true, true, true, true, false] rfl rfl (any_of HT_.out (by kernel_rfl)) (fun _ _ _ h => h) (Or.inl ⟨by rfl, ?_⟩) ?_ ?_
                          rotate_left
                          · intro w'
                            go_simp
                            with_reducible rfl
                          rotate_left
                          · simp only [Act.put, List.setIfInBounds_toArray, List.set_cons_zero, List.set_cons_succ, i64_w, i32_w]
                            rfl
                          refine last_ (i := 14) (N := none) #[true, true, true, true, true, true, true, true, true, true, true, true, true, true, true] rfl rfl (one_of HT_.out (by kernel_rfl)) (by decide) (fun K hK => ?_)
                          have hs60 : w59.cell? ⟨gb344, 0, none⟩ = some (.int .i64 0) := (blk_cell BK344.out 0).trans rfl
                          have hfs60 := blk_frozen BK344.out 0
                          have hns60_0 := NB335_344.out
                          have hns60_1 := NB336_344.out
                          have hms60_0 := NB344_335.out
                          have hms60_1 := NB344_336.out
                          refine skip_ (w1 := ?_) (by rfl) rfl ?_ ?_
                          rotate_left
                          · go_simp
                            rfl
                          refine hK.out _ _ ?_
                          clear hK K
                          refine done_ (done_of HT_.out (by kernel_rfl)) ?_
                          try go_wp2
                          have n0_ : Aside0 ((w59.setCell ⟨gb344, 0, none⟩ (.int .i64 (wrap64 ((wrap64 (a0_0 + (wrap64 (2 * (wrap64 (a0_2 + (wrap64 (Int.tdiv (wrap64 ((rd l2 2) - (rd l2 0))) 4)))))))) - (wrap64 (40 - (rd l1 0))))))).heap[gb335]? = some (.cells #[.int .i64 a0_0, .int .i64 a0_1, .int .i64 a0_2, .int .i64 a0_3] 25 (0, 0))) := ⟨by (with_reducible repeat (first | refine blk_drewN ?_ _ | refine blk_drew ?_ | refine blk_alloc ?_ _)); refine blk_far ?_ NB335_344.out _; (with_reducible repeat (first | refine blk_drewN ?_ _ | refine blk_drew ?_ | refine blk_alloc ?_ _)); exact BK335.out⟩
                          have n1_ : Aside0 ((w59.setCell ⟨gb344, 0, none⟩ (.int .i64 (wrap64 ((wrap64 (a0_0 + (wrap64 (2 * (wrap64 (a0_2 + (wrap64 (Int.tdiv (wrap64 ((rd l2 2) - (rd l2 0))) 4)))))))) - (wrap64 (40 - (rd l1 0))))))).heap[gb336]? = some (.cells #[.int .i64 x337000_2, .int .i64 x337001_2, .int .i64 x337002_2, .int .i64 x337003_2, .int .i64 x337004_2, .int .i64 x337005_2, .int .i64 x337006_2, .int .i64 x337007_2, .int .i64 x337008_2] 38 (0, 0))) := ⟨by (with_reducible repeat (first | refine blk_drewN ?_ _ | refine blk_drew ?_ | refine blk_alloc ?_ _)); refine blk_far ?_ NB336_344.out _; (with_reducible repeat (first | refine blk_drewN ?_ _ | refine blk_drew ?_ | refine blk_alloc ?_ _)); exact BK336.out⟩
                          have n2_ : Aside0 ((w59.setCell ⟨gb344, 0, none⟩ (.int .i64 (wrap64 ((wrap64 (a0_0 + (wrap64 (2 * (wrap64 (a0_2 + (wrap64 (Int.tdiv (wrap64 ((rd l2 2) - (rd l2 0))) 4)))))))) - (wrap64 (40 - (rd l1 0))))))).heap[gb344]? = some (.cells #[.int .i64 (wrap64 ((wrap64 (a0_0 + (wrap64 (2 * (wrap64 (a0_2 + (wrap64 (Int.tdiv (wrap64 ((rd l2 2) - (rd l2 0))) 4)))))))) - (wrap64 (40 - (rd l1 0))))), .int .i64 0, .int .i64 (wrap64 (a0_2 + (wrap64 (Int.tdiv (wrap64 ((rd l2 2) - (rd l2 0))) 4)))), .int .i64 (wrap64 (a0_3 + (wrap64 (Int.tdiv (wrap64 ((rd l2 3) - (rd l2 1))) 4)))), .int .i64 a0_0, .int .i64 a0_1, .int .i64 a0_2, .int .i64 a0_3, .int .i64 (wrap64 (Int.tdiv (wrap64 ((rd l2 0) + (rd l2 2))) 2))] 38 (0, 0))) := ⟨by (with_reducible repeat (first | refine blk_drewN ?_ _ | refine blk_drew ?_ | refine blk_alloc ?_ _)); refine blk_put (cs := #[.int .i64 0, .int .i64 0, .int .i64 (wrap64 (a0_2 + (wrap64 (Int.tdiv (wrap64 ((rd l2 2) - (rd l2 0))) 4)))), .int .i64 (wrap64 (a0_3 + (wrap64 (Int.tdiv (wrap64 ((rd l2 3) - (rd l2 1))) 4)))), .int .i64 a0_0, .int .i64 a0_1, .int .i64 a0_2, .int .i64 a0_3, .int .i64 (wrap64 (Int.tdiv (wrap64 ((rd l2 0) + (rd l2 2))) 2))]) ?_ 0 _ rfl; (with_reducible repeat (first | refine blk_drewN ?_ _ | refine blk_drew ?_ | refine blk_alloc ?_ _)); exact BK344.out⟩
                          have n3_ : Aside0 (Below w.heap.size w (w59.setCell ⟨gb344, 0, none⟩ (.int .i64 (wrap64 ((wrap64 (a0_0 + (wrap64 (2 * (wrap64 (a0_2 + (wrap64 (Int.tdiv (wrap64 ((rd l2 2) - (rd l2 0))) 4)))))))) - (wrap64 (40 - (rd l1 0)))))))) := ⟨by repeat (first | (with_reducible first | exact HB.out | apply below_alloc | apply pw_below_drewN | apply below_drew1 | refine below_set ?_ GE335.out | refine below_set ?_ GE336.out | refine below_set ?_ GE344.out) | exact HB.out)⟩
                          (try clear BK335)
                          (try clear BK336)
                          (try clear BK344)
                          (try clear HB)
                          generalize (w59.setCell ⟨gb344, 0, none⟩ (.int .i64 (wrap64 ((wrap64 (a0_0 + (wrap64 (2 * (wrap64 (a0_2 + (wrap64 (Int.tdiv (wrap64 ((rd l2 2) - (rd l2 0))) 4)))))))) - (wrap64 (40 - (rd l1 0))))))) = w61 at n0_ n1_ n2_ n3_ ⊢
                          have BK335 := n0_
                          have BK336 := n1_
                          have BK344 := n2_
                          have HB := n3_
                          clear n0_ n1_ n2_ n3_
                          have n0_ := Aside0.mk (blk_drew BK335.out)
                          have n1_ := Aside0.mk (blk_drew BK336.out)
                          have n2_ := Aside0.mk (blk_drew BK344.out)
                          have n3_ := Aside0.mk (below_drew1 HB.out)
                          clear BK335
                          clear BK336
                          clear BK344
                          clear HB
                          have BK335 := n0_
                          have BK336 := n1_
                          have BK344 := n2_
                          have HB := n3_
                          clear n0_ n1_ n2_ n3_
                          have p350 : 0 ≤ (1 : Int) := (by omega)
                          have q350 : 1 < (l1.length : Int) := of_decide_eq_true (by first | (with_reducible assumption) | assumption)
                          obtain ⟨ad350, e350, hx350_0⟩ := Kd.at_int HR1.out 1 p350 q350
                          have hw350_0 := hx350_0
                          (try rw [show ((1 : Int)).toNat = 1 from rfl] at hw350_0)
                          (try rw [show 1 * 1 = 1 from rfl] at hw350_0)
                          (try simp only [Nat.reduceMul, Nat.reduceEqDiff, Go.Addr.add, ↓reduceIte] at hw350_0)
                          obtain rfl : ad349 = ad350 := (by injection e350)
                          (try simp only [show (1 : Int).toNat = 1 from rfl, Nat.reduceMul, Nat.reduceEqDiff, Go.Addr.add, ↓reduceIte] at hx350_0)
                          have qi350 : (1 < l1.length) = True := eq_true (by omega)
                          (try rw [show ((1 : Int)).toNat = 1 from rfl] at hx350_0)
                          replace hx350_0 := (HB.out.cell (World.block_lt_of_cell? w _ hx350_0)).trans hx350_0
                          replace p350 := eq_true p350
                          replace q350 := eq_true q350
                          refine start_ (n := 15) (S := fun w' => w'.cell? ⟨gb335, 0, none⟩ = some (.int .i64 a0_0) ∧ w'.cell? ⟨gb335, 1, none⟩ = some (.int .i64 a0_1) ∧ w'.cell? ⟨gb335, 2, none⟩ = some (.int .i64 a0_2) ∧ w'.cell? ⟨gb335, 3, none⟩ = some (.int .i64 a0_3) ∧ w'.cell? ⟨gb344, 0, none⟩ = some (.int .i64 (wrap64 ((wrap64 (a0_0 + (wrap64 (2 * (wrap64 (a0_2 + (wrap64 (Int.tdiv (wrap64 ((rd l2 2) - (rd l2 0))) 4)))))))) - (wrap64 (40 - (rd l1 0)))))) ∧ w'.cell? ⟨gb344, 1, none⟩ = some (.int .i64 0) ∧ w'.cell? ⟨gb344, 2, none⟩ = some (.int .i64 (wrap64 (a0_2 + (wrap64 (Int.tdiv (wrap64 ((rd l2 2) - (rd l2 0))) 4))))) ∧ w'.cell? ⟨gb344, 3, none⟩ = some (.int .i64 (wrap64 (a0_3 + (wrap64 (Int.tdiv (wrap64 ((rd l2 3) - (rd l2 1))) 4))))) ∧ w'.cell? ⟨gb344, 4, none⟩ = some (.int .i64 a0_0) ∧ w'.cell? ⟨gb344, 5, none⟩ = some (.int .i64 a0_1) ∧ w'.cell? ⟨gb344, 6, none⟩ = some (.int .i64 a0_2) ∧ w'.cell? ⟨gb344, 7, none⟩ = some (.int .i64 a0_3) ∧ w'.cell? ⟨gb344, 8, none⟩ = some (.int .i64 (wrap64 (Int.tdiv (wrap64 ((rd l2 0) + (rd l2 2))) 2))) ∧ w'.cell? ⟨ad349.block, ad349.off + 1, none⟩ = some (.int .i64 (rd l1 1))) (ds := [14]) #[false, false, false, false, false, false, false, false, false, false, false, false, false, false, false] (by kernel_rfl) rfl rfl ⟨(blk_cell BK335.out 0).trans rfl, (blk_cell BK335.out 1).trans rfl, (blk_cell BK335.out 2).trans rfl, (blk_cell BK335.out 3).trans rfl, (blk_cell BK344.out 0).trans rfl, (blk_cell BK344.out 1).trans rfl, (blk_cell BK344.out 2).trans rfl, (blk_cell BK344.out 3).trans rfl, (blk_cell BK344.out 4).trans rfl, (blk_cell BK344.out 5).trans rfl, (blk_cell BK344.out 6).trans rfl, (blk_cell BK344.out 7).trans rfl, (blk_cell BK344.out 8).trans rfl, ((HB.out.cell (World.block_lt_of_cell? w _ hw350_0)).trans hw350_0)⟩ (fun hHeld => ?_); refine with_tabW spec_MachineFrom.tab12 spec_MachineFrom.bits12 (fun HT_ HW_ => ?_)
                          generalize w61.drew = w62 at BK335 BK336 BK344 HB hx350_0 hHeld ⊢
                          refine pure_ (i := 0) (N := some 93) (v := ?_) (a' := ?_) #[true, false, false, false, false, false, false, false, false, false, false, false, false, false, false] rfl rfl (any_of HT_.out (by kernel_rfl)) (fun _ _ _ h => h) (Or.inl ⟨by rfl, ?_⟩) ?_ ?_
                          rotate_left
                          · intro w'
                            go_simp
                            with_reducible rfl
                          rotate_left
                          · simp only [Act.put, List.setIfInBounds_toArray, List.set_cons_zero, List.set_cons_succ, i64_w, i32_w]
                            rfl
                          refine pure_ (i := 2) (N := some 95) (v := ?_) (a' := ?_) #[true, false, true, false, false, false, false, false, false, false, false, false, false, false, false] rfl rfl (any_of HT_.out (by kernel_rfl)) (fun _ _ _ h => h) (Or.inl ⟨by rfl, ?_⟩) ?_ ?_
                          rotate_left
                          · intro w'
                            go_simp
                            with_reducible rfl
                          rotate_left
                          · simp only [Act.put, List.setIfInBounds_toArray, List.set_cons_zero, List.set_cons_succ, i64_w, i32_w]
                            rfl
                          refine pure_ (i := 3) (N := some 96) (v := ?_) (a' := ?_) #[true, false, true, true, false, false, false, false, false, false, false, false, false, false, false] rfl rfl (any_of HT_.out (by kernel_rfl)) (fun _ _ _ h => h) (Or.inl ⟨by rfl, ?_⟩) ?_ ?_
                          rotate_left
                          · intro w'
                            go_simp
                            with_reducible rfl
                          rotate_left
                          · simp only [Act.put, List.setIfInBounds_toArray, List.set_cons_zero, List.set_cons_succ, i64_w, i32_w]
                            rfl
                          refine pure_ (i := 7) (N := some 100) (v := ?_) (a' := ?_) #[true, false, true, true, false, false, false, true, false, false, false, false, false, false, false] rfl rfl (any_of HT_.out (by kernel_rfl)) (fun _ _ _ h => h) (Or.inl ⟨by rfl, ?_⟩) ?_ ?_
                          rotate_left
                          · intro w'
                            go_simp
                            with_reducible rfl
                          rotate_left
                          · simp only [Act.put, List.setIfInBounds_toArray, List.set_cons_zero, List.set_cons_succ, i64_w, i32_w]
                            rfl
                          refine pure_ (i := 8) (N := some 101) (v := ?_) (a' := ?_) #[true, false, true, true, false, false, false, true, true, false, false, false, false, false, false] rfl rfl (any_of HT_.out (by kernel_rfl)) (fun _ _ _ h => h) (Or.inl ⟨by rfl, ?_⟩) ?_ ?_
                          rotate_left
                          · intro w'
                            go_simp
                            with_reducible rfl
                          rotate_left
                          · simp only [Act.put, List.setIfInBounds_toArray, List.set_cons_zero, List.set_cons_succ, i64_w, i32_w]
                            rfl
                          refine take_ (i := 1) (N := some 94) (v := ?_) (a' := ?_) #[true, true, true, true, false, false, false, true, true, false, false, false, false, false, false] rfl rfl (take_ofW HT_.out HW_.out (by kernel_rfl)) (fun _ _ _ h => h) (Or.inl ⟨by rfl, ?_⟩) hHeld ?_ ?_
                          rotate_left
                          · rintro w' ⟨s0, s1, s2, s3, s4, s5, s6, s7, s8, s9, s10, s11, s12, s13⟩
                            go_simp
                            with_reducible rfl
                          rotate_left
                          · simp only [Act.put, List.setIfInBounds_toArray, List.set_cons_zero, List.set_cons_succ, i64_w, i32_w]
                            rfl
                          refine take_ (i := 4) (N := some 97) (v := ?_) (a' := ?_) #[true, true, true, true, true, false, false, true, true, false, false, false, false, false, false] rfl rfl (take_ofW HT_.out HW_.out (by kernel_rfl)) (fun _ _ _ h => h) (Or.inl ⟨by rfl, ?_⟩) hHeld ?_ ?_
                          rotate_left
                          · rintro w' ⟨s0, s1, s2, s3, s4, s5, s6, s7, s8, s9, s10, s11, s12, s13⟩
                            go_simp
                            with_reducible rfl
                          rotate_left
                          · simp only [Act.put, List.setIfInBounds_toArray, List.set_cons_zero, List.set_cons_succ, i64_w, i32_w]
                            rfl
                          refine pure_ (i := 5) (N := some 98) (v := ?_) (a' := ?_) #[true, true, true, true, true, true, false, true, true, false, false, false, false, false, false] rfl rfl (any_of HT_.out (by kernel_rfl)) (fun _ _ _ h => h) (Or.inl ⟨by rfl, ?_⟩) ?_ ?_
                          rotate_left
                          · intro w'
                            go_simp
                            with_reducible rfl
                          rotate_left
                          · simp only [Act.put, List.setIfInBounds_toArray, List.set_cons_zero, List.set_cons_succ, i64_w, i32_w]
                            rfl
                          refine pure_ (i := 6) (N := some 99) (v := ?_) (a' := ?_) #[true, true, true, true, true, true, true, true, true, false, false, false, false, false, false] rfl rfl (any_of HT_.out (by kernel_rfl)) (fun _ _ _ h => h) (Or.inl ⟨by rfl, ?_⟩) ?_ ?_
                          rotate_left
                          · intro w'
                            go_simp
                            with_reducible rfl
                          rotate_left
                          · simp only [Act.put, List.setIfInBounds_toArray, List.set_cons_zero, List.set_cons_succ, i64_w, i32_w]
                            rfl
                          refine take_ (i := 9) (N := some 102) (v := ?_) (a' := ?_) #[true, true, true, true, true, true, true, true, true, true, false, false, false, false, false] rfl rfl (take_ofW HT_.out HW_.out (by kernel_rfl)) (fun _ _ _ h => h) (Or.inl ⟨by rfl, ?_⟩) hHeld ?_ ?_
                          rotate_left
                          · rintro w' ⟨s0, s1, s2, s3, s4, s5, s6, s7, s8, s9, s10, s11, s12, s13⟩
                            go_simp
                            with_reducible rfl
                          rotate_left
                          · simp only [Act.put, List.setIfInBounds_toArray, List.set_cons_zero, List.set_cons_succ, i64_w, i32_w]
                            rfl
                          refine pure_ (i := 10) (N := some 103) (v := ?_) (a' := ?_) #[true, true, true, true, true, true, true, true, true, true, true, false, false, false, false] rfl rfl (any_of HT_.out (by kernel_rfl)) (fun _ _ _ h => h) (Or.inl ⟨by rfl, ?_⟩) ?_ ?_
                          rotate_left
                          · intro w'
                            go_simp
                            with_reducible rfl
                          rotate_left
                          · simp only [Act.put, List.setIfInBounds_toArray, List.set_cons_zero, List.set_cons_succ, i64_w, i32_w]
                            rfl
                          refine pure_ (i := 11) (N := some 104) (v := ?_) (a' := ?_) #[true, true, true, true, true, true, true, true, true, true, true, true, false, false, false] rfl rfl (any_of HT_.out (by kernel_rfl)) (fun _ _ _ h => h) (Or.inl ⟨by rfl, ?_⟩) ?_ ?_
                          rotate_left
                          · intro w'
                            go_simp
                            with_reducible rfl
                          rotate_left
                          · simp only [Act.put, List.setIfInBounds_toArray, List.set_cons_zero, List.set_cons_succ, i64_w, i32_w]
                            rfl
                          refine pure_ (i := 12) (N := some 105) (v := ?_) (a' := ?_) #[true, true, true, true, true, true, true, true, true, true, true, true, true, false, false] rfl rfl (any_of HT_.out (by kernel_rfl)) (fun _ _ _ h => h) (Or.inl ⟨by rfl, ?_⟩) ?_ ?_
                          rotate_left
                          · intro w'
                            go_simp
                            with_reducible rfl
                          rotate_left
                          · simp only [Act.put, List.setIfInBounds_toArray, List.set_cons_zero, List.set_cons_succ, i64_w, i32_w]
                            rfl
                          refine pure_ (i := 13) (N := some 106) (v := ?_) (a' := ?_) #[true, true, true, true, true, true, true, true, true, true, true, true, true, true, false] rfl rfl (any_of HT_.out (by kernel_rfl)) (fun _ _ _ h => h) (Or.inl ⟨by rfl, ?_⟩) ?_ ?_
                          rotate_left
                          · intro w'
                            go_simp
                            with_reducible rfl
                          rotate_left
                          · simp only [Act.put, List.setIfInBounds_toArray, List.set_cons_zero, List.set_cons_succ, i64_w, i32_w]
                            rfl
                          refine last_ (i := 14) (N := none) #[true, true, true, true, true, true, true, true, true, true, true, true, true, true, true] rfl rfl (one_of HT_.out (by kernel_rfl)) (by decide) (fun K hK => ?_)
                          have hs63 : w62.cell? ⟨gb344, 1, none⟩ = some (.int .i64 0) := (blk_cell BK344.out 1).trans rfl
                          have hfs63 := blk_frozen BK344.out 1
                          have hns63_0 := NB335_344.out
                          have hns63_1 := NB336_344.out
                          have hms63_0 := NB344_335.out
                          have hms63_1 := NB344_336.out
                          refine skip_ (w1 := ?_) (by rfl) rfl ?_ ?_
                          rotate_left
                          · go_simp
                            rfl
                          refine hK.out _ _ ?_
                          clear hK K
                          refine done_ (done_of HT_.out (by kernel_rfl)) ?_
                          go_upto_region 13 with (fail)
                          go_cut [120] (fun v120 wc => ∃ (kq : Nat) (x120_39 : Bool) (x345000_39 : Int) (x345001_39 : Int) (x345002_39 : Int) (x345003_39 : Int) (x345004_39 : Int) (x345005_39 : Int) (x345006_39 : Int) (x345007_39 : Int) (x345008_39 : Int), v120 = .bool x120_39 ∧ Aside0 (spec_MachineFrom.j2 kq x120_39 x345000_39 x345001_39 x345002_39 x345003_39 x345004_39 x345005_39 x345006_39 x345007_39 x345008_39 = some (r1, r2, r3, r4, r5, r6, r7, r8, r9, r10)) ∧ Aside0 (kq ≤ k2) ∧ Aside0 (wc.heap[gb335]? = some (.cells #[.int .i64 a0_0, .int .i64 a0_1, .int .i64 a0_2, .int .i64 a0_3] 25 (0, 0))) ∧ Aside0 (wc.heap[gb336]? = some (.cells #[.int .i64 x337000_2, .int .i64 x337001_2, .int .i64 x337002_2, .int .i64 x337003_2, .int .i64 x337004_2, .int .i64 x337005_2, .int .i64 x337006_2, .int .i64 x337007_2, .int .i64 x337008_2] 38 (0, 0))) ∧ Aside0 (wc.heap[gb344]? = some (.cells #[.int .i64 x345000_39, .int .i64 x345001_39, .int .i64 x345002_39, .int .i64 x345003_39, .int .i64 x345004_39, .int .i64 x345005_39, .int .i64 x345006_39, .int .i64 x345007_39, .int .i64 x345008_39] 38 (0, 0))) ∧ Aside0 (Below w.heap.size w wc))
                          case first =>
                            have H := HC40.out
                            clear HC40
                            replace H := Option.bind_eq_some_iff.mp H
                            obtain ⟨t351, A640, H⟩ := H
                            replace H : (if t351 = true then ((spec_l04Gaps.f (wrap64 ((wrap64 (a0_0 + (wrap64 (2 * (wrap64 (a0_2 + (wrap64 (Int.tdiv (wrap64 ((rd l2 2) - (rd l2 0))) 4)))))))) - (wrap64 (40 - (rd l1 0))))) (wrap64 ((wrap64 (a0_1 + (wrap64 (2 * (wrap64 (a0_3 + (wrap64 (Int.tdiv (wrap64 ((rd l2 3) - (rd l2 1))) 4)))))))) - (wrap64 (40 - (rd l1 1))))) (wrap64 (a0_2 + (wrap64 (Int.tdiv (wrap64 ((rd l2 2) - (rd l2 0))) 4)))) (wrap64 (a0_3 + (wrap64 (Int.tdiv (wrap64 ((rd l2 3) - (rd l2 1))) 4)))) a0_0 a0_1 a0_2 a0_3 (wrap64 (Int.tdiv (wrap64 ((rd l2 0) + (rd l2 2))) 2))).bind fun t352 => ((spec_l00Same.f k2 t352 l1).bind fun t355 => (if t355 = true then ((spec_l04Strokes.f (wrap64 ((wrap64 (a0_0 + (wrap64 (2 * (wrap64 (a0_2 + (wrap64 (Int.tdiv (wrap64 ((rd l2 2) - (rd l2 0))) 4)))))))) - (wrap64 (40 - (rd l1 0))))) (wrap64 ((wrap64 (a0_1 + (wrap64 (2 * (wrap64 (a0_3 + (wrap64 (Int.tdiv (wrap64 ((rd l2 3) - (rd l2 1))) 4)))))))) - (wrap64 (40 - (rd l1 1))))) (wrap64 (a0_2 + (wrap64 (Int.tdiv (wrap64 ((rd l2 2) - (rd l2 0))) 4)))) (wrap64 (a0_3 + (wrap64 (Int.tdiv (wrap64 ((rd l2 3) - (rd l2 1))) 4)))) a0_0 a0_1 a0_2 a0_3 (wrap64 (Int.tdiv (wrap64 ((rd l2 0) + (rd l2 2))) 2))).bind fun t356 => ((spec_l00Same.f k2 t356 l2).bind fun t359 => (spec_MachineFrom.j2 k2 (!t359) (wrap64 ((wrap64 (a0_0 + (wrap64 (2 * (wrap64 (a0_2 + (wrap64 (Int.tdiv (wrap64 ((rd l2 2) - (rd l2 0))) 4)))))))) - (wrap64 (40 - (rd l1 0))))) (wrap64 ((wrap64 (a0_1 + (wrap64 (2 * (wrap64 (a0_3 + (wrap64 (Int.tdiv (wrap64 ((rd l2 3) - (rd l2 1))) 4)))))))) - (wrap64 (40 - (rd l1 1))))) (wrap64 (a0_2 + (wrap64 (Int.tdiv (wrap64 ((rd l2 2) - (rd l2 0))) 4)))) (wrap64 (a0_3 + (wrap64 (Int.tdiv (wrap64 ((rd l2 3) - (rd l2 1))) 4)))) a0_0 a0_1 a0_2 a0_3 (wrap64 (Int.tdiv (wrap64 ((rd l2 0) + (rd l2 2))) 2))))) else (spec_MachineFrom.j2 k2 true (wrap64 ((wrap64 (a0_0 + (wrap64 (2 * (wrap64 (a0_2 + (wrap64 (Int.tdiv (wrap64 ((rd l2 2) - (rd l2 0))) 4)))))))) - (wrap64 (40 - (rd l1 0))))) (wrap64 ((wrap64 (a0_1 + (wrap64 (2 * (wrap64 (a0_3 + (wrap64 (Int.tdiv (wrap64 ((rd l2 3) - (rd l2 1))) 4)))))))) - (wrap64 (40 - (rd l1 1))))) (wrap64 (a0_2 + (wrap64 (Int.tdiv (wrap64 ((rd l2 2) - (rd l2 0))) 4)))) (wrap64 (a0_3 + (wrap64 (Int.tdiv (wrap64 ((rd l2 3) - (rd l2 1))) 4)))) a0_0 a0_1 a0_2 a0_3 (wrap64 (Int.tdiv (wrap64 ((rd l2 0) + (rd l2 2))) 2)))))) else (spec_MachineFrom.j2 k2 true (wrap64 ((wrap64 (a0_0 + (wrap64 (2 * (wrap64 (a0_2 + (wrap64 (Int.tdiv (wrap64 ((rd l2 2) - (rd l2 0))) 4)))))))) - (wrap64 (40 - (rd l1 0))))) (wrap64 ((wrap64 (a0_1 + (wrap64 (2 * (wrap64 (a0_3 + (wrap64 (Int.tdiv (wrap64 ((rd l2 3) - (rd l2 1))) 4)))))))) - (wrap64 (40 - (rd l1 1))))) (wrap64 (a0_2 + (wrap64 (Int.tdiv (wrap64 ((rd l2 2) - (rd l2 0))) 4)))) (wrap64 (a0_3 + (wrap64 (Int.tdiv (wrap64 ((rd l2 3) - (rd l2 1))) 4)))) a0_0 a0_1 a0_2 a0_3 (wrap64 (Int.tdiv (wrap64 ((rd l2 0) + (rd l2 2))) 2)))) = some (r1, r2, r3, r4, r5, r6, r7, r8, r9, r10) := H
                            have A64 := Aside0.mk A640
                            clear A640
                            by_cases c65 : t351 = true
                            · subst c65
                              have H1 : ((spec_l04Gaps.f (wrap64 ((wrap64 (a0_0 + (wrap64 (2 * (wrap64 (a0_2 + (wrap64 (Int.tdiv (wrap64 ((rd l2 2) - (rd l2 0))) 4)))))))) - (wrap64 (40 - (rd l1 0))))) (wrap64 ((wrap64 (a0_1 + (wrap64 (2 * (wrap64 (a0_3 + (wrap64 (Int.tdiv (wrap64 ((rd l2 3) - (rd l2 1))) 4)))))))) - (wrap64 (40 - (rd l1 1))))) (wrap64 (a0_2 + (wrap64 (Int.tdiv (wrap64 ((rd l2 2) - (rd l2 0))) 4)))) (wrap64 (a0_3 + (wrap64 (Int.tdiv (wrap64 ((rd l2 3) - (rd l2 1))) 4)))) a0_0 a0_1 a0_2 a0_3 (wrap64 (Int.tdiv (wrap64 ((rd l2 0) + (rd l2 2))) 2))).bind fun t352 => ((spec_l00Same.f k2 t352 l1).bind fun t355 => (if t355 = true then ((spec_l04Strokes.f (wrap64 ((wrap64 (a0_0 + (wrap64 (2 * (wrap64 (a0_2 + (wrap64 (Int.tdiv (wrap64 ((rd l2 2) - (rd l2 0))) 4)))))))) - (wrap64 (40 - (rd l1 0))))) (wrap64 ((wrap64 (a0_1 + (wrap64 (2 * (wrap64 (a0_3 + (wrap64 (Int.tdiv (wrap64 ((rd l2 3) - (rd l2 1))) 4)))))))) - (wrap64 (40 - (rd l1 1))))) (wrap64 (a0_2 + (wrap64 (Int.tdiv (wrap64 ((rd l2 2) - (rd l2 0))) 4)))) (wrap64 (a0_3 + (wrap64 (Int.tdiv (wrap64 ((rd l2 3) - (rd l2 1))) 4)))) a0_0 a0_1 a0_2 a0_3 (wrap64 (Int.tdiv (wrap64 ((rd l2 0) + (rd l2 2))) 2))).bind fun t356 => ((spec_l00Same.f k2 t356 l2).bind fun t359 => (spec_MachineFrom.j2 k2 (!t359) (wrap64 ((wrap64 (a0_0 + (wrap64 (2 * (wrap64 (a0_2 + (wrap64 (Int.tdiv (wrap64 ((rd l2 2) - (rd l2 0))) 4)))))))) - (wrap64 (40 - (rd l1 0))))) (wrap64 ((wrap64 (a0_1 + (wrap64 (2 * (wrap64 (a0_3 + (wrap64 (Int.tdiv (wrap64 ((rd l2 3) - (rd l2 1))) 4)))))))) - (wrap64 (40 - (rd l1 1))))) (wrap64 (a0_2 + (wrap64 (Int.tdiv (wrap64 ((rd l2 2) - (rd l2 0))) 4)))) (wrap64 (a0_3 + (wrap64 (Int.tdiv (wrap64 ((rd l2 3) - (rd l2 1))) 4)))) a0_0 a0_1 a0_2 a0_3 (wrap64 (Int.tdiv (wrap64 ((rd l2 0) + (rd l2 2))) 2))))) else (spec_MachineFrom.j2 k2 true (wrap64 ((wrap64 (a0_0 + (wrap64 (2 * (wrap64 (a0_2 + (wrap64 (Int.tdiv (wrap64 ((rd l2 2) - (rd l2 0))) 4)))))))) - (wrap64 (40 - (rd l1 0))))) (wrap64 ((wrap64 (a0_1 + (wrap64 (2 * (wrap64 (a0_3 + (wrap64 (Int.tdiv (wrap64 ((rd l2 3) - (rd l2 1))) 4)))))))) - (wrap64 (40 - (rd l1 1))))) (wrap64 (a0_2 + (wrap64 (Int.tdiv (wrap64 ((rd l2 2) - (rd l2 0))) 4)))) (wrap64 (a0_3 + (wrap64 (Int.tdiv (wrap64 ((rd l2 3) - (rd l2 1))) 4)))) a0_0 a0_1 a0_2 a0_3 (wrap64 (Int.tdiv (wrap64 ((rd l2 0) + (rd l2 2))) 2)))))) = some (r1, r2, r3, r4, r5, r6, r7, r8, r9, r10) := by rw [if_pos rfl] at H; exact H
                              clear H
                              have H := H1
                              clear H1
                              replace H := Option.bind_eq_some_iff.mp H
                              obtain ⟨t352, A660, H⟩ := H
                              replace H : ((spec_l00Same.f k2 t352 l1).bind fun t355 => (if t355 = true then ((spec_l04Strokes.f (wrap64 ((wrap64 (a0_0 + (wrap64 (2 * (wrap64 (a0_2 + (wrap64 (Int.tdiv (wrap64 ((rd l2 2) - (rd l2 0))) 4)))))))) - (wrap64 (40 - (rd l1 0))))) (wrap64 ((wrap64 (a0_1 + (wrap64 (2 * (wrap64 (a0_3 + (wrap64 (Int.tdiv (wrap64 ((rd l2 3) - (rd l2 1))) 4)))))))) - (wrap64 (40 - (rd l1 1))))) (wrap64 (a0_2 + (wrap64 (Int.tdiv (wrap64 ((rd l2 2) - (rd l2 0))) 4)))) (wrap64 (a0_3 + (wrap64 (Int.tdiv (wrap64 ((rd l2 3) - (rd l2 1))) 4)))) a0_0 a0_1 a0_2 a0_3 (wrap64 (Int.tdiv (wrap64 ((rd l2 0) + (rd l2 2))) 2))).bind fun t356 => ((spec_l00Same.f k2 t356 l2).bind fun t359 => (spec_MachineFrom.j2 k2 (!t359) (wrap64 ((wrap64 (a0_0 + (wrap64 (2 * (wrap64 (a0_2 + (wrap64 (Int.tdiv (wrap64 ((rd l2 2) - (rd l2 0))) 4)))))))) - (wrap64 (40 - (rd l1 0))))) (wrap64 ((wrap64 (a0_1 + (wrap64 (2 * (wrap64 (a0_3 + (wrap64 (Int.tdiv (wrap64 ((rd l2 3) - (rd l2 1))) 4)))))))) - (wrap64 (40 - (rd l1 1))))) (wrap64 (a0_2 + (wrap64 (Int.tdiv (wrap64 ((rd l2 2) - (rd l2 0))) 4)))) (wrap64 (a0_3 + (wrap64 (Int.tdiv (wrap64 ((rd l2 3) - (rd l2 1))) 4)))) a0_0 a0_1 a0_2 a0_3 (wrap64 (Int.tdiv (wrap64 ((rd l2 0) + (rd l2 2))) 2))))) else (spec_MachineFrom.j2 k2 true (wrap64 ((wrap64 (a0_0 + (wrap64 (2 * (wrap64 (a0_2 + (wrap64 (Int.tdiv (wrap64 ((rd l2 2) - (rd l2 0))) 4)))))))) - (wrap64 (40 - (rd l1 0))))) (wrap64 ((wrap64 (a0_1 + (wrap64 (2 * (wrap64 (a0_3 + (wrap64 (Int.tdiv (wrap64 ((rd l2 3) - (rd l2 1))) 4)))))))) - (wrap64 (40 - (rd l1 1))))) (wrap64 (a0_2 + (wrap64 (Int.tdiv (wrap64 ((rd l2 2) - (rd l2 0))) 4)))) (wrap64 (a0_3 + (wrap64 (Int.tdiv (wrap64 ((rd l2 3) - (rd l2 1))) 4)))) a0_0 a0_1 a0_2 a0_3 (wrap64 (Int.tdiv (wrap64 ((rd l2 0) + (rd l2 2))) 2))))) = some (r1, r2, r3, r4, r5, r6, r7, r8, r9, r10) := H
                              have A66 := Aside0.mk A660
                              clear A660
                              replace H := Option.bind_eq_some_iff.mp H
                              obtain ⟨t355, A670, H⟩ := H
                              replace H : (if t355 = true then ((spec_l04Strokes.f (wrap64 ((wrap64 (a0_0 + (wrap64 (2 * (wrap64 (a0_2 + (wrap64 (Int.tdiv (wrap64 ((rd l2 2) - (rd l2 0))) 4)))))))) - (wrap64 (40 - (rd l1 0))))) (wrap64 ((wrap64 (a0_1 + (wrap64 (2 * (wrap64 (a0_3 + (wrap64 (Int.tdiv (wrap64 ((rd l2 3) - (rd l2 1))) 4)))))))) - (wrap64 (40 - (rd l1 1))))) (wrap64 (a0_2 + (wrap64 (Int.tdiv (wrap64 ((rd l2 2) - (rd l2 0))) 4)))) (wrap64 (a0_3 + (wrap64 (Int.tdiv (wrap64 ((rd l2 3) - (rd l2 1))) 4)))) a0_0 a0_1 a0_2 a0_3 (wrap64 (Int.tdiv (wrap64 ((rd l2 0) + (rd l2 2))) 2))).bind fun t356 => ((spec_l00Same.f k2 t356 l2).bind fun t359 => (spec_MachineFrom.j2 k2 (!t359) (wrap64 ((wrap64 (a0_0 + (wrap64 (2 * (wrap64 (a0_2 + (wrap64 (Int.tdiv (wrap64 ((rd l2 2) - (rd l2 0))) 4)))))))) - (wrap64 (40 - (rd l1 0))))) (wrap64 ((wrap64 (a0_1 + (wrap64 (2 * (wrap64 (a0_3 + (wrap64 (Int.tdiv (wrap64 ((rd l2 3) - (rd l2 1))) 4)))))))) - (wrap64 (40 - (rd l1 1))))) (wrap64 (a0_2 + (wrap64 (Int.tdiv (wrap64 ((rd l2 2) - (rd l2 0))) 4)))) (wrap64 (a0_3 + (wrap64 (Int.tdiv (wrap64 ((rd l2 3) - (rd l2 1))) 4)))) a0_0 a0_1 a0_2 a0_3 (wrap64 (Int.tdiv (wrap64 ((rd l2 0) + (rd l2 2))) 2))))) else (spec_MachineFrom.j2 k2 true (wrap64 ((wrap64 (a0_0 + (wrap64 (2 * (wrap64 (a0_2 + (wrap64 (Int.tdiv (wrap64 ((rd l2 2) - (rd l2 0))) 4)))))))) - (wrap64 (40 - (rd l1 0))))) (wrap64 ((wrap64 (a0_1 + (wrap64 (2 * (wrap64 (a0_3 + (wrap64 (Int.tdiv (wrap64 ((rd l2 3) - (rd l2 1))) 4)))))))) - (wrap64 (40 - (rd l1 1))))) (wrap64 (a0_2 + (wrap64 (Int.tdiv (wrap64 ((rd l2 2) - (rd l2 0))) 4)))) (wrap64 (a0_3 + (wrap64 (Int.tdiv (wrap64 ((rd l2 3) - (rd l2 1))) 4)))) a0_0 a0_1 a0_2 a0_3 (wrap64 (Int.tdiv (wrap64 ((rd l2 0) + (rd l2 2))) 2)))) = some (r1, r2, r3, r4, r5, r6, r7, r8, r9, r10) := H
                              have A67 := Aside0.mk A670
                              clear A670
                              by_cases c68 : t355 = true
                              · subst c68
                                have H1 : ((spec_l04Strokes.f (wrap64 ((wrap64 (a0_0 + (wrap64 (2 * (wrap64 (a0_2 + (wrap64 (Int.tdiv (wrap64 ((rd l2 2) - (rd l2 0))) 4)))))))) - (wrap64 (40 - (rd l1 0))))) (wrap64 ((wrap64 (a0_1 + (wrap64 (2 * (wrap64 (a0_3 + (wrap64 (Int.tdiv (wrap64 ((rd l2 3) - (rd l2 1))) 4)))))))) - (wrap64 (40 - (rd l1 1))))) (wrap64 (a0_2 + (wrap64 (Int.tdiv (wrap64 ((rd l2 2) - (rd l2 0))) 4)))) (wrap64 (a0_3 + (wrap64 (Int.tdiv (wrap64 ((rd l2 3) - (rd l2 1))) 4)))) a0_0 a0_1 a0_2 a0_3 (wrap64 (Int.tdiv (wrap64 ((rd l2 0) + (rd l2 2))) 2))).bind fun t356 => ((spec_l00Same.f k2 t356 l2).bind fun t359 => (spec_MachineFrom.j2 k2 (!t359) (wrap64 ((wrap64 (a0_0 + (wrap64 (2 * (wrap64 (a0_2 + (wrap64 (Int.tdiv (wrap64 ((rd l2 2) - (rd l2 0))) 4)))))))) - (wrap64 (40 - (rd l1 0))))) (wrap64 ((wrap64 (a0_1 + (wrap64 (2 * (wrap64 (a0_3 + (wrap64 (Int.tdiv (wrap64 ((rd l2 3) - (rd l2 1))) 4)))))))) - (wrap64 (40 - (rd l1 1))))) (wrap64 (a0_2 + (wrap64 (Int.tdiv (wrap64 ((rd l2 2) - (rd l2 0))) 4)))) (wrap64 (a0_3 + (wrap64 (Int.tdiv (wrap64 ((rd l2 3) - (rd l2 1))) 4)))) a0_0 a0_1 a0_2 a0_3 (wrap64 (Int.tdiv (wrap64 ((rd l2 0) + (rd l2 2))) 2))))) = some (r1, r2, r3, r4, r5, r6, r7, r8, r9, r10) := by rw [if_pos rfl] at H; exact H
                                clear H
                                have H := H1
                                clear H1
                                replace H := Option.bind_eq_some_iff.mp H
                                obtain ⟨t356, A690, H⟩ := H
                                replace H : ((spec_l00Same.f k2 t356 l2).bind fun t359 => (spec_MachineFrom.j2 k2 (!t359) (wrap64 ((wrap64 (a0_0 + (wrap64 (2 * (wrap64 (a0_2 + (wrap64 (Int.tdiv (wrap64 ((rd l2 2) - (rd l2 0))) 4)))))))) - (wrap64 (40 - (rd l1 0))))) (wrap64 ((wrap64 (a0_1 + (wrap64 (2 * (wrap64 (a0_3 + (wrap64 (Int.tdiv (wrap64 ((rd l2 3) - (rd l2 1))) 4)))))))) - (wrap64 (40 - (rd l1 1))))) (wrap64 (a0_2 + (wrap64 (Int.tdiv (wrap64 ((rd l2 2) - (rd l2 0))) 4)))) (wrap64 (a0_3 + (wrap64 (Int.tdiv (wrap64 ((rd l2 3) - (rd l2 1))) 4)))) a0_0 a0_1 a0_2 a0_3 (wrap64 (Int.tdiv (wrap64 ((rd l2 0) + (rd l2 2))) 2)))) = some (r1, r2, r3, r4, r5, r6, r7, r8, r9, r10) := H
                                have A69 := Aside0.mk A690
                                clear A690
                                replace H := Option.bind_eq_some_iff.mp H
                                obtain ⟨t359, A700, H⟩ := H
                                replace H : (spec_MachineFrom.j2 k2 (!t359) (wrap64 ((wrap64 (a0_0 + (wrap64 (2 * (wrap64 (a0_2 + (wrap64 (Int.tdiv (wrap64 ((rd l2 2) - (rd l2 0))) 4)))))))) - (wrap64 (40 - (rd l1 0))))) (wrap64 ((wrap64 (a0_1 + (wrap64 (2 * (wrap64 (a0_3 + (wrap64 (Int.tdiv (wrap64 ((rd l2 3) - (rd l2 1))) 4)))))))) - (wrap64 (40 - (rd l1 1))))) (wrap64 (a0_2 + (wrap64 (Int.tdiv (wrap64 ((rd l2 2) - (rd l2 0))) 4)))) (wrap64 (a0_3 + (wrap64 (Int.tdiv (wrap64 ((rd l2 3) - (rd l2 1))) 4)))) a0_0 a0_1 a0_2 a0_3 (wrap64 (Int.tdiv (wrap64 ((rd l2 0) + (rd l2 2))) 2))) = some (r1, r2, r3, r4, r5, r6, r7, r8, r9, r10) := H
                                have A70 := Aside0.mk A700
                                clear A700
                                have H' := Aside0.mk H
                                clear H
                                go_wp2_with (first | ((with_reducible refine gate_callee (f := 20) rfl ?_); refine goesL_ (some 107) rfl rfl Try.func20 (by kernel_rfl) rfl #[.pointer (some ⟨gb344, 0, none⟩)] rfl (by (try simp only [List.map_toArray, List.map_cons, List.map_nil]); first | done | rfl | (simp only [List.length_drop, List.length_take]; rfl)) ?_; (with_reducible refine (spec_l04Is.calls k2 gb344 (wrap64 ((wrap64 (a0_0 + (wrap64 (2 * (wrap64 (a0_2 + (wrap64 (Int.tdiv (wrap64 ((rd l2 2) - (rd l2 0))) 4)))))))) - (wrap64 (40 - (rd l1 0))))) (wrap64 ((wrap64 (a0_1 + (wrap64 (2 * (wrap64 (a0_3 + (wrap64 (Int.tdiv (wrap64 ((rd l2 3) - (rd l2 1))) 4)))))))) - (wrap64 (40 - (rd l1 1))))) (wrap64 (a0_2 + (wrap64 (Int.tdiv (wrap64 ((rd l2 2) - (rd l2 0))) 4)))) (wrap64 (a0_3 + (wrap64 (Int.tdiv (wrap64 ((rd l2 3) - (rd l2 1))) 4)))) a0_0 a0_1 a0_2 a0_3 (wrap64 (Int.tdiv (wrap64 ((rd l2 0) + (rd l2 2))) 2)) true _ ?side1 A64.out).mono ?_); (case side1 => (with_reducible repeat (first | refine blk_drewN ?_ _ | refine blk_drew ?_ | refine blk_alloc ?_ _)); refine blk_put (cs := #[.int .i64 (wrap64 ((wrap64 (a0_0 + (wrap64 (2 * (wrap64 (a0_2 + (wrap64 (Int.tdiv (wrap64 ((rd l2 2) - (rd l2 0))) 4)))))))) - (wrap64 (40 - (rd l1 0))))), .int .i64 0, .int .i64 (wrap64 (a0_2 + (wrap64 (Int.tdiv (wrap64 ((rd l2 2) - (rd l2 0))) 4)))), .int .i64 (wrap64 (a0_3 + (wrap64 (Int.tdiv (wrap64 ((rd l2 3) - (rd l2 1))) 4)))), .int .i64 a0_0, .int .i64 a0_1, .int .i64 a0_2, .int .i64 a0_3, .int .i64 (wrap64 (Int.tdiv (wrap64 ((rd l2 0) + (rd l2 2))) 2))]) ?_ 1 _ rfl; (with_reducible repeat (first | refine blk_drewN ?_ _ | refine blk_drew ?_ | refine blk_alloc ?_ _)); exact BK344.out); rintro e w71 ⟨rfl, hb⟩; refine ⟨_, rfl, ?_⟩; have n0_ := Aside0.mk (blk_below (g := gb335) (o := .cells #[.int .i64 a0_0, .int .i64 a0_1, .int .i64 a0_2, .int .i64 a0_3] 25 (0, 0)) (by (with_reducible repeat (first | refine blk_drewN ?_ _ | refine blk_drew ?_ | refine blk_alloc ?_ _)); refine blk_far ?_ NB335_344.out _; (with_reducible repeat (first | refine blk_drewN ?_ _ | refine blk_drew ?_ | refine blk_alloc ?_ _)); exact BK335.out) hb); have n1_ := Aside0.mk (blk_below (g := gb336) (o := .cells #[.int .i64 x337000_2, .int .i64 x337001_2, .int .i64 x337002_2, .int .i64 x337003_2, .int .i64 x337004_2, .int .i64 x337005_2, .int .i64 x337006_2, .int .i64 x337007_2, .int .i64 x337008_2] 38 (0, 0)) (by (with_reducible repeat (first | refine blk_drewN ?_ _ | refine blk_drew ?_ | refine blk_alloc ?_ _)); refine blk_far ?_ NB336_344.out _; (with_reducible repeat (first | refine blk_drewN ?_ _ | refine blk_drew ?_ | refine blk_alloc ?_ _)); exact BK336.out) hb); have n2_ := Aside0.mk (blk_below (g := gb344) (o := .cells #[.int .i64 (wrap64 ((wrap64 (a0_0 + (wrap64 (2 * (wrap64 (a0_2 + (wrap64 (Int.tdiv (wrap64 ((rd l2 2) - (rd l2 0))) 4)))))))) - (wrap64 (40 - (rd l1 0))))), .int .i64 (wrap64 ((wrap64 (a0_1 + (wrap64 (2 * (wrap64 (a0_3 + (wrap64 (Int.tdiv (wrap64 ((rd l2 3) - (rd l2 1))) 4)))))))) - (wrap64 (40 - (rd l1 1))))), .int .i64 (wrap64 (a0_2 + (wrap64 (Int.tdiv (wrap64 ((rd l2 2) - (rd l2 0))) 4)))), .int .i64 (wrap64 (a0_3 + (wrap64 (Int.tdiv (wrap64 ((rd l2 3) - (rd l2 1))) 4)))), .int .i64 a0_0, .int .i64 a0_1, .int .i64 a0_2, .int .i64 a0_3, .int .i64 (wrap64 (Int.tdiv (wrap64 ((rd l2 0) + (rd l2 2))) 2))] 38 (0, 0)) (by (with_reducible repeat (first | refine blk_drewN ?_ _ | refine blk_drew ?_ | refine blk_alloc ?_ _)); refine blk_put (cs := #[.int .i64 (wrap64 ((wrap64 (a0_0 + (wrap64 (2 * (wrap64 (a0_2 + (wrap64 (Int.tdiv (wrap64 ((rd l2 2) - (rd l2 0))) 4)))))))) - (wrap64 (40 - (rd l1 0))))), .int .i64 0, .int .i64 (wrap64 (a0_2 + (wrap64 (Int.tdiv (wrap64 ((rd l2 2) - (rd l2 0))) 4)))), .int .i64 (wrap64 (a0_3 + (wrap64 (Int.tdiv (wrap64 ((rd l2 3) - (rd l2 1))) 4)))), .int .i64 a0_0, .int .i64 a0_1, .int .i64 a0_2, .int .i64 a0_3, .int .i64 (wrap64 (Int.tdiv (wrap64 ((rd l2 0) + (rd l2 2))) 2))]) ?_ 1 _ rfl; (with_reducible repeat (first | refine blk_drewN ?_ _ | refine blk_drew ?_ | refine blk_alloc ?_ _)); exact BK344.out) hb); have n3_ := Aside0.mk (below_step (by repeat (first | (with_reducible first | exact HB.out | apply below_alloc | apply pw_below_drewN | apply below_drew1 | refine below_set ?_ GE335.out | refine below_set ?_ GE336.out | refine below_set ?_ GE344.out) | exact HB.out)) hb); clear BK335; clear BK336; clear BK344; clear HB; have BK335 := n0_; have BK336 := n1_; have BK344 := n2_; have HB := n3_; clear n0_ n1_ n2_ n3_; (try clear hb); (try clear hb2); (try clear hk); (try clear hi)) | (go_at_call 22; (with_reducible refine (spec_l04Gaps.calls gb344 (wrap64 ((wrap64 (a0_0 + (wrap64 (2 * (wrap64 (a0_2 + (wrap64 (Int.tdiv (wrap64 ((rd l2 2) - (rd l2 0))) 4)))))))) - (wrap64 (40 - (rd l1 0))))) (wrap64 ((wrap64 (a0_1 + (wrap64 (2 * (wrap64 (a0_3 + (wrap64 (Int.tdiv (wrap64 ((rd l2 3) - (rd l2 1))) 4)))))))) - (wrap64 (40 - (rd l1 1))))) (wrap64 (a0_2 + (wrap64 (Int.tdiv (wrap64 ((rd l2 2) - (rd l2 0))) 4)))) (wrap64 (a0_3 + (wrap64 (Int.tdiv (wrap64 ((rd l2 3) - (rd l2 1))) 4)))) a0_0 a0_1 a0_2 a0_3 (wrap64 (Int.tdiv (wrap64 ((rd l2 0) + (rd l2 2))) 2)) t352 _ ?side1 A66.out).mono ?_); (case side1 => (with_reducible repeat (first | refine blk_drewN ?_ _ | refine blk_drew ?_ | refine blk_alloc ?_ _)); exact BK344.out); rintro e w72 ⟨v353, rfl, ho0, hb⟩; have n0_ := Aside0.mk (Kd.R_lower ho0 (below_size (by repeat (first | (with_reducible first | exact HB.out | apply below_alloc | apply pw_below_drewN | apply below_drew1 | refine below_set ?_ GE335.out | refine below_set ?_ GE336.out | refine below_set ?_ GE344.out) | exact HB.out)))); have n1_ := Aside0.mk (blk_below (g := gb335) (o := .cells #[.int .i64 a0_0, .int .i64 a0_1, .int .i64 a0_2, .int .i64 a0_3] 25 (0, 0)) (by (with_reducible repeat (first | refine blk_drewN ?_ _ | refine blk_drew ?_ | refine blk_alloc ?_ _)); exact BK335.out) hb); have n2_ := Aside0.mk (blk_below (g := gb336) (o := .cells #[.int .i64 x337000_2, .int .i64 x337001_2, .int .i64 x337002_2, .int .i64 x337003_2, .int .i64 x337004_2, .int .i64 x337005_2, .int .i64 x337006_2, .int .i64 x337007_2, .int .i64 x337008_2] 38 (0, 0)) (by (with_reducible repeat (first | refine blk_drewN ?_ _ | refine blk_drew ?_ | refine blk_alloc ?_ _)); exact BK336.out) hb); have n3_ := Aside0.mk (blk_below (g := gb344) (o := .cells #[.int .i64 (wrap64 ((wrap64 (a0_0 + (wrap64 (2 * (wrap64 (a0_2 + (wrap64 (Int.tdiv (wrap64 ((rd l2 2) - (rd l2 0))) 4)))))))) - (wrap64 (40 - (rd l1 0))))), .int .i64 (wrap64 ((wrap64 (a0_1 + (wrap64 (2 * (wrap64 (a0_3 + (wrap64 (Int.tdiv (wrap64 ((rd l2 3) - (rd l2 1))) 4)))))))) - (wrap64 (40 - (rd l1 1))))), .int .i64 (wrap64 (a0_2 + (wrap64 (Int.tdiv (wrap64 ((rd l2 2) - (rd l2 0))) 4)))), .int .i64 (wrap64 (a0_3 + (wrap64 (Int.tdiv (wrap64 ((rd l2 3) - (rd l2 1))) 4)))), .int .i64 a0_0, .int .i64 a0_1, .int .i64 a0_2, .int .i64 a0_3, .int .i64 (wrap64 (Int.tdiv (wrap64 ((rd l2 0) + (rd l2 2))) 2))] 38 (0, 0)) (by (with_reducible repeat (first | refine blk_drewN ?_ _ | refine blk_drew ?_ | refine blk_alloc ?_ _)); exact BK344.out) hb); have n4_ := Aside0.mk (below_step (by repeat (first | (with_reducible first | exact HB.out | apply below_alloc | apply pw_below_drewN | apply below_drew1 | refine below_set ?_ GE335.out | refine below_set ?_ GE336.out | refine below_set ?_ GE344.out) | exact HB.out)) hb); clear BK335; clear BK336; clear BK344; clear HB; have HO354 := n0_; have BK335 := n1_; have BK336 := n2_; have BK344 := n3_; have HB := n4_; clear n0_ n1_ n2_ n3_ n4_; (try clear hb); (try clear hb2); (try clear hk); (try clear hi); (try clear ho0); obtain ⟨Ao73, co73, eo73⟩ := Kd.R_slice HO354.out; subst eo73) | (go_at_call 21; (with_reducible refine (spec_l00Same.calls k2 _ _ t352 _ _ l1 true _ ?side1 ?side2 ?side3 ?side4 A67.out).mono ?_); (case side1 => repeat (first | exact (Kd.R_reads' HO354.out).2.2 | (with_reducible refine Kd.C_alloc ?_ _) | (with_reducible refine Kd.C_drewN ?_ _) | (with_reducible refine Kd.C_drew ?_))); (case side2 => exact (Kd.R_reads' HO354.out).2.1); (case side3 => repeat (first | exact (Kd.C_below HR1.out HB.out) | (with_reducible refine Kd.C_alloc ?_ _) | (with_reducible refine Kd.C_drewN ?_ _) | (with_reducible refine Kd.C_drew ?_))); (case side4 => exact HC1.out); rintro e w' ⟨rfl, ⟨nd, rfl⟩⟩) | (go_at_call 23; (with_reducible refine (spec_l04Strokes.calls gb344 (wrap64 ((wrap64 (a0_0 + (wrap64 (2 * (wrap64 (a0_2 + (wrap64 (Int.tdiv (wrap64 ((rd l2 2) - (rd l2 0))) 4)))))))) - (wrap64 (40 - (rd l1 0))))) (wrap64 ((wrap64 (a0_1 + (wrap64 (2 * (wrap64 (a0_3 + (wrap64 (Int.tdiv (wrap64 ((rd l2 3) - (rd l2 1))) 4)))))))) - (wrap64 (40 - (rd l1 1))))) (wrap64 (a0_2 + (wrap64 (Int.tdiv (wrap64 ((rd l2 2) - (rd l2 0))) 4)))) (wrap64 (a0_3 + (wrap64 (Int.tdiv (wrap64 ((rd l2 3) - (rd l2 1))) 4)))) a0_0 a0_1 a0_2 a0_3 (wrap64 (Int.tdiv (wrap64 ((rd l2 0) + (rd l2 2))) 2)) t356 _ ?side1 A69.out).mono ?_); (case side1 => (with_reducible repeat (first | refine blk_drewN ?_ _ | refine blk_drew ?_ | refine blk_alloc ?_ _)); exact BK344.out); rintro e w74 ⟨v357, rfl, ho0, hb⟩; have n0_ := Aside0.mk (Kd.R_elder' (by (with_reducible repeat (first | apply Kd.R_alloc | apply Kd.R_drewN | apply Kd.R_drew)); exact HO354.out) (Kd.R_base ho0) hb); have n1_ := Aside0.mk (Kd.R_lower (Kd.R_new' ho0 (Kd.R_lt (by (with_reducible repeat (first | apply Kd.R_alloc | apply Kd.R_drewN | apply Kd.R_drew)); exact HO354.out))) (below_size (by repeat (first | (with_reducible first | exact HB.out | apply below_alloc | apply pw_below_drewN | apply below_drew1 | refine below_set ?_ GE335.out | refine below_set ?_ GE336.out | refine below_set ?_ GE344.out) | exact HB.out)))); have n2_ := Aside0.mk (blk_below (g := gb335) (o := .cells #[.int .i64 a0_0, .int .i64 a0_1, .int .i64 a0_2, .int .i64 a0_3] 25 (0, 0)) (by (with_reducible repeat (first | refine blk_drewN ?_ _ | refine blk_drew ?_ | refine blk_alloc ?_ _)); exact BK335.out) hb); have n3_ := Aside0.mk (blk_below (g := gb336) (o := .cells #[.int .i64 x337000_2, .int .i64 x337001_2, .int .i64 x337002_2, .int .i64 x337003_2, .int .i64 x337004_2, .int .i64 x337005_2, .int .i64 x337006_2, .int .i64 x337007_2, .int .i64 x337008_2] 38 (0, 0)) (by (with_reducible repeat (first | refine blk_drewN ?_ _ | refine blk_drew ?_ | refine blk_alloc ?_ _)); exact BK336.out) hb); have n4_ := Aside0.mk (blk_below (g := gb344) (o := .cells #[.int .i64 (wrap64 ((wrap64 (a0_0 + (wrap64 (2 * (wrap64 (a0_2 + (wrap64 (Int.tdiv (wrap64 ((rd l2 2) - (rd l2 0))) 4)))))))) - (wrap64 (40 - (rd l1 0))))), .int .i64 (wrap64 ((wrap64 (a0_1 + (wrap64 (2 * (wrap64 (a0_3 + (wrap64 (Int.tdiv (wrap64 ((rd l2 3) - (rd l2 1))) 4)))))))) - (wrap64 (40 - (rd l1 1))))), .int .i64 (wrap64 (a0_2 + (wrap64 (Int.tdiv (wrap64 ((rd l2 2) - (rd l2 0))) 4)))), .int .i64 (wrap64 (a0_3 + (wrap64 (Int.tdiv (wrap64 ((rd l2 3) - (rd l2 1))) 4)))), .int .i64 a0_0, .int .i64 a0_1, .int .i64 a0_2, .int .i64 a0_3, .int .i64 (wrap64 (Int.tdiv (wrap64 ((rd l2 0) + (rd l2 2))) 2))] 38 (0, 0)) (by (with_reducible repeat (first | refine blk_drewN ?_ _ | refine blk_drew ?_ | refine blk_alloc ?_ _)); exact BK344.out) hb); have n5_ := Aside0.mk (below_step (by repeat (first | (with_reducible first | exact HB.out | apply below_alloc | apply pw_below_drewN | apply below_drew1 | refine below_set ?_ GE335.out | refine below_set ?_ GE336.out | refine below_set ?_ GE344.out) | exact HB.out)) hb); clear HO354; clear BK335; clear BK336; clear BK344; clear HB; have HO354 := n0_; have HO358 := n1_; have BK335 := n2_; have BK336 := n3_; have BK344 := n4_; have HB := n5_; clear n0_ n1_ n2_ n3_ n4_ n5_; (try clear hb); (try clear hb2); (try clear hk); (try clear hi); (try clear ho0); obtain ⟨Ao75, co75, eo75⟩ := Kd.R_slice HO358.out; subst eo75) | (go_at_call 21; (with_reducible refine (spec_l00Same.calls k2 _ _ t356 _ _ l2 t359 _ ?side1 ?side2 ?side3 ?side4 A70.out).mono ?_); (case side1 => repeat (first | exact (Kd.R_reads' HO358.out).2.2 | (with_reducible refine Kd.C_alloc ?_ _) | (with_reducible refine Kd.C_drewN ?_ _) | (with_reducible refine Kd.C_drew ?_))); (case side2 => exact (Kd.R_reads' HO358.out).2.1); (case side3 => repeat (first | exact (Kd.C_below HR2.out HB.out) | (with_reducible refine Kd.C_alloc ?_ _) | (with_reducible refine Kd.C_drewN ?_ _) | (with_reducible refine Kd.C_drew ?_))); (case side4 => exact HC2.out); rintro e w' ⟨rfl, ⟨nd, rfl⟩⟩))
                                go_meet
                                case rel => exact ⟨_, (!t359), (wrap64 ((wrap64 (a0_0 + (wrap64 (2 * (wrap64 (a0_2 + (wrap64 (Int.tdiv (wrap64 ((rd l2 2) - (rd l2 0))) 4)))))))) - (wrap64 (40 - (rd l1 0))))), (wrap64 ((wrap64 (a0_1 + (wrap64 (2 * (wrap64 (a0_3 + (wrap64 (Int.tdiv (wrap64 ((rd l2 3) - (rd l2 1))) 4)))))))) - (wrap64 (40 - (rd l1 1))))), (wrap64 (a0_2 + (wrap64 (Int.tdiv (wrap64 ((rd l2 2) - (rd l2 0))) 4)))), (wrap64 (a0_3 + (wrap64 (Int.tdiv (wrap64 ((rd l2 3) - (rd l2 1))) 4)))), (a0_0), (a0_1), (a0_2), (a0_3), (wrap64 (Int.tdiv (wrap64 ((rd l2 0) + (rd l2 2))) 2)), (by first | rfl | (simp; done) | (simp [*]; done)), H', ⟨by have := HJ3.out; have := HK2.out; first | omega | exact Nat.le_refl _⟩, ⟨by (with_reducible repeat (first | refine blk_drewN ?_ _ | refine blk_drew ?_ | refine blk_alloc ?_ _)); exact BK335.out⟩, ⟨by (with_reducible repeat (first | refine blk_drewN ?_ _ | refine blk_drew ?_ | refine blk_alloc ?_ _)); exact BK336.out⟩, ⟨by (with_reducible repeat (first | refine blk_drewN ?_ _ | refine blk_drew ?_ | refine blk_alloc ?_ _)); exact BK344.out⟩, ⟨by repeat (first | (with_reducible first | exact HB.out | apply below_alloc | apply pw_below_drewN | apply below_drew1 | refine below_set ?_ GE335.out | refine below_set ?_ GE336.out | refine below_set ?_ GE344.out) | exact HB.out)⟩⟩
                              · replace c68 := Bool.eq_false_iff.mpr c68
                                subst c68
                                have H1 : (spec_MachineFrom.j2 k2 true (wrap64 ((wrap64 (a0_0 + (wrap64 (2 * (wrap64 (a0_2 + (wrap64 (Int.tdiv (wrap64 ((rd l2 2) - (rd l2 0))) 4)))))))) - (wrap64 (40 - (rd l1 0))))) (wrap64 ((wrap64 (a0_1 + (wrap64 (2 * (wrap64 (a0_3 + (wrap64 (Int.tdiv (wrap64 ((rd l2 3) - (rd l2 1))) 4)))))))) - (wrap64 (40 - (rd l1 1))))) (wrap64 (a0_2 + (wrap64 (Int.tdiv (wrap64 ((rd l2 2) - (rd l2 0))) 4)))) (wrap64 (a0_3 + (wrap64 (Int.tdiv (wrap64 ((rd l2 3) - (rd l2 1))) 4)))) a0_0 a0_1 a0_2 a0_3 (wrap64 (Int.tdiv (wrap64 ((rd l2 0) + (rd l2 2))) 2))) = some (r1, r2, r3, r4, r5, r6, r7, r8, r9, r10) := by rw [if_neg (show ¬ (false = true) by decide)] at H; exact H
                                clear H
                                have H := H1
                                clear H1
                                have H' := Aside0.mk H
                                clear H
                                go_wp2_with (first | ((with_reducible refine gate_callee (f := 20) rfl ?_); refine goesL_ (some 107) rfl rfl Try.func20 (by kernel_rfl) rfl #[.pointer (some ⟨gb344, 0, none⟩)] rfl (by (try simp only [List.map_toArray, List.map_cons, List.map_nil]); first | done | rfl | (simp only [List.length_drop, List.length_take]; rfl)) ?_; (with_reducible refine (spec_l04Is.calls k2 gb344 (wrap64 ((wrap64 (a0_0 + (wrap64 (2 * (wrap64 (a0_2 + (wrap64 (Int.tdiv (wrap64 ((rd l2 2) - (rd l2 0))) 4)))))))) - (wrap64 (40 - (rd l1 0))))) (wrap64 ((wrap64 (a0_1 + (wrap64 (2 * (wrap64 (a0_3 + (wrap64 (Int.tdiv (wrap64 ((rd l2 3) - (rd l2 1))) 4)))))))) - (wrap64 (40 - (rd l1 1))))) (wrap64 (a0_2 + (wrap64 (Int.tdiv (wrap64 ((rd l2 2) - (rd l2 0))) 4)))) (wrap64 (a0_3 + (wrap64 (Int.tdiv (wrap64 ((rd l2 3) - (rd l2 1))) 4)))) a0_0 a0_1 a0_2 a0_3 (wrap64 (Int.tdiv (wrap64 ((rd l2 0) + (rd l2 2))) 2)) true _ ?side1 A64.out).mono ?_); (case side1 => (with_reducible repeat (first | refine blk_drewN ?_ _ | refine blk_drew ?_ | refine blk_alloc ?_ _)); refine blk_put (cs := #[.int .i64 (wrap64 ((wrap64 (a0_0 + (wrap64 (2 * (wrap64 (a0_2 + (wrap64 (Int.tdiv (wrap64 ((rd l2 2) - (rd l2 0))) 4)))))))) - (wrap64 (40 - (rd l1 0))))), .int .i64 0, .int .i64 (wrap64 (a0_2 + (wrap64 (Int.tdiv (wrap64 ((rd l2 2) - (rd l2 0))) 4)))), .int .i64 (wrap64 (a0_3 + (wrap64 (Int.tdiv (wrap64 ((rd l2 3) - (rd l2 1))) 4)))), .int .i64 a0_0, .int .i64 a0_1, .int .i64 a0_2, .int .i64 a0_3, .int .i64 (wrap64 (Int.tdiv (wrap64 ((rd l2 0) + (rd l2 2))) 2))]) ?_ 1 _ rfl; (with_reducible repeat (first | refine blk_drewN ?_ _ | refine blk_drew ?_ | refine blk_alloc ?_ _)); exact BK344.out); rintro e w76 ⟨rfl, hb⟩; refine ⟨_, rfl, ?_⟩; have n0_ := Aside0.mk (blk_below (g := gb335) (o := .cells #[.int .i64 a0_0, .int .i64 a0_1, .int .i64 a0_2, .int .i64 a0_3] 25 (0, 0)) (by (with_reducible repeat (first | refine blk_drewN ?_ _ | refine blk_drew ?_ | refine blk_alloc ?_ _)); refine blk_far ?_ NB335_344.out _; (with_reducible repeat (first | refine blk_drewN ?_ _ | refine blk_drew ?_ | refine blk_alloc ?_ _)); exact BK335.out) hb); have n1_ := Aside0.mk (blk_below (g := gb336) (o := .cells #[.int .i64 x337000_2, .int .i64 x337001_2, .int .i64 x337002_2, .int .i64 x337003_2, .int .i64 x337004_2, .int .i64 x337005_2, .int .i64 x337006_2, .int .i64 x337007_2, .int .i64 x337008_2] 38 (0, 0)) (by (with_reducible repeat (first | refine blk_drewN ?_ _ | refine blk_drew ?_ | refine blk_alloc ?_ _)); refine blk_far ?_ NB336_344.out _; (with_reducible repeat (first | refine blk_drewN ?_ _ | refine blk_drew ?_ | refine blk_alloc ?_ _)); exact BK336.out) hb); have n2_ := Aside0.mk (blk_below (g := gb344) (o := .cells #[.int .i64 (wrap64 ((wrap64 (a0_0 + (wrap64 (2 * (wrap64 (a0_2 + (wrap64 (Int.tdiv (wrap64 ((rd l2 2) - (rd l2 0))) 4)))))))) - (wrap64 (40 - (rd l1 0))))), .int .i64 (wrap64 ((wrap64 (a0_1 + (wrap64 (2 * (wrap64 (a0_3 + (wrap64 (Int.tdiv (wrap64 ((rd l2 3) - (rd l2 1))) 4)))))))) - (wrap64 (40 - (rd l1 1))))), .int .i64 (wrap64 (a0_2 + (wrap64 (Int.tdiv (wrap64 ((rd l2 2) - (rd l2 0))) 4)))), .int .i64 (wrap64 (a0_3 + (wrap64 (Int.tdiv (wrap64 ((rd l2 3) - (rd l2 1))) 4)))), .int .i64 a0_0, .int .i64 a0_1, .int .i64 a0_2, .int .i64 a0_3, .int .i64 (wrap64 (Int.tdiv (wrap64 ((rd l2 0) + (rd l2 2))) 2))] 38 (0, 0)) (by (with_reducible repeat (first | refine blk_drewN ?_ _ | refine blk_drew ?_ | refine blk_alloc ?_ _)); refine blk_put (cs := #[.int .i64 (wrap64 ((wrap64 (a0_0 + (wrap64 (2 * (wrap64 (a0_2 + (wrap64 (Int.tdiv (wrap64 ((rd l2 2) - (rd l2 0))) 4)))))))) - (wrap64 (40 - (rd l1 0))))), .int .i64 0, .int .i64 (wrap64 (a0_2 + (wrap64 (Int.tdiv (wrap64 ((rd l2 2) - (rd l2 0))) 4)))), .int .i64 (wrap64 (a0_3 + (wrap64 (Int.tdiv (wrap64 ((rd l2 3) - (rd l2 1))) 4)))), .int .i64 a0_0, .int .i64 a0_1, .int .i64 a0_2, .int .i64 a0_3, .int .i64 (wrap64 (Int.tdiv (wrap64 ((rd l2 0) + (rd l2 2))) 2))]) ?_ 1 _ rfl; (with_reducible repeat (first | refine blk_drewN ?_ _ | refine blk_drew ?_ | refine blk_alloc ?_ _)); exact BK344.out) hb); have n3_ := Aside0.mk (below_step (by repeat (first | (with_reducible first | exact HB.out | apply below_alloc | apply pw_below_drewN | apply below_drew1 | refine below_set ?_ GE335.out | refine below_set ?_ GE336.out | refine below_set ?_ GE344.out) | exact HB.out)) hb); clear BK335; clear BK336; clear BK344; clear HB; have BK335 := n0_; have BK336 := n1_; have BK344 := n2_; have HB := n3_; clear n0_ n1_ n2_ n3_; (try clear hb); (try clear hb2); (try clear hk); (try clear hi)) | (go_at_call 22; (with_reducible refine (spec_l04Gaps.calls gb344 (wrap64 ((wrap64 (a0_0 + (wrap64 (2 * (wrap64 (a0_2 + (wrap64 (Int.tdiv (wrap64 ((rd l2 2) - (rd l2 0))) 4)))))))) - (wrap64 (40 - (rd l1 0))))) (wrap64 ((wrap64 (a0_1 + (wrap64 (2 * (wrap64 (a0_3 + (wrap64 (Int.tdiv (wrap64 ((rd l2 3) - (rd l2 1))) 4)))))))) - (wrap64 (40 - (rd l1 1))))) (wrap64 (a0_2 + (wrap64 (Int.tdiv (wrap64 ((rd l2 2) - (rd l2 0))) 4)))) (wrap64 (a0_3 + (wrap64 (Int.tdiv (wrap64 ((rd l2 3) - (rd l2 1))) 4)))) a0_0 a0_1 a0_2 a0_3 (wrap64 (Int.tdiv (wrap64 ((rd l2 0) + (rd l2 2))) 2)) t352 _ ?side1 A66.out).mono ?_); (case side1 => (with_reducible repeat (first | refine blk_drewN ?_ _ | refine blk_drew ?_ | refine blk_alloc ?_ _)); exact BK344.out); rintro e w77 ⟨v353, rfl, ho0, hb⟩; have n0_ := Aside0.mk (Kd.R_lower ho0 (below_size (by repeat (first | (with_reducible first | exact HB.out | apply below_alloc | apply pw_below_drewN | apply below_drew1 | refine below_set ?_ GE335.out | refine below_set ?_ GE336.out | refine below_set ?_ GE344.out) | exact HB.out)))); have n1_ := Aside0.mk (blk_below (g := gb335) (o := .cells #[.int .i64 a0_0, .int .i64 a0_1, .int .i64 a0_2, .int .i64 a0_3] 25 (0, 0)) (by (with_reducible repeat (first | refine blk_drewN ?_ _ | refine blk_drew ?_ | refine blk_alloc ?_ _)); exact BK335.out) hb); have n2_ := Aside0.mk (blk_below (g := gb336) (o := .cells #[.int .i64 x337000_2, .int .i64 x337001_2, .int .i64 x337002_2, .int .i64 x337003_2, .int .i64 x337004_2, .int .i64 x337005_2, .int .i64 x337006_2, .int .i64 x337007_2, .int .i64 x337008_2] 38 (0, 0)) (by (with_reducible repeat (first | refine blk_drewN ?_ _ | refine blk_drew ?_ | refine blk_alloc ?_ _)); exact BK336.out) hb); have n3_ := Aside0.mk (blk_below (g := gb344) (o := .cells #[.int .i64 (wrap64 ((wrap64 (a0_0 + (wrap64 (2 * (wrap64 (a0_2 + (wrap64 (Int.tdiv (wrap64 ((rd l2 2) - (rd l2 0))) 4)))))))) - (wrap64 (40 - (rd l1 0))))), .int .i64 (wrap64 ((wrap64 (a0_1 + (wrap64 (2 * (wrap64 (a0_3 + (wrap64 (Int.tdiv (wrap64 ((rd l2 3) - (rd l2 1))) 4)))))))) - (wrap64 (40 - (rd l1 1))))), .int .i64 (wrap64 (a0_2 + (wrap64 (Int.tdiv (wrap64 ((rd l2 2) - (rd l2 0))) 4)))), .int .i64 (wrap64 (a0_3 + (wrap64 (Int.tdiv (wrap64 ((rd l2 3) - (rd l2 1))) 4)))), .int .i64 a0_0, .int .i64 a0_1, .int .i64 a0_2, .int .i64 a0_3, .int .i64 (wrap64 (Int.tdiv (wrap64 ((rd l2 0) + (rd l2 2))) 2))] 38 (0, 0)) (by (with_reducible repeat (first | refine blk_drewN ?_ _ | refine blk_drew ?_ | refine blk_alloc ?_ _)); exact BK344.out) hb); have n4_ := Aside0.mk (below_step (by repeat (first | (with_reducible first | exact HB.out | apply below_alloc | apply pw_below_drewN | apply below_drew1 | refine below_set ?_ GE335.out | refine below_set ?_ GE336.out | refine below_set ?_ GE344.out) | exact HB.out)) hb); clear BK335; clear BK336; clear BK344; clear HB; have HO354 := n0_; have BK335 := n1_; have BK336 := n2_; have BK344 := n3_; have HB := n4_; clear n0_ n1_ n2_ n3_ n4_; (try clear hb); (try clear hb2); (try clear hk); (try clear hi); (try clear ho0); obtain ⟨Ao78, co78, eo78⟩ := Kd.R_slice HO354.out; subst eo78) | (go_at_call 21; (with_reducible refine (spec_l00Same.calls k2 _ _ t352 _ _ l1 false _ ?side1 ?side2 ?side3 ?side4 A67.out).mono ?_); (case side1 => repeat (first | exact (Kd.R_reads' HO354.out).2.2 | (with_reducible refine Kd.C_alloc ?_ _) | (with_reducible refine Kd.C_drewN ?_ _) | (with_reducible refine Kd.C_drew ?_))); (case side2 => exact (Kd.R_reads' HO354.out).2.1); (case side3 => repeat (first | exact (Kd.C_below HR1.out HB.out) | (with_reducible refine Kd.C_alloc ?_ _) | (with_reducible refine Kd.C_drewN ?_ _) | (with_reducible refine Kd.C_drew ?_))); (case side4 => exact HC1.out); rintro e w' ⟨rfl, ⟨nd, rfl⟩⟩))
                                go_meet
                                case rel => exact ⟨_, (true), (wrap64 ((wrap64 (a0_0 + (wrap64 (2 * (wrap64 (a0_2 + (wrap64 (Int.tdiv (wrap64 ((rd l2 2) - (rd l2 0))) 4)))))))) - (wrap64 (40 - (rd l1 0))))), (wrap64 ((wrap64 (a0_1 + (wrap64 (2 * (wrap64 (a0_3 + (wrap64 (Int.tdiv (wrap64 ((rd l2 3) - (rd l2 1))) 4)))))))) - (wrap64 (40 - (rd l1 1))))), (wrap64 (a0_2 + (wrap64 (Int.tdiv (wrap64 ((rd l2 2) - (rd l2 0))) 4)))), (wrap64 (a0_3 + (wrap64 (Int.tdiv (wrap64 ((rd l2 3) - (rd l2 1))) 4)))), (a0_0), (a0_1), (a0_2), (a0_3), (wrap64 (Int.tdiv (wrap64 ((rd l2 0) + (rd l2 2))) 2)), (by first | rfl | (simp; done) | (simp [*]; done)), H', ⟨by have := HJ3.out; have := HK2.out; first | omega | exact Nat.le_refl _⟩, ⟨by (with_reducible repeat (first | refine blk_drewN ?_ _ | refine blk_drew ?_ | refine blk_alloc ?_ _)); exact BK335.out⟩, ⟨by (with_reducible repeat (first | refine blk_drewN ?_ _ | refine blk_drew ?_ | refine blk_alloc ?_ _)); exact BK336.out⟩, ⟨by (with_reducible repeat (first | refine blk_drewN ?_ _ | refine blk_drew ?_ | refine blk_alloc ?_ _)); exact BK344.out⟩, ⟨by repeat (first | (with_reducible first | exact HB.out | apply below_alloc | apply pw_below_drewN | apply below_drew1 | refine below_set ?_ GE335.out | refine below_set ?_ GE336.out | refine below_set ?_ GE344.out) | exact HB.out)⟩⟩
                            · replace c65 := Bool.eq_false_iff.mpr c65
                              subst c65
                              have H1 : (spec_MachineFrom.j2 k2 true (wrap64 ((wrap64 (a0_0 + (wrap64 (2 * (wrap64 (a0_2 + (wrap64 (Int.tdiv (wrap64 ((rd l2 2) - (rd l2 0))) 4)))))))) - (wrap64 (40 - (rd l1 0))))) (wrap64 ((wrap64 (a0_1 + (wrap64 (2 * (wrap64 (a0_3 + (wrap64 (Int.tdiv (wrap64 ((rd l2 3) - (rd l2 1))) 4)))))))) - (wrap64 (40 - (rd l1 1))))) (wrap64 (a0_2 + (wrap64 (Int.tdiv (wrap64 ((rd l2 2) - (rd l2 0))) 4)))) (wrap64 (a0_3 + (wrap64 (Int.tdiv (wrap64 ((rd l2 3) - (rd l2 1))) 4)))) a0_0 a0_1 a0_2 a0_3 (wrap64 (Int.tdiv (wrap64 ((rd l2 0) + (rd l2 2))) 2))) = some (r1, r2, r3, r4, r5, r6, r7, r8, r9, r10) := by rw [if_neg (show ¬ (false = true) by decide)] at H; exact H
                              clear H
                              have H := H1
                              clear H1
                              have H' := Aside0.mk H
                              clear H
                              go_wp2_with (first | ((with_reducible refine gate_callee (f := 20) rfl ?_); refine goesL_ (some 107) rfl rfl Try.func20 (by kernel_rfl) rfl #[.pointer (some ⟨gb344, 0, none⟩)] rfl (by (try simp only [List.map_toArray, List.map_cons, List.map_nil]); first | done | rfl | (simp only [List.length_drop, List.length_take]; rfl)) ?_; (with_reducible refine (spec_l04Is.calls k2 gb344 (wrap64 ((wrap64 (a0_0 + (wrap64 (2 * (wrap64 (a0_2 + (wrap64 (Int.tdiv (wrap64 ((rd l2 2) - (rd l2 0))) 4)))))))) - (wrap64 (40 - (rd l1 0))))) (wrap64 ((wrap64 (a0_1 + (wrap64 (2 * (wrap64 (a0_3 + (wrap64 (Int.tdiv (wrap64 ((rd l2 3) - (rd l2 1))) 4)))))))) - (wrap64 (40 - (rd l1 1))))) (wrap64 (a0_2 + (wrap64 (Int.tdiv (wrap64 ((rd l2 2) - (rd l2 0))) 4)))) (wrap64 (a0_3 + (wrap64 (Int.tdiv (wrap64 ((rd l2 3) - (rd l2 1))) 4)))) a0_0 a0_1 a0_2 a0_3 (wrap64 (Int.tdiv (wrap64 ((rd l2 0) + (rd l2 2))) 2)) false _ ?side1 A64.out).mono ?_); (case side1 => (with_reducible repeat (first | refine blk_drewN ?_ _ | refine blk_drew ?_ | refine blk_alloc ?_ _)); refine blk_put (cs := #[.int .i64 (wrap64 ((wrap64 (a0_0 + (wrap64 (2 * (wrap64 (a0_2 + (wrap64 (Int.tdiv (wrap64 ((rd l2 2) - (rd l2 0))) 4)))))))) - (wrap64 (40 - (rd l1 0))))), .int .i64 0, .int .i64 (wrap64 (a0_2 + (wrap64 (Int.tdiv (wrap64 ((rd l2 2) - (rd l2 0))) 4)))), .int .i64 (wrap64 (a0_3 + (wrap64 (Int.tdiv (wrap64 ((rd l2 3) - (rd l2 1))) 4)))), .int .i64 a0_0, .int .i64 a0_1, .int .i64 a0_2, .int .i64 a0_3, .int .i64 (wrap64 (Int.tdiv (wrap64 ((rd l2 0) + (rd l2 2))) 2))]) ?_ 1 _ rfl; (with_reducible repeat (first | refine blk_drewN ?_ _ | refine blk_drew ?_ | refine blk_alloc ?_ _)); exact BK344.out); rintro e w79 ⟨rfl, hb⟩; refine ⟨_, rfl, ?_⟩; have n0_ := Aside0.mk (blk_below (g := gb335) (o := .cells #[.int .i64 a0_0, .int .i64 a0_1, .int .i64 a0_2, .int .i64 a0_3] 25 (0, 0)) (by (with_reducible repeat (first | refine blk_drewN ?_ _ | refine blk_drew ?_ | refine blk_alloc ?_ _)); refine blk_far ?_ NB335_344.out _; (with_reducible repeat (first | refine blk_drewN ?_ _ | refine blk_drew ?_ | refine blk_alloc ?_ _)); exact BK335.out) hb); have n1_ := Aside0.mk (blk_below (g := gb336) (o := .cells #[.int .i64 x337000_2, .int .i64 x337001_2, .int .i64 x337002_2, .int .i64 x337003_2, .int .i64 x337004_2, .int .i64 x337005_2, .int .i64 x337006_2, .int .i64 x337007_2, .int .i64 x337008_2] 38 (0, 0)) (by (with_reducible repeat (first | refine blk_drewN ?_ _ | refine blk_drew ?_ | refine blk_alloc ?_ _)); refine blk_far ?_ NB336_344.out _; (with_reducible repeat (first | refine blk_drewN ?_ _ | refine blk_drew ?_ | refine blk_alloc ?_ _)); exact BK336.out) hb); have n2_ := Aside0.mk (blk_below (g := gb344) (o := .cells #[.int .i64 (wrap64 ((wrap64 (a0_0 + (wrap64 (2 * (wrap64 (a0_2 + (wrap64 (Int.tdiv (wrap64 ((rd l2 2) - (rd l2 0))) 4)))))))) - (wrap64 (40 - (rd l1 0))))), .int .i64 (wrap64 ((wrap64 (a0_1 + (wrap64 (2 * (wrap64 (a0_3 + (wrap64 (Int.tdiv (wrap64 ((rd l2 3) - (rd l2 1))) 4)))))))) - (wrap64 (40 - (rd l1 1))))), .int .i64 (wrap64 (a0_2 + (wrap64 (Int.tdiv (wrap64 ((rd l2 2) - (rd l2 0))) 4)))), .int .i64 (wrap64 (a0_3 + (wrap64 (Int.tdiv (wrap64 ((rd l2 3) - (rd l2 1))) 4)))), .int .i64 a0_0, .int .i64 a0_1, .int .i64 a0_2, .int .i64 a0_3, .int .i64 (wrap64 (Int.tdiv (wrap64 ((rd l2 0) + (rd l2 2))) 2))] 38 (0, 0)) (by (with_reducible repeat (first | refine blk_drewN ?_ _ | refine blk_drew ?_ | refine blk_alloc ?_ _)); refine blk_put (cs := #[.int .i64 (wrap64 ((wrap64 (a0_0 + (wrap64 (2 * (wrap64 (a0_2 + (wrap64 (Int.tdiv (wrap64 ((rd l2 2) - (rd l2 0))) 4)))))))) - (wrap64 (40 - (rd l1 0))))), .int .i64 0, .int .i64 (wrap64 (a0_2 + (wrap64 (Int.tdiv (wrap64 ((rd l2 2) - (rd l2 0))) 4)))), .int .i64 (wrap64 (a0_3 + (wrap64 (Int.tdiv (wrap64 ((rd l2 3) - (rd l2 1))) 4)))), .int .i64 a0_0, .int .i64 a0_1, .int .i64 a0_2, .int .i64 a0_3, .int .i64 (wrap64 (Int.tdiv (wrap64 ((rd l2 0) + (rd l2 2))) 2))]) ?_ 1 _ rfl; (with_reducible repeat (first | refine blk_drewN ?_ _ | refine blk_drew ?_ | refine blk_alloc ?_ _)); exact BK344.out) hb); have n3_ := Aside0.mk (below_step (by repeat (first | (with_reducible first | exact HB.out | apply below_alloc | apply pw_below_drewN | apply below_drew1 | refine below_set ?_ GE335.out | refine below_set ?_ GE336.out | refine below_set ?_ GE344.out) | exact HB.out)) hb); clear BK335; clear BK336; clear BK344; clear HB; have BK335 := n0_; have BK336 := n1_; have BK344 := n2_; have HB := n3_; clear n0_ n1_ n2_ n3_; (try clear hb); (try clear hb2); (try clear hk); (try clear hi)))
                              go_meet
                              case rel => exact ⟨_, (true), (wrap64 ((wrap64 (a0_0 + (wrap64 (2 * (wrap64 (a0_2 + (wrap64 (Int.tdiv (wrap64 ((rd l2 2) - (rd l2 0))) 4)))))))) - (wrap64 (40 - (rd l1 0))))), (wrap64 ((wrap64 (a0_1 + (wrap64 (2 * (wrap64 (a0_3 + (wrap64 (Int.tdiv (wrap64 ((rd l2 3) - (rd l2 1))) 4)))))))) - (wrap64 (40 - (rd l1 1))))), (wrap64 (a0_2 + (wrap64 (Int.tdiv (wrap64 ((rd l2 2) - (rd l2 0))) 4)))), (wrap64 (a0_3 + (wrap64 (Int.tdiv (wrap64 ((rd l2 3) - (rd l2 1))) 4)))), (a0_0), (a0_1), (a0_2), (a0_3), (wrap64 (Int.tdiv (wrap64 ((rd l2 0) + (rd l2 2))) 2)), (by first | rfl | (simp; done) | (simp [*]; done)), H', ⟨by have := HJ3.out; have := HK2.out; first | omega | exact Nat.le_refl _⟩, ⟨by (with_reducible repeat (first | refine blk_drewN ?_ _ | refine blk_drew ?_ | refine blk_alloc ?_ _)); exact BK335.out⟩, ⟨by (with_reducible repeat (first | refine blk_drewN ?_ _ | refine blk_drew ?_ | refine blk_alloc ?_ _)); exact BK336.out⟩, ⟨by (with_reducible repeat (first | refine blk_drewN ?_ _ | refine blk_drew ?_ | refine blk_alloc ?_ _)); exact BK344.out⟩, ⟨by repeat (first | (with_reducible first | exact HB.out | apply below_alloc | apply pw_below_drewN | apply below_drew1 | refine below_set ?_ GE335.out | refine below_set ?_ GE336.out | refine below_set ?_ GE344.out) | exact HB.out)⟩⟩
                          case rest =>
                            clear HC40
                            try clear c2
                            try clear p2
                            try clear p3
                            try clear q3
                            try clear hx3
                            try clear qi3
                            try clear c6
                            try clear p6
                            try clear c20
                            try clear p34
                            try clear q34
                            try clear hx34
                            try clear qi34
                            try clear p35
                            try clear q35
                            try clear hx35
                            try clear qi35
                            try clear p64
                            try clear c65
                            try clear c68
                            try clear hx347_0
                            try clear hx348_0
                            try clear hx349_0
                            try clear hx350_0
                            try clear p347
                            try clear p348
                            try clear p349
                            try clear p350
                            try clear q347
                            try clear q348
                            try clear q349
                            try clear q350
                            obtain ⟨kq, x120_39, x345000_39, x345001_39, x345002_39, x345003_39, x345004_39, x345005_39, x345006_39, x345007_39, x345008_39, rfl, HA, HJ39, BK335, BK336, BK344, HB⟩ := hcut
                            cases kq with
                            | zero => exact absurd HA.out (by simp [spec_MachineFrom.j2])
                            | succ kj39 =>
                              have H := HA.out
                              clear HA
                              simp only [spec_MachineFrom.j2] at H
                              by_cases c80 : x120_39 = true
                              · subst c80
                                have H1 : (some (0, 0, 0, 0, 0, 0, 0, 0, 0, false)) = some (r1, r2, r3, r4, r5, r6, r7, r8, r9, r10) := by rw [if_pos rfl] at H; exact H
                                clear H
                                have H := H1
                                clear H1
                                simp only [Option.some.injEq, Prod.mk.injEq] at H
                                obtain ⟨rfl, rfl, rfl, rfl, rfl, rfl, rfl, rfl, rfl, rfl⟩ := H
                                have hnb81 := NB336_335.out
                                have hnc81 := NB335_336.out
                                have hnb82 := NB336_344.out
                                have hnc82 := NB344_336.out
                                have hcz83_0 : wc.cell? ⟨gb336, 0, none⟩ = some (.int .i64 x337000_2) := (blk_cell BK336.out 0).trans rfl
                                have hcz83_1 : wc.cell? ⟨gb336, 1, none⟩ = some (.int .i64 x337001_2) := (blk_cell BK336.out 1).trans rfl
                                have hcz83_2 : wc.cell? ⟨gb336, 2, none⟩ = some (.int .i64 x337002_2) := (blk_cell BK336.out 2).trans rfl
                                have hcz83_3 : wc.cell? ⟨gb336, 3, none⟩ = some (.int .i64 x337003_2) := (blk_cell BK336.out 3).trans rfl
                                have hcz83_4 : wc.cell? ⟨gb336, 4, none⟩ = some (.int .i64 x337004_2) := (blk_cell BK336.out 4).trans rfl
                                have hcz83_5 : wc.cell? ⟨gb336, 5, none⟩ = some (.int .i64 x337005_2) := (blk_cell BK336.out 5).trans rfl
                                have hcz83_6 : wc.cell? ⟨gb336, 6, none⟩ = some (.int .i64 x337006_2) := (blk_cell BK336.out 6).trans rfl
                                have hcz83_7 : wc.cell? ⟨gb336, 7, none⟩ = some (.int .i64 x337007_2) := (blk_cell BK336.out 7).trans rfl
                                have hcz83_8 : wc.cell? ⟨gb336, 8, none⟩ = some (.int .i64 x337008_2) := (blk_cell BK336.out 8).trans rfl
                                have hfz83_0 := blk_frozen BK336.out 0
                                have hfz83_1 := blk_frozen BK336.out 1
                                have hfz83_2 := blk_frozen BK336.out 2
                                have hfz83_3 := blk_frozen BK336.out 3
                                have hfz83_4 := blk_frozen BK336.out 4
                                have hfz83_5 := blk_frozen BK336.out 5
                                have hfz83_6 := blk_frozen BK336.out 6
                                have hfz83_7 := blk_frozen BK336.out 7
                                have hfz83_8 := blk_frozen BK336.out 8
                                go_wp2
                                refine bodyPost_ret (results_ct rfl _ _ gb336 38 #[.int .i64 0, .int .i64 0, .int .i64 0, .int .i64 0, .int .i64 0, .int .i64 0, .int .i64 0, .int .i64 0, .int .i64 0] (0, 0) _ rfl (by (with_reducible repeat (first | refine blk_drewN ?_ _ | refine blk_drew ?_ | refine blk_alloc ?_ _)); refine blk_put (cs := #[.int .i64 0, .int .i64 0, .int .i64 0, .int .i64 0, .int .i64 0, .int .i64 0, .int .i64 0, .int .i64 0, .int .i64 x337008_2]) ?_ 8 _ rfl; (with_reducible repeat (first | refine blk_drewN ?_ _ | refine blk_drew ?_ | refine blk_alloc ?_ _)); refine blk_put (cs := #[.int .i64 0, .int .i64 0, .int .i64 0, .int .i64 0, .int .i64 0, .int .i64 0, .int .i64 0, .int .i64 x337007_2, .int .i64 x337008_2]) ?_ 7 _ rfl; (with_reducible repeat (first | refine blk_drewN ?_ _ | refine blk_drew ?_ | refine blk_alloc ?_ _)); refine blk_put (cs := #[.int .i64 0, .int .i64 0, .int .i64 0, .int .i64 0, .int .i64 0, .int .i64 0, .int .i64 x337006_2, .int .i64 x337007_2, .int .i64 x337008_2]) ?_ 6 _ rfl; (with_reducible repeat (first | refine blk_drewN ?_ _ | refine blk_drew ?_ | refine blk_alloc ?_ _)); refine blk_put (cs := #[.int .i64 0, .int .i64 0, .int .i64 0, .int .i64 0, .int .i64 0, .int .i64 x337005_2, .int .i64 x337006_2, .int .i64 x337007_2, .int .i64 x337008_2]) ?_ 5 _ rfl; (with_reducible repeat (first | refine blk_drewN ?_ _ | refine blk_drew ?_ | refine blk_alloc ?_ _)); refine blk_put (cs := #[.int .i64 0, .int .i64 0, .int .i64 0, .int .i64 0, .int .i64 x337004_2, .int .i64 x337005_2, .int .i64 x337006_2, .int .i64 x337007_2, .int .i64 x337008_2]) ?_ 4 _ rfl; (with_reducible repeat (first | refine blk_drewN ?_ _ | refine blk_drew ?_ | refine blk_alloc ?_ _)); refine blk_put (cs := #[.int .i64 0, .int .i64 0, .int .i64 0, .int .i64 x337003_2, .int .i64 x337004_2, .int .i64 x337005_2, .int .i64 x337006_2, .int .i64 x337007_2, .int .i64 x337008_2]) ?_ 3 _ rfl; (with_reducible repeat (first | refine blk_drewN ?_ _ | refine blk_drew ?_ | refine blk_alloc ?_ _)); refine blk_put (cs := #[.int .i64 0, .int .i64 0, .int .i64 x337002_2, .int .i64 x337003_2, .int .i64 x337004_2, .int .i64 x337005_2, .int .i64 x337006_2, .int .i64 x337007_2, .int .i64 x337008_2]) ?_ 2 _ rfl; (with_reducible repeat (first | refine blk_drewN ?_ _ | refine blk_drew ?_ | refine blk_alloc ?_ _)); refine blk_put (cs := #[.int .i64 0, .int .i64 x337001_2, .int .i64 x337002_2, .int .i64 x337003_2, .int .i64 x337004_2, .int .i64 x337005_2, .int .i64 x337006_2, .int .i64 x337007_2, .int .i64 x337008_2]) ?_ 1 _ rfl; (with_reducible repeat (first | refine blk_drewN ?_ _ | refine blk_drew ?_ | refine blk_alloc ?_ _)); refine blk_put (cs := #[.int .i64 x337000_2, .int .i64 x337001_2, .int .i64 x337002_2, .int .i64 x337003_2, .int .i64 x337004_2, .int .i64 x337005_2, .int .i64 x337006_2, .int .i64 x337007_2, .int .i64 x337008_2]) ?_ 0 _ rfl; (with_reducible repeat (first | refine blk_drewN ?_ _ | refine blk_drew ?_ | refine blk_alloc ?_ _)); exact BK336.out) Try.underlying38 rfl (by kernel_rfl)) rfl ?_
                                exact ⟨by first | rfl | (simp [errW_none, errW_some] <;> rfl) | (simp [*, errW_none, errW_some] <;> rfl), by repeat (first | (with_reducible first | exact HB.out | apply below_alloc | apply pw_below_drewN | apply below_drew1 | refine below_set ?_ GE335.out | refine below_set ?_ GE336.out | refine below_set ?_ GE344.out) | exact HB.out)⟩
                              · replace c80 := Bool.eq_false_iff.mpr c80
                                subst c80
                                have H1 : (some (x345000_39, x345001_39, x345002_39, x345003_39, x345004_39, x345005_39, x345006_39, x345007_39, x345008_39, true)) = some (r1, r2, r3, r4, r5, r6, r7, r8, r9, r10) := by rw [if_neg (show ¬ (false = true) by decide)] at H; exact H
                                clear H
                                have H := H1
                                clear H1
                                simp only [Option.some.injEq, Prod.mk.injEq] at H
                                obtain ⟨rfl, rfl, rfl, rfl, rfl, rfl, rfl, rfl, rfl, rfl⟩ := H
                                have hnb84 := NB344_335.out
                                have hnc84 := NB335_344.out
                                have hnb85 := NB344_336.out
                                have hnc85 := NB336_344.out
                                have hcz86_0 : wc.cell? ⟨gb344, 0, none⟩ = some (.int .i64 x345000_39) := (blk_cell BK344.out 0).trans rfl
                                have hcz86_1 : wc.cell? ⟨gb344, 1, none⟩ = some (.int .i64 x345001_39) := (blk_cell BK344.out 1).trans rfl
                                have hcz86_2 : wc.cell? ⟨gb344, 2, none⟩ = some (.int .i64 x345002_39) := (blk_cell BK344.out 2).trans rfl
                                have hcz86_3 : wc.cell? ⟨gb344, 3, none⟩ = some (.int .i64 x345003_39) := (blk_cell BK344.out 3).trans rfl
                                have hcz86_4 : wc.cell? ⟨gb344, 4, none⟩ = some (.int .i64 x345004_39) := (blk_cell BK344.out 4).trans rfl
                                have hcz86_5 : wc.cell? ⟨gb344, 5, none⟩ = some (.int .i64 x345005_39) := (blk_cell BK344.out 5).trans rfl
                                have hcz86_6 : wc.cell? ⟨gb344, 6, none⟩ = some (.int .i64 x345006_39) := (blk_cell BK344.out 6).trans rfl
                                have hcz86_7 : wc.cell? ⟨gb344, 7, none⟩ = some (.int .i64 x345007_39) := (blk_cell BK344.out 7).trans rfl
                                have hcz86_8 : wc.cell? ⟨gb344, 8, none⟩ = some (.int .i64 x345008_39) := (blk_cell BK344.out 8).trans rfl
                                have hfz86_0 := blk_frozen BK344.out 0
                                have hfz86_1 := blk_frozen BK344.out 1
                                have hfz86_2 := blk_frozen BK344.out 2
                                have hfz86_3 := blk_frozen BK344.out 3
                                have hfz86_4 := blk_frozen BK344.out 4
                                have hfz86_5 := blk_frozen BK344.out 5
                                have hfz86_6 := blk_frozen BK344.out 6
                                have hfz86_7 := blk_frozen BK344.out 7
                                have hfz86_8 := blk_frozen BK344.out 8
                                have hnb87 := NB336_335.out
                                have hnc87 := NB335_336.out
                                have hcz88_0 : wc.cell? ⟨gb336, 0, none⟩ = some (.int .i64 x337000_2) := (blk_cell BK336.out 0).trans rfl
                                have hcz88_1 : wc.cell? ⟨gb336, 1, none⟩ = some (.int .i64 x337001_2) := (blk_cell BK336.out 1).trans rfl
                                have hcz88_2 : wc.cell? ⟨gb336, 2, none⟩ = some (.int .i64 x337002_2) := (blk_cell BK336.out 2).trans rfl
                                have hcz88_3 : wc.cell? ⟨gb336, 3, none⟩ = some (.int .i64 x337003_2) := (blk_cell BK336.out 3).trans rfl
                                have hcz88_4 : wc.cell? ⟨gb336, 4, none⟩ = some (.int .i64 x337004_2) := (blk_cell BK336.out 4).trans rfl
                                have hcz88_5 : wc.cell? ⟨gb336, 5, none⟩ = some (.int .i64 x337005_2) := (blk_cell BK336.out 5).trans rfl
                                have hcz88_6 : wc.cell? ⟨gb336, 6, none⟩ = some (.int .i64 x337006_2) := (blk_cell BK336.out 6).trans rfl
                                have hcz88_7 : wc.cell? ⟨gb336, 7, none⟩ = some (.int .i64 x337007_2) := (blk_cell BK336.out 7).trans rfl
                                have hcz88_8 : wc.cell? ⟨gb336, 8, none⟩ = some (.int .i64 x337008_2) := (blk_cell BK336.out 8).trans rfl
                                have hfz88_0 := blk_frozen BK336.out 0
                                have hfz88_1 := blk_frozen BK336.out 1
                                have hfz88_2 := blk_frozen BK336.out 2
                                have hfz88_3 := blk_frozen BK336.out 3
                                have hfz88_4 := blk_frozen BK336.out 4
                                have hfz88_5 := blk_frozen BK336.out 5
                                have hfz88_6 := blk_frozen BK336.out 6
                                have hfz88_7 := blk_frozen BK336.out 7
                                have hfz88_8 := blk_frozen BK336.out 8
                                go_wp2
                                refine bodyPost_ret (results_ct rfl _ _ gb336 38 #[.int .i64 x345000_39, .int .i64 x345001_39, .int .i64 x345002_39, .int .i64 x345003_39, .int .i64 x345004_39, .int .i64 x345005_39, .int .i64 x345006_39, .int .i64 x345007_39, .int .i64 x345008_39] (0, 0) _ rfl (by (with_reducible repeat (first | refine blk_drewN ?_ _ | refine blk_drew ?_ | refine blk_alloc ?_ _)); refine blk_put (cs := #[.int .i64 x345000_39, .int .i64 x345001_39, .int .i64 x345002_39, .int .i64 x345003_39, .int .i64 x345004_39, .int .i64 x345005_39, .int .i64 x345006_39, .int .i64 x345007_39, .int .i64 x337008_2]) ?_ 8 _ rfl; (with_reducible repeat (first | refine blk_drewN ?_ _ | refine blk_drew ?_ | refine blk_alloc ?_ _)); refine blk_put (cs := #[.int .i64 x345000_39, .int .i64 x345001_39, .int .i64 x345002_39, .int .i64 x345003_39, .int .i64 x345004_39, .int .i64 x345005_39, .int .i64 x345006_39, .int .i64 x337007_2, .int .i64 x337008_2]) ?_ 7 _ rfl; (with_reducible repeat (first | refine blk_drewN ?_ _ | refine blk_drew ?_ | refine blk_alloc ?_ _)); refine blk_put (cs := #[.int .i64 x345000_39, .int .i64 x345001_39, .int .i64 x345002_39, .int .i64 x345003_39, .int .i64 x345004_39, .int .i64 x345005_39, .int .i64 x337006_2, .int .i64 x337007_2, .int .i64 x337008_2]) ?_ 6 _ rfl; (with_reducible repeat (first | refine blk_drewN ?_ _ | refine blk_drew ?_ | refine blk_alloc ?_ _)); refine blk_put (cs := #[.int .i64 x345000_39, .int .i64 x345001_39, .int .i64 x345002_39, .int .i64 x345003_39, .int .i64 x345004_39, .int .i64 x337005_2, .int .i64 x337006_2, .int .i64 x337007_2, .int .i64 x337008_2]) ?_ 5 _ rfl; (with_reducible repeat (first | refine blk_drewN ?_ _ | refine blk_drew ?_ | refine blk_alloc ?_ _)); refine blk_put (cs := #[.int .i64 x345000_39, .int .i64 x345001_39, .int .i64 x345002_39, .int .i64 x345003_39, .int .i64 x337004_2, .int .i64 x337005_2, .int .i64 x337006_2, .int .i64 x337007_2, .int .i64 x337008_2]) ?_ 4 _ rfl; (with_reducible repeat (first | refine blk_drewN ?_ _ | refine blk_drew ?_ | refine blk_alloc ?_ _)); refine blk_put (cs := #[.int .i64 x345000_39, .int .i64 x345001_39, .int .i64 x345002_39, .int .i64 x337003_2, .int .i64 x337004_2, .int .i64 x337005_2, .int .i64 x337006_2, .int .i64 x337007_2, .int .i64 x337008_2]) ?_ 3 _ rfl; (with_reducible repeat (first | refine blk_drewN ?_ _ | refine blk_drew ?_ | refine blk_alloc ?_ _)); refine blk_put (cs := #[.int .i64 x345000_39, .int .i64 x345001_39, .int .i64 x337002_2, .int .i64 x337003_2, .int .i64 x337004_2, .int .i64 x337005_2, .int .i64 x337006_2, .int .i64 x337007_2, .int .i64 x337008_2]) ?_ 2 _ rfl; (with_reducible repeat (first | refine blk_drewN ?_ _ | refine blk_drew ?_ | refine blk_alloc ?_ _)); refine blk_put (cs := #[.int .i64 x345000_39, .int .i64 x337001_2, .int .i64 x337002_2, .int .i64 x337003_2, .int .i64 x337004_2, .int .i64 x337005_2, .int .i64 x337006_2, .int .i64 x337007_2, .int .i64 x337008_2]) ?_ 1 _ rfl; (with_reducible repeat (first | refine blk_drewN ?_ _ | refine blk_drew ?_ | refine blk_alloc ?_ _)); refine blk_put (cs := #[.int .i64 x337000_2, .int .i64 x337001_2, .int .i64 x337002_2, .int .i64 x337003_2, .int .i64 x337004_2, .int .i64 x337005_2, .int .i64 x337006_2, .int .i64 x337007_2, .int .i64 x337008_2]) ?_ 0 _ rfl; (with_reducible repeat (first | refine blk_drewN ?_ _ | refine blk_drew ?_ | refine blk_alloc ?_ _)); exact BK336.out) Try.underlying38 rfl (by kernel_rfl)) rfl ?_
                                exact ⟨by first | rfl | (simp [errW_none, errW_some] <;> rfl) | (simp [*, errW_none, errW_some] <;> rfl), by repeat (first | (with_reducible first | exact HB.out | apply below_alloc | apply pw_below_drewN | apply below_drew1 | refine below_set ?_ GE335.out | refine below_set ?_ GE336.out | refine below_set ?_ GE344.out) | exact HB.out)⟩
                        · rw [if_neg c39] at H
                          exact absurd H (by simp)
                      · rw [if_neg c38] at H
                        exact absurd H (by simp)
                    · rw [if_neg c37] at H
                      exact absurd H (by simp)
                  · rw [if_neg c36] at H
                    exact absurd H (by simp)
                · rw [if_neg c35] at H
                  exact absurd H (by simp)
              · rw [if_neg c34] at H
                exact absurd H (by simp)

/-! ### laws_toPose: function 10 -/
def laws_toPose.f (a0_0 : Int) (a0_1 : Int) (a0_2 : Int) (a0_3 : Int) : Option (Int × Int × Int × Int) := some (a0_0, a0_1, a0_2, a0_3)
set_option maxHeartbeats 8000000 in
set_option maxRecDepth 100000 in
theorem laws_toPose.calls (a0_0 : Int) (a0_1 : Int) (a0_2 : Int) (a0_3 : Int) (r1 : Int) (r2 : Int) (r3 : Int) (r4 : Int) (w : World) (h : laws_toPose.f a0_0 a0_1 a0_2 a0_3 = some (r1, r2, r3, r4)) :
    Calls Try.prog 10 #[.agg #[.int .i64 a0_0, .int .i64 a0_1, .int .i64 a0_2, .int .i64 a0_3]] w fun e w' => e = .returned (.agg #[.int .i64 r1, .int .i64 r2, .int .i64 r3, .int .i64 r4]) ∧ Below w.heap.size w w' := by
  have hu36 := Try.underlying36
  have hu25 := Try.underlying25
  have HB := Aside0.mk (Below.refl w.heap.size w)
  have H : (some (a0_0, a0_1, a0_2, a0_3)) = some (r1, r2, r3, r4) := h
  clear h
  simp only [Option.some.injEq, Prod.mk.injEq] at H
  obtain ⟨rfl, rfl, rfl, rfl⟩ := H
  go_enter Try.func10, Try.ntmps10
  go_wp2_with (first | ((with_reducible refine gate_dst (N := 1) rfl ?_); refine box_event ?hg (N := 1) ?hd (cs := #[.int .i64 a0_0, .int .i64 a0_1, .int .i64 a0_2, .int .i64 a0_3]) (t := 36) ?hr ?_; (case hd => rfl); (case hg => rfl); (case hr => first | (go_simp; done) | (go_simp; rfl)); intro gb360 hg w2 hbox hb; have n0_ := Aside0.mk (below_step (by repeat (first | (with_reducible first | exact HB.out | apply below_alloc | apply pw_below_drewN | apply below_drew1) | exact HB.out)) hb); have n1_ := Aside0.mk (hbox); have n2_ := Aside0.mk ((by rw [hg]; exact (below_size (by repeat (first | (with_reducible first | exact HB.out | apply below_alloc | apply pw_below_drewN | apply below_drew1) | exact HB.out))) : w.heap.size ≤ gb360)); have n3_ := Aside0.mk ((by rw [hg]; exact (below_size (by repeat (first | (with_reducible first | exact HB.out | apply below_alloc | apply pw_below_drewN | apply below_drew1) | exact HB.out))) : w.heap.size ≤ gb360)); clear HB; have HB := n0_; have BK360 := n1_; have GW360 := n2_; have GE360 := n3_; clear n0_ n1_ n2_ n3_; clear hb hbox hg) | ((with_reducible refine gate_dst (N := 2) rfl ?_); refine box_event ?hg (N := 2) ?hd (cs := #[.int .i64 0, .int .i64 0, .int .i64 0, .int .i64 0]) (t := 25) ?hr ?_; (case hd => rfl); (case hg => rfl); (case hr => first | (go_simp; done) | (go_simp; rfl)); intro gb361 hg w3 hbox hb; have n0_ := Aside0.mk (blk_below (g := gb360) (o := .cells #[.int .i64 a0_0, .int .i64 a0_1, .int .i64 a0_2, .int .i64 a0_3] 36 (0, 0)) (by (with_reducible repeat (first | refine blk_drewN ?_ _ | refine blk_drew ?_ | refine blk_alloc ?_ _)); exact BK360.out) hb); have n1_ := Aside0.mk (below_step (by repeat (first | (with_reducible first | exact HB.out | apply below_alloc | apply pw_below_drewN | apply below_drew1 | refine below_set ?_ GE360.out) | exact HB.out)) hb); have n2_ := Aside0.mk (hbox); have n3_ := Aside0.mk ((by rw [hg]; exact (below_size (by repeat (first | (with_reducible first | exact HB.out | apply below_alloc | apply pw_below_drewN | apply below_drew1 | refine below_set ?_ GE360.out) | exact HB.out))) : w.heap.size ≤ gb361)); have n4_ := Aside0.mk ((by rw [hg]; exact (below_size (by repeat (first | (with_reducible first | exact HB.out | apply below_alloc | apply pw_below_drewN | apply below_drew1 | refine below_set ?_ GE360.out) | exact HB.out))) : w.heap.size ≤ gb361)); have n5_ := Aside0.mk ((by rw [hg]; exact Nat.ne_of_lt (blk_lt (g := gb360) (o := .cells #[.int .i64 a0_0, .int .i64 a0_1, .int .i64 a0_2, .int .i64 a0_3] 36 (0, 0)) (by (with_reducible repeat (first | refine blk_drewN ?_ _ | refine blk_drew ?_ | refine blk_alloc ?_ _)); exact BK360.out)) : gb360 ≠ gb361)); have n6_ := Aside0.mk ((by rw [hg]; exact Nat.ne_of_gt (blk_lt (g := gb360) (o := .cells #[.int .i64 a0_0, .int .i64 a0_1, .int .i64 a0_2, .int .i64 a0_3] 36 (0, 0)) (by (with_reducible repeat (first | refine blk_drewN ?_ _ | refine blk_drew ?_ | refine blk_alloc ?_ _)); exact BK360.out)) : gb361 ≠ gb360)); clear BK360; clear HB; have BK360 := n0_; have HB := n1_; have BK361 := n2_; have GW361 := n3_; have GE361 := n4_; have NB360_361 := n5_; have NB361_360 := n6_; clear n0_ n1_ n2_ n3_ n4_ n5_ n6_; clear hb hbox hg) | ((with_reducible refine gate_dst (N := 3) rfl ?_); refine box_event ?hg (N := 3) ?hd (cs := #[.int .i64 0, .int .i64 0, .int .i64 0, .int .i64 0]) (t := 25) ?hr ?_; (case hd => rfl); (case hg => rfl); (case hr => first | (go_simp; done) | (go_simp; rfl)); intro gb362 hg w4 hbox hb; have n0_ := Aside0.mk (blk_below (g := gb360) (o := .cells #[.int .i64 a0_0, .int .i64 a0_1, .int .i64 a0_2, .int .i64 a0_3] 36 (0, 0)) (by (with_reducible repeat (first | refine blk_drewN ?_ _ | refine blk_drew ?_ | refine blk_alloc ?_ _)); exact BK360.out) hb); have n1_ := Aside0.mk (blk_below (g := gb361) (o := .cells #[.int .i64 0, .int .i64 0, .int .i64 0, .int .i64 0] 25 (0, 0)) (by (with_reducible repeat (first | refine blk_drewN ?_ _ | refine blk_drew ?_ | refine blk_alloc ?_ _)); exact BK361.out) hb); have n2_ := Aside0.mk (below_step (by repeat (first | (with_reducible first | exact HB.out | apply below_alloc | apply pw_below_drewN | apply below_drew1 | refine below_set ?_ GE360.out | refine below_set ?_ GE361.out) | exact HB.out)) hb); have n3_ := Aside0.mk (hbox); have n4_ := Aside0.mk ((by rw [hg]; exact (below_size (by repeat (first | (with_reducible first | exact HB.out | apply below_alloc | apply pw_below_drewN | apply below_drew1 | refine below_set ?_ GE360.out | refine below_set ?_ GE361.out) | exact HB.out))) : w.heap.size ≤ gb362)); have n5_ := Aside0.mk ((by rw [hg]; exact (below_size (by repeat (first | (with_reducible first | exact HB.out | apply below_alloc | apply pw_below_drewN | apply below_drew1 | refine below_set ?_ GE360.out | refine below_set ?_ GE361.out) | exact HB.out))) : w.heap.size ≤ gb362)); have n6_ := Aside0.mk ((by rw [hg]; exact Nat.ne_of_lt (blk_lt (g := gb360) (o := .cells #[.int .i64 a0_0, .int .i64 a0_1, .int .i64 a0_2, .int .i64 a0_3] 36 (0, 0)) (by (with_reducible repeat (first | refine blk_drewN ?_ _ | refine blk_drew ?_ | refine blk_alloc ?_ _)); exact BK360.out)) : gb360 ≠ gb362)); have n7_ := Aside0.mk ((by rw [hg]; exact Nat.ne_of_gt (blk_lt (g := gb360) (o := .cells #[.int .i64 a0_0, .int .i64 a0_1, .int .i64 a0_2, .int .i64 a0_3] 36 (0, 0)) (by (with_reducible repeat (first | refine blk_drewN ?_ _ | refine blk_drew ?_ | refine blk_alloc ?_ _)); exact BK360.out)) : gb362 ≠ gb360)); have n8_ := Aside0.mk ((by rw [hg]; exact Nat.ne_of_lt (blk_lt (g := gb361) (o := .cells #[.int .i64 0, .int .i64 0, .int .i64 0, .int .i64 0] 25 (0, 0)) (by (with_reducible repeat (first | refine blk_drewN ?_ _ | refine blk_drew ?_ | refine blk_alloc ?_ _)); exact BK361.out)) : gb361 ≠ gb362)); have n9_ := Aside0.mk ((by rw [hg]; exact Nat.ne_of_gt (blk_lt (g := gb361) (o := .cells #[.int .i64 0, .int .i64 0, .int .i64 0, .int .i64 0] 25 (0, 0)) (by (with_reducible repeat (first | refine blk_drewN ?_ _ | refine blk_drew ?_ | refine blk_alloc ?_ _)); exact BK361.out)) : gb362 ≠ gb361)); clear BK360; clear BK361; clear HB; have BK360 := n0_; have BK361 := n1_; have HB := n2_; have BK362 := n3_; have GW362 := n4_; have GE362 := n5_; have NB360_362 := n6_; have NB362_360 := n7_; have NB361_362 := n8_; have NB362_361 := n9_; clear n0_ n1_ n2_ n3_ n4_ n5_ n6_ n7_ n8_ n9_; clear hb hbox hg; have hnb5 := NB360_361.out; have hnc5 := NB361_360.out; have hnb6 := NB360_362.out; have hnc6 := NB362_360.out; have hcz7_0 : w4.cell? ⟨gb360, 0, none⟩ = some (.int .i64 a0_0) := (blk_cell BK360.out 0).trans rfl; have hcz7_1 : w4.cell? ⟨gb360, 1, none⟩ = some (.int .i64 a0_1) := (blk_cell BK360.out 1).trans rfl; have hcz7_2 : w4.cell? ⟨gb360, 2, none⟩ = some (.int .i64 a0_2) := (blk_cell BK360.out 2).trans rfl; have hcz7_3 : w4.cell? ⟨gb360, 3, none⟩ = some (.int .i64 a0_3) := (blk_cell BK360.out 3).trans rfl; have hfz7_0 := blk_frozen BK360.out 0; have hfz7_1 := blk_frozen BK360.out 1; have hfz7_2 := blk_frozen BK360.out 2; have hfz7_3 := blk_frozen BK360.out 3; have hnb8 := NB362_361.out; have hnc8 := NB361_362.out; have hcz9_0 : w4.cell? ⟨gb362, 0, none⟩ = some (.int .i64 0) := (blk_cell BK362.out 0).trans rfl; have hcz9_1 : w4.cell? ⟨gb362, 1, none⟩ = some (.int .i64 0) := (blk_cell BK362.out 1).trans rfl; have hcz9_2 : w4.cell? ⟨gb362, 2, none⟩ = some (.int .i64 0) := (blk_cell BK362.out 2).trans rfl; have hcz9_3 : w4.cell? ⟨gb362, 3, none⟩ = some (.int .i64 0) := (blk_cell BK362.out 3).trans rfl; have hfz9_0 := blk_frozen BK362.out 0; have hfz9_1 := blk_frozen BK362.out 1; have hfz9_2 := blk_frozen BK362.out 2; have hfz9_3 := blk_frozen BK362.out 3; have hcz10_0 : w4.cell? ⟨gb361, 0, none⟩ = some (.int .i64 0) := (blk_cell BK361.out 0).trans rfl; have hcz10_1 : w4.cell? ⟨gb361, 1, none⟩ = some (.int .i64 0) := (blk_cell BK361.out 1).trans rfl; have hcz10_2 : w4.cell? ⟨gb361, 2, none⟩ = some (.int .i64 0) := (blk_cell BK361.out 2).trans rfl; have hcz10_3 : w4.cell? ⟨gb361, 3, none⟩ = some (.int .i64 0) := (blk_cell BK361.out 3).trans rfl; have hfz10_0 := blk_frozen BK361.out 0; have hfz10_1 := blk_frozen BK361.out 1; have hfz10_2 := blk_frozen BK361.out 2; have hfz10_3 := blk_frozen BK361.out 3))
  refine bodyPost_ret (results_cell_row rfl _ _ gb361 25 #[.int .i64 a0_0, .int .i64 a0_1, .int .i64 a0_2, .int .i64 a0_3] (0, 0) _ rfl (by (with_reducible repeat (first | refine blk_drewN ?_ _ | refine blk_drew ?_ | refine blk_alloc ?_ _)); refine blk_put (cs := #[.int .i64 a0_0, .int .i64 a0_1, .int .i64 a0_2, .int .i64 0]) ?_ 3 _ rfl; (with_reducible repeat (first | refine blk_drewN ?_ _ | refine blk_drew ?_ | refine blk_alloc ?_ _)); refine blk_put (cs := #[.int .i64 a0_0, .int .i64 a0_1, .int .i64 0, .int .i64 0]) ?_ 2 _ rfl; (with_reducible repeat (first | refine blk_drewN ?_ _ | refine blk_drew ?_ | refine blk_alloc ?_ _)); refine blk_put (cs := #[.int .i64 a0_0, .int .i64 0, .int .i64 0, .int .i64 0]) ?_ 1 _ rfl; (with_reducible repeat (first | refine blk_drewN ?_ _ | refine blk_drew ?_ | refine blk_alloc ?_ _)); refine blk_put (cs := #[.int .i64 0, .int .i64 0, .int .i64 0, .int .i64 0]) ?_ 0 _ rfl; (with_reducible repeat (first | refine blk_drewN ?_ _ | refine blk_drew ?_ | refine blk_alloc ?_ _)); refine blk_far ?_ NB361_362.out _; (with_reducible repeat (first | refine blk_drewN ?_ _ | refine blk_drew ?_ | refine blk_alloc ?_ _)); refine blk_far ?_ NB361_362.out _; (with_reducible repeat (first | refine blk_drewN ?_ _ | refine blk_drew ?_ | refine blk_alloc ?_ _)); refine blk_far ?_ NB361_362.out _; (with_reducible repeat (first | refine blk_drewN ?_ _ | refine blk_drew ?_ | refine blk_alloc ?_ _)); refine blk_far ?_ NB361_362.out _; (with_reducible repeat (first | refine blk_drewN ?_ _ | refine blk_drew ?_ | refine blk_alloc ?_ _)); exact BK361.out) Try.underlying25 rfl (by kernel_rfl)) rfl ?_
  exact ⟨by first | rfl | (simp [errW_none, errW_some] <;> rfl) | (simp [*, errW_none, errW_some] <;> rfl), by repeat (first | (with_reducible first | exact HB.out | apply below_alloc | apply pw_below_drewN | apply below_drew1 | refine below_set ?_ GE360.out | refine below_set ?_ GE361.out | refine below_set ?_ GE362.out) | exact HB.out)⟩

/-! ### laws_toInt64S: function 11 -/
def laws_toInt64S.l0 : Nat → List Int → List Int → Int → Option (List Int)
  | 0, _, _, _ => none
  | k + 1, x0, x3, x4 => if x4 < (x0.length : Int) then (if 0 ≤ x4 then (if x4 < (x3.length : Int) then (laws_toInt64S.l0 k x0 (x3.set (x4 : Int).toNat (rd x0 x4)) (wrap64 (x4 + 1))) else (none)) else (none)) else (some x3)
def laws_toInt64S.f (k : Nat) (l0 : List Int) : Option (List Int) := if 0 ≤ (l0.length : Int) then (if ((l0.length : Int) : Int).toNat ≤ 35184372088832 then (laws_toInt64S.l0 k l0 (List.replicate ((l0.length : Int) : Int).toNat 0) 0) else (none)) else (none)
theorem laws_toInt64S.mono_l : ∀ k, (∀ y0 y1 y2, LeO (laws_toInt64S.l0 k y0 y1 y2) (laws_toInt64S.l0 (k + 1) y0 y1 y2))
  | 0 => fun _ _ _ r h => by simp [laws_toInt64S.l0] at h
  | k + 1 => by
    have ih0 := laws_toInt64S.mono_l k
    · intro y0 y1 y2
      unfold laws_toInt64S.l0
      repeat' first
      | (with_reducible exact ih0 _ _ _)
      | (with_reducible exact LeO.refl _)
      | (with_reducible exact LeO.none _)
      | (with_reducible refine LeO.ite ?_ ?_)
      | (with_reducible refine LeO.bind ?_ (fun _ => ?_))
      | exact ih0 _ _ _
      | exact LeO.none _
      | refine LeO.ite ?_ ?_
      | refine LeO.bind ?_ (fun _ => ?_)
theorem laws_toInt64S.mono : ∀ a0 k, LeO (laws_toInt64S.f k a0) (laws_toInt64S.f (k + 1) a0) := by
  intro a0 k
  have ih0 := laws_toInt64S.mono_l k
  unfold laws_toInt64S.f
  repeat' first
      | (with_reducible exact ih0 _ _ _)
      | (with_reducible exact LeO.refl _)
      | (with_reducible exact LeO.none _)
      | (with_reducible refine LeO.ite ?_ ?_)
      | (with_reducible refine LeO.bind ?_ (fun _ => ?_))
      | exact ih0 _ _ _
      | exact LeO.none _
      | refine LeO.ite ?_ ?_
      | refine LeO.bind ?_ (fun _ => ?_)
set_option maxHeartbeats 8000000 in
set_option maxRecDepth 100000 in
theorem laws_toInt64S.calls (k : Nat) (A0 : Option Addr) (c0 : Nat) (l0 : List Int) (r : List Int) (w : World) (hr0 : Kd.C (Kd.int .i64) w A0 l0.length l0) (hc0 : l0.length ≤ c0) (h : laws_toInt64S.f k l0 = some r) :
    Calls Try.prog 11 #[.slice A0 l0.length c0] w fun e w' => ∃ v0_ : Value, e = .returned (v0_) ∧ Kd.R (Kd.int .i64) 2 w' w.heap.size (fun _ => True) v0_ r ∧ Below w.heap.size w w' := by
  have HR0 := Aside0.mk hr0
  have HC0 := Aside0.mk hc0
  clear hr0 hc0
  have HB := Aside0.mk (Below.refl w.heap.size w)
  have H : (if 0 ≤ (l0.length : Int) then (if ((l0.length : Int) : Int).toNat ≤ 35184372088832 then (laws_toInt64S.l0 k l0 (List.replicate ((l0.length : Int) : Int).toNat 0) 0) else (none)) else (none)) = some r := h
  clear h
  by_cases c2 : 0 ≤ (l0.length : Int)
  · rw [if_pos c2] at H
    have c2b0 := eq_true c2
    have c2b1 : decide (0 ≤ (l0.length : Int)) = true := decide_eq_true c2
    clear c2
    by_cases c3 : ((l0.length : Int) : Int).toNat ≤ 35184372088832
    · rw [if_pos c3] at H
      have c3b0 := eq_true c3
      have c3b1 : decide (((l0.length : Int) : Int).toNat ≤ 35184372088832) = true := decide_eq_true c3
      clear c3
      obtain ⟨y363, hy363⟩ : ∃ y_ : List Int, y_ = (List.replicate ((l0.length : Int) : Int).toNat 0) := ⟨_, rfl⟩
      replace H : (laws_toInt64S.l0 k l0 y363 0) = some r := by first | (rw [hy363]; with_reducible exact H) | (have H2_ := (Option.bind_some _ _).symm.trans H; rw [hy363]; with_reducible exact H2_) | (have H2_ := (Option.bind_some _ _).symm.trans H; with_reducible exact H2_) | with_reducible exact H | (rw [hy363]; exact H) | exact H
      have Ny363 := Aside0.mk hy363
      clear hy363
      have H' := Aside0.mk H
      clear H
      go_enter Try.func11, Try.ntmps11
      go_wp2_with (first | ((with_reducible refine gate_dst (N := 7) rfl ?_); refine Kd.R_make (Kd.int .i64) _ 2 rfl (N := 7) rfl 33 _ _ rfl (l0.length : Int) rfl rfl Try.underlying33 (.int .i64 0) 8 info2 rfl (by decide) (by omega) 0 (ok := fun _ => True) (okp := fun _ => True) rfl (fun _ hk => hk) trivial (of_decide_eq_true (by first | (with_reducible assumption) | assumption)) (Nat.le_trans (Nat.mul_le_mul_right _ (of_decide_eq_true (by first | (with_reducible assumption) | assumption) : (l0.length : Int).toNat ≤ 35184372088832)) (by omega)) (Below.refl _ _) (Nat.le_refl _) ?_; intro v364 w4 ho5 hb hg_ hnew_; clear hg_ hnew_; (first | rw [← Ny363.out] at ho5 | (simp only [Int.reduceToNat] at ho5; rw [← Ny363.out] at ho5)); have n0_ := Aside0.mk (Kd.R_lower ho5 (below_size (by repeat (first | (with_reducible first | exact HB.out | apply below_alloc | apply pw_below_drewN | apply below_drew1) | exact HB.out)))); have n1_ := Aside0.mk (below_step (by repeat (first | (with_reducible first | exact HB.out | apply below_alloc | apply pw_below_drewN | apply below_drew1) | exact HB.out)) hb); clear HB; have HO365 := n0_; have HB := n1_; clear n0_ n1_; clear hb ho5))
      go_loopg [4] k (fun kq v4 w' => ∃ (x3_1 : List Int) (x4_1 : Int), v4 = .int .i64 x4_1 ∧ Aside0 (laws_toInt64S.l0 kq l0 x3_1 x4_1 = some r) ∧ Aside0 (kq ≤ k) ∧ Aside0 (Kd.R (Kd.int .i64) 2 w' w.heap.size (fun _ => True) v364 x3_1) ∧ Aside0 (Below w.heap.size w w'))
      case atStart => exact ⟨(y363), (0), (by first | rfl | (simp; done) | (simp [*]; done)), H', ⟨Nat.le_refl _⟩, ⟨by (with_reducible repeat (first | apply Kd.R_alloc | apply Kd.R_drewN | apply Kd.R_drew)); exact HO365.out⟩, ⟨by repeat (first | (with_reducible first | exact HB.out | apply below_alloc | apply pw_below_drewN | apply below_drew1) | exact HB.out)⟩⟩
      case round =>
        clear H'
        try clear c1
        try clear c2
        try clear c2b0
        try clear c2b1
        try clear p2
        try clear c3
        try clear c3b0
        try clear c3b1
        obtain ⟨x3_1, x4_1, rfl, HA, HK1, HO_3, HB⟩ := hrel
        cases gk with
        | zero => exact absurd HA.out (by simp [laws_toInt64S.l0])
        | succ k1 =>
          have H := HA.out
          clear HA
          simp only [laws_toInt64S.l0] at H
          by_cases c6 : x4_1 < (l0.length : Int)
          · rw [if_pos c6] at H
            have c6b0 : decide (x4_1 < (l0.length : Int)) = true := decide_eq_true c6
            clear c6
            by_cases c7 : 0 ≤ x4_1
            · rw [if_pos c7] at H
              have c7b0 : decide (0 ≤ x4_1) = true := decide_eq_true c7
              clear c7
              by_cases c8 : x4_1 < (x3_1.length : Int)
              · rw [if_pos c8] at H
                have c8b0 : decide (x4_1 < (x3_1.length : Int)) = true := decide_eq_true c8
                clear c8
                obtain ⟨y367, hy367⟩ : ∃ y_ : List Int, y_ = (x3_1.set (x4_1 : Int).toNat (rd l0 x4_1)) := ⟨_, rfl⟩
                replace H : (laws_toInt64S.l0 k1 l0 y367 (wrap64 (x4_1 + 1))) = some r := by first | (rw [hy367]; with_reducible exact H) | (have H2_ := (Option.bind_some _ _).symm.trans H; rw [hy367]; with_reducible exact H2_) | (have H2_ := (Option.bind_some _ _).symm.trans H; with_reducible exact H2_) | with_reducible exact H | (rw [hy367]; exact H) | exact H
                have Ny367 := Aside0.mk hy367
                clear hy367
                have H' := Aside0.mk H
                clear H
                have p366 : 0 ≤ (x4_1 : Int) := of_decide_eq_true (by first | (with_reducible assumption) | assumption)
                have q366 : x4_1 < (l0.length : Int) := of_decide_eq_true (by first | (with_reducible assumption) | assumption)
                obtain ⟨ad366, e366, hx366_0⟩ := Kd.at_int HR0.out x4_1 p366 q366
                cases e366
                replace hx366_0 := (HB.out.cell (World.block_lt_of_cell? w _ hx366_0)).trans hx366_0
                replace p366 := eq_true p366
                replace q366 := eq_true q366
                have p9 : 0 ≤ (x4_1 : Int) := of_decide_eq_true (by first | (with_reducible assumption) | assumption)
                have q9 : (x4_1 : Int) < ((x3_1.length : Int) : Int) := of_decide_eq_true (by first | (with_reducible assumption) | assumption)
                obtain ⟨go9, co9, eo9, gb9, gl9, cl9, HG9⟩ := Kd.R_form HO_3.out (by omega)
                (first | cases eo9 | (injection eo9 with ea_ en_ ec_; (first | subst ea_ | (injection ea_ with ea_; subst ea_)); subst ec_; clear en_))
                have GB9 := Aside0.mk gb9
                have GG9 := Aside0.mk HG9
                clear gb9 gl9 HG9
                obtain ⟨hx9_0, hf9_0⟩ := Kd.R_celln 0 HO_3.out (x4_1 : Int) p9 q9
                replace p9 := eq_true p9
                replace q9 := eq_true q9
                have HP10 := Kd.R_putg HO_3.out (x4_1 : Int) (rd l0 x4_1)
                go_wp2_with (first | ((with_reducible refine gate_store (t := 2) (p := 20) rfl ?_); refine store_event (t := 2) (p := 20) (v := ?vo_w11) (w1 := (wr.setCell ⟨go9, (x4_1 : Int).toNat, none⟩ (.int .i64 (rd l0 x4_1)))) ?hg ?ho ?hn ?hr ?_; (case ho => rfl); (case hg => rfl); (case hn => rfl); (case hr => first | (go_simp; done) | (go_simp; rfl)); intro w11 hw; have hg : wr.grownBy w11 (some go9) := (by rw [hw]; exact HP10.2); have hp_ : Kd.R (Kd.int .i64) 2 w11 w.heap.size (fun _ => True) (.slice (some ⟨go9, 0, none⟩) x3_1.length co9) y367 := (by rw [hw, Ny367.out]; exact HP10.1); clear HP10; have n0_ := Aside0.mk (hp_); have n1_ := Aside0.mk ((by rw [hw]; exact below_set (HB.out) GB9.out : Below w.heap.size w w11)); clear HO_3; clear HB; have HO_3 := n0_; have HB := n1_; clear n0_ n1_; clear hg hw hp_))
                go_roundg k1
                case measure => have := HK1.out; omega
                case rel => exact ⟨(y367), (wrap64 (x4_1 + 1)), (by first | rfl | (simp; done) | (simp [*]; done)), H', ⟨by have := HK1.out; omega⟩, ⟨by (with_reducible repeat (first | apply Kd.R_alloc | apply Kd.R_drewN | apply Kd.R_drew)); exact HO_3.out⟩, ⟨by repeat (first | (with_reducible first | exact HB.out | apply below_alloc | apply pw_below_drewN | apply below_drew1) | exact HB.out)⟩⟩
              · rw [if_neg c8] at H
                exact absurd H (by simp)
            · rw [if_neg c7] at H
              exact absurd H (by simp)
          · rw [if_neg c6] at H
            have c6b0 : decide (x4_1 < (l0.length : Int)) = false := decide_eq_false c6
            clear c6
            obtain rfl := Option.some.inj H
            go_wp2
            go_ret
            exact ⟨_, by first | rfl | (simp [errW_none, errW_some] <;> rfl) | (simp [*, errW_none, errW_some] <;> rfl), by (with_reducible repeat (first | apply Kd.R_alloc | apply Kd.R_drewN | apply Kd.R_drew)); exact HO_3.out, by repeat (first | (with_reducible first | exact HB.out | apply below_alloc | apply pw_below_drewN | apply below_drew1) | exact HB.out)⟩
    · rw [if_neg c3] at H
      exact absurd H (by simp)
  · rw [if_neg c2] at H
    exact absurd H (by simp)

/-! ### impl_offset: function 43 -/
def impl_offset.f (a0 : Int) (a1 : Int) (a2 : Int) : Option (Int) := some (wrap64 ((wrap64 (a0 - a1)) + (wrap64 (2 * a2))))
set_option maxHeartbeats 8000000 in
set_option maxRecDepth 100000 in
theorem impl_offset.calls (a0 : Int) (a1 : Int) (a2 : Int) (r : Int) (w : World) (h : impl_offset.f a0 a1 a2 = some r) :
    Calls Try.prog 43 #[.int .i64 a0, .int .i64 a1, .int .i64 a2] w fun e w' => e = .returned (.int .i64 r) ∧ Drawn0 w w' := by
  have H : (some (wrap64 ((wrap64 (a0 - a1)) + (wrap64 (2 * a2))))) = some r := h
  clear h
  obtain rfl := Option.some.inj H
  go_enter Try.func43, Try.ntmps43
  go_wp2
  go_ret
  exact ⟨by first | rfl | (simp; done) | (simp [*]; done), by repeat (first | exact Drawn0.refl _ | apply Drawn0.step)⟩

/-! ### impl_Machine_gaps: function 29 -/
def impl_Machine_gaps.f (a0_0 : Int) (a0_1 : Int) (a0_2 : Int) (a0_3 : Int) (a0_4 : Int) (a0_5 : Int) (a0_6 : Int) (a0_7 : Int) (a0_8 : Int) : Option (List Int) := (impl_offset.f a0_4 a0_0 a0_2).bind fun t369 => ((impl_offset.f a0_5 a0_1 a0_3).bind fun t370 => (some (([wrap64 (40 - t369), wrap64 (40 - t370), wrap64 (40 + t369), wrap64 (40 + t370)] : List Int))))
set_option maxHeartbeats 8000000 in
set_option maxRecDepth 100000 in
theorem impl_Machine_gaps.calls (a0_0 : Int) (a0_1 : Int) (a0_2 : Int) (a0_3 : Int) (a0_4 : Int) (a0_5 : Int) (a0_6 : Int) (a0_7 : Int) (a0_8 : Int) (r : List Int) (w : World) (h : impl_Machine_gaps.f a0_0 a0_1 a0_2 a0_3 a0_4 a0_5 a0_6 a0_7 a0_8 = some r) :
    Calls Try.prog 29 #[.agg #[.int .i64 a0_0, .int .i64 a0_1, .int .i64 a0_2, .int .i64 a0_3, .int .i64 a0_4, .int .i64 a0_5, .int .i64 a0_6, .int .i64 a0_7, .int .i64 a0_8]] w fun e w' => ∃ v0_ : Value, e = .returned (v0_) ∧ Kd.R (Kd.int .i64) 2 w' w.heap.size (fun _ => True) v0_ r ∧ Below w.heap.size w w' := by
  have hu38 := Try.underlying38
  have HB := Aside0.mk (Below.refl w.heap.size w)
  have H : ((impl_offset.f a0_4 a0_0 a0_2).bind fun t369 => ((impl_offset.f a0_5 a0_1 a0_3).bind fun t370 => (some (([wrap64 (40 - t369), wrap64 (40 - t370), wrap64 (40 + t369), wrap64 (40 + t370)] : List Int))))) = some r := h
  clear h
  replace H := Option.bind_eq_some_iff.mp H
  obtain ⟨t369, A20, H⟩ := H
  replace H : ((impl_offset.f a0_5 a0_1 a0_3).bind fun t370 => (some (([wrap64 (40 - t369), wrap64 (40 - t370), wrap64 (40 + t369), wrap64 (40 + t370)] : List Int)))) = some r := H
  have A2 := Aside0.mk A20
  clear A20
  replace H := Option.bind_eq_some_iff.mp H
  obtain ⟨t370, A30, H⟩ := H
  replace H : (some (([wrap64 (40 - t369), wrap64 (40 - t370), wrap64 (40 + t369), wrap64 (40 + t370)] : List Int))) = some r := H
  have A3 := Aside0.mk A30
  clear A30
  obtain ⟨y371, hy371⟩ : ∃ y_ : List Int, y_ = (([wrap64 (40 - t369), wrap64 (40 - t370), wrap64 (40 + t369), wrap64 (40 + t370)] : List Int)) := ⟨_, rfl⟩
  replace H : (some y371) = some r := by first | (rw [hy371]; with_reducible exact H) | (have H2_ := (Option.bind_some _ _).symm.trans H; rw [hy371]; with_reducible exact H2_) | (have H2_ := (Option.bind_some _ _).symm.trans H; with_reducible exact H2_) | with_reducible exact H | (rw [hy371]; exact H) | exact H
  have Ny371 := Aside0.mk hy371
  clear hy371
  obtain rfl := Option.some.inj H
  go_enter Try.func29, Try.ntmps29
  go_wp2_with (first | ((with_reducible refine gate_dst (N := 1) rfl ?_); refine box_event ?hg (N := 1) ?hd (cs := #[.int .i64 a0_0, .int .i64 a0_1, .int .i64 a0_2, .int .i64 a0_3, .int .i64 a0_4, .int .i64 a0_5, .int .i64 a0_6, .int .i64 a0_7, .int .i64 a0_8]) (t := 38) ?hr ?_; (case hd => rfl); (case hg => rfl); (case hr => first | (go_simp; done) | (go_simp; rfl)); intro gb368 hg w4 hbox hb; have n0_ := Aside0.mk (below_step (by repeat (first | (with_reducible first | exact HB.out | apply below_alloc | apply pw_below_drewN | apply below_drew1) | exact HB.out)) hb); have n1_ := Aside0.mk (hbox); have n2_ := Aside0.mk ((by rw [hg]; exact (below_size (by repeat (first | (with_reducible first | exact HB.out | apply below_alloc | apply pw_below_drewN | apply below_drew1) | exact HB.out))) : w.heap.size ≤ gb368)); have n3_ := Aside0.mk ((by rw [hg]; exact (below_size (by repeat (first | (with_reducible first | exact HB.out | apply below_alloc | apply pw_below_drewN | apply below_drew1) | exact HB.out))) : w.heap.size ≤ gb368)); clear HB; have HB := n0_; have BK368 := n1_; have GW368 := n2_; have GE368 := n3_; clear n0_ n1_ n2_ n3_; clear hb hbox hg; have hcz5_0 : w4.cell? ⟨gb368, 0, none⟩ = some (.int .i64 a0_0) := (blk_cell BK368.out 0).trans rfl; have hcz5_1 : w4.cell? ⟨gb368, 1, none⟩ = some (.int .i64 a0_1) := (blk_cell BK368.out 1).trans rfl; have hcz5_2 : w4.cell? ⟨gb368, 2, none⟩ = some (.int .i64 a0_2) := (blk_cell BK368.out 2).trans rfl; have hcz5_3 : w4.cell? ⟨gb368, 3, none⟩ = some (.int .i64 a0_3) := (blk_cell BK368.out 3).trans rfl; have hcz5_4 : w4.cell? ⟨gb368, 4, none⟩ = some (.int .i64 a0_4) := (blk_cell BK368.out 4).trans rfl; have hcz5_5 : w4.cell? ⟨gb368, 5, none⟩ = some (.int .i64 a0_5) := (blk_cell BK368.out 5).trans rfl; have hcz5_6 : w4.cell? ⟨gb368, 6, none⟩ = some (.int .i64 a0_6) := (blk_cell BK368.out 6).trans rfl; have hcz5_7 : w4.cell? ⟨gb368, 7, none⟩ = some (.int .i64 a0_7) := (blk_cell BK368.out 7).trans rfl; have hcz5_8 : w4.cell? ⟨gb368, 8, none⟩ = some (.int .i64 a0_8) := (blk_cell BK368.out 8).trans rfl; have hfz5_0 := blk_frozen BK368.out 0; have hfz5_1 := blk_frozen BK368.out 1; have hfz5_2 := blk_frozen BK368.out 2; have hfz5_3 := blk_frozen BK368.out 3; have hfz5_4 := blk_frozen BK368.out 4; have hfz5_5 := blk_frozen BK368.out 5; have hfz5_6 := blk_frozen BK368.out 6; have hfz5_7 := blk_frozen BK368.out 7; have hfz5_8 := blk_frozen BK368.out 8) | ((with_reducible refine gate_callee (f := 43) rfl ?_); refine goesL_ (some 14) rfl rfl Try.func43 (by kernel_rfl) rfl #[.int .i64 a0_4, .int .i64 a0_0, .int .i64 a0_2] rfl (by (try simp only [List.map_toArray, List.map_cons, List.map_nil]); first | done | rfl | (simp only [List.length_drop, List.length_take]; rfl)) ?_; (with_reducible refine (impl_offset.calls a0_4 a0_0 a0_2 t369 _ A2.out).mono ?_); rintro e w' ⟨rfl, ⟨nd, rfl⟩⟩; refine ⟨_, rfl, ?_⟩) | ((with_reducible refine gate_callee (f := 43) rfl ?_); refine goesL_ (some 24) rfl rfl Try.func43 (by kernel_rfl) rfl #[.int .i64 a0_5, .int .i64 a0_1, .int .i64 a0_3] rfl (by (try simp only [List.map_toArray, List.map_cons, List.map_nil]); first | done | rfl | (simp only [List.length_drop, List.length_take]; rfl)) ?_; (with_reducible refine (impl_offset.calls a0_5 a0_1 a0_3 t370 _ A3.out).mono ?_); rintro e w' ⟨rfl, ⟨nd, rfl⟩⟩; refine ⟨_, rfl, ?_⟩) | ((with_reducible refine gate_dst (N := 33) rfl ?_); refine Kd.R_lit (Kd.int .i64) _ 2 ?hg (N := 33) ?hd (xs := ([wrap64 (40 - t369), wrap64 (40 - t370), wrap64 (40 + t369), wrap64 (40 + t370)] : List Int)) (inner := [.int .i64 (wrap64 (40 - t369)), .int .i64 (wrap64 (40 - t370)), .int .i64 (wrap64 (40 + t369)), .int .i64 (wrap64 (40 + t370))]) (ok := fun _ => True) (okp := fun _ => True) ?hr ?hp (fun _ hk => hk) trivial (Below.refl _ _) (Nat.le_refl _) (by simp) ?_; (case hd => rfl); (case hg => rfl); (case hr => first | (go_simp; done) | (go_simp; rfl)); (case hp => exact (Reps.one (show Kd.M (Kd.int .i64) _ _ _ (wrap64 (40 - t369)) [.int .i64 (wrap64 (40 - t369))] from rfl) (Reps.one (show Kd.M (Kd.int .i64) _ _ _ (wrap64 (40 - t370)) [.int .i64 (wrap64 (40 - t370))] from rfl) (Reps.one (show Kd.M (Kd.int .i64) _ _ _ (wrap64 (40 + t369)) [.int .i64 (wrap64 (40 + t369))] from rfl) (Reps.one (show Kd.M (Kd.int .i64) _ _ _ (wrap64 (40 + t370)) [.int .i64 (wrap64 (40 + t370))] from rfl) (Reps.none _ _)))))); intro v372 w6 ho7 hb hg_ hnew_; clear hg_ hnew_; (first | rw [← Ny371.out] at ho7 | (simp only [Int.reduceToNat] at ho7; rw [← Ny371.out] at ho7)); have n0_ := Aside0.mk (Kd.R_lower ho7 (below_size (by repeat (first | (with_reducible first | exact HB.out | apply below_alloc | apply pw_below_drewN | apply below_drew1 | refine below_set ?_ GE368.out) | exact HB.out)))); have n1_ := Aside0.mk (blk_below (g := gb368) (o := .cells #[.int .i64 a0_0, .int .i64 a0_1, .int .i64 a0_2, .int .i64 a0_3, .int .i64 a0_4, .int .i64 a0_5, .int .i64 a0_6, .int .i64 a0_7, .int .i64 a0_8] 38 (0, 0)) (by (with_reducible repeat (first | refine blk_drewN ?_ _ | refine blk_drew ?_ | refine blk_alloc ?_ _)); exact BK368.out) hb); have n2_ := Aside0.mk (below_step (by repeat (first | (with_reducible first | exact HB.out | apply below_alloc | apply pw_below_drewN | apply below_drew1 | refine below_set ?_ GE368.out) | exact HB.out)) hb); clear BK368; clear HB; have HO373 := n0_; have BK368 := n1_; have HB := n2_; clear n0_ n1_ n2_; clear hb ho7))
  go_ret
  exact ⟨_, by first | rfl | (simp [errW_none, errW_some] <;> rfl) | (simp [*, errW_none, errW_some] <;> rfl), by (with_reducible repeat (first | apply Kd.R_alloc | apply Kd.R_drewN | apply Kd.R_drew)); exact HO373.out, by repeat (first | (with_reducible first | exact HB.out | apply below_alloc | apply pw_below_drewN | apply below_drew1 | refine below_set ?_ GE368.out) | exact HB.out)⟩

/-! ### impl_Machine_strokes: function 30 -/
def impl_Machine_strokes.f (a0_0 : Int) (a0_1 : Int) (a0_2 : Int) (a0_3 : Int) (a0_4 : Int) (a0_5 : Int) (a0_6 : Int) (a0_7 : Int) (a0_8 : Int) : Option (List Int) := some (([wrap64 (a0_8 - (wrap64 (2 * (wrap64 (a0_2 - a0_6))))), wrap64 (a0_8 - (wrap64 (2 * (wrap64 (a0_3 - a0_7))))), wrap64 (a0_8 + (wrap64 (2 * (wrap64 (a0_2 - a0_6))))), wrap64 (a0_8 + (wrap64 (2 * (wrap64 (a0_3 - a0_7)))))] : List Int))
set_option maxHeartbeats 8000000 in
set_option maxRecDepth 100000 in
theorem impl_Machine_strokes.calls (a0_0 : Int) (a0_1 : Int) (a0_2 : Int) (a0_3 : Int) (a0_4 : Int) (a0_5 : Int) (a0_6 : Int) (a0_7 : Int) (a0_8 : Int) (r : List Int) (w : World) (h : impl_Machine_strokes.f a0_0 a0_1 a0_2 a0_3 a0_4 a0_5 a0_6 a0_7 a0_8 = some r) :
    Calls Try.prog 30 #[.agg #[.int .i64 a0_0, .int .i64 a0_1, .int .i64 a0_2, .int .i64 a0_3, .int .i64 a0_4, .int .i64 a0_5, .int .i64 a0_6, .int .i64 a0_7, .int .i64 a0_8]] w fun e w' => ∃ v0_ : Value, e = .returned (v0_) ∧ Kd.R (Kd.int .i64) 2 w' w.heap.size (fun _ => True) v0_ r ∧ Below w.heap.size w w' := by
  have hu38 := Try.underlying38
  have HB := Aside0.mk (Below.refl w.heap.size w)
  have H : (some (([wrap64 (a0_8 - (wrap64 (2 * (wrap64 (a0_2 - a0_6))))), wrap64 (a0_8 - (wrap64 (2 * (wrap64 (a0_3 - a0_7))))), wrap64 (a0_8 + (wrap64 (2 * (wrap64 (a0_2 - a0_6))))), wrap64 (a0_8 + (wrap64 (2 * (wrap64 (a0_3 - a0_7)))))] : List Int))) = some r := h
  clear h
  obtain ⟨y375, hy375⟩ : ∃ y_ : List Int, y_ = (([wrap64 (a0_8 - (wrap64 (2 * (wrap64 (a0_2 - a0_6))))), wrap64 (a0_8 - (wrap64 (2 * (wrap64 (a0_3 - a0_7))))), wrap64 (a0_8 + (wrap64 (2 * (wrap64 (a0_2 - a0_6))))), wrap64 (a0_8 + (wrap64 (2 * (wrap64 (a0_3 - a0_7)))))] : List Int)) := ⟨_, rfl⟩
  replace H : (some y375) = some r := by first | (rw [hy375]; with_reducible exact H) | (have H2_ := (Option.bind_some _ _).symm.trans H; rw [hy375]; with_reducible exact H2_) | (have H2_ := (Option.bind_some _ _).symm.trans H; with_reducible exact H2_) | with_reducible exact H | (rw [hy375]; exact H) | exact H
  have Ny375 := Aside0.mk hy375
  clear hy375
  obtain rfl := Option.some.inj H
  go_enter Try.func30, Try.ntmps30
  go_wp2_with (first | ((with_reducible refine gate_dst (N := 1) rfl ?_); refine box_event ?hg (N := 1) ?hd (cs := #[.int .i64 a0_0, .int .i64 a0_1, .int .i64 a0_2, .int .i64 a0_3, .int .i64 a0_4, .int .i64 a0_5, .int .i64 a0_6, .int .i64 a0_7, .int .i64 a0_8]) (t := 38) ?hr ?_; (case hd => rfl); (case hg => rfl); (case hr => first | (go_simp; done) | (go_simp; rfl)); intro gb374 hg w2 hbox hb; have n0_ := Aside0.mk (below_step (by repeat (first | (with_reducible first | exact HB.out | apply below_alloc | apply pw_below_drewN | apply below_drew1) | exact HB.out)) hb); have n1_ := Aside0.mk (hbox); have n2_ := Aside0.mk ((by rw [hg]; exact (below_size (by repeat (first | (with_reducible first | exact HB.out | apply below_alloc | apply pw_below_drewN | apply below_drew1) | exact HB.out))) : w.heap.size ≤ gb374)); have n3_ := Aside0.mk ((by rw [hg]; exact (below_size (by repeat (first | (with_reducible first | exact HB.out | apply below_alloc | apply pw_below_drewN | apply below_drew1) | exact HB.out))) : w.heap.size ≤ gb374)); clear HB; have HB := n0_; have BK374 := n1_; have GW374 := n2_; have GE374 := n3_; clear n0_ n1_ n2_ n3_; clear hb hbox hg; have hcz3_0 : w2.cell? ⟨gb374, 0, none⟩ = some (.int .i64 a0_0) := (blk_cell BK374.out 0).trans rfl; have hcz3_1 : w2.cell? ⟨gb374, 1, none⟩ = some (.int .i64 a0_1) := (blk_cell BK374.out 1).trans rfl; have hcz3_2 : w2.cell? ⟨gb374, 2, none⟩ = some (.int .i64 a0_2) := (blk_cell BK374.out 2).trans rfl; have hcz3_3 : w2.cell? ⟨gb374, 3, none⟩ = some (.int .i64 a0_3) := (blk_cell BK374.out 3).trans rfl; have hcz3_4 : w2.cell? ⟨gb374, 4, none⟩ = some (.int .i64 a0_4) := (blk_cell BK374.out 4).trans rfl; have hcz3_5 : w2.cell? ⟨gb374, 5, none⟩ = some (.int .i64 a0_5) := (blk_cell BK374.out 5).trans rfl; have hcz3_6 : w2.cell? ⟨gb374, 6, none⟩ = some (.int .i64 a0_6) := (blk_cell BK374.out 6).trans rfl; have hcz3_7 : w2.cell? ⟨gb374, 7, none⟩ = some (.int .i64 a0_7) := (blk_cell BK374.out 7).trans rfl; have hcz3_8 : w2.cell? ⟨gb374, 8, none⟩ = some (.int .i64 a0_8) := (blk_cell BK374.out 8).trans rfl; have hfz3_0 := blk_frozen BK374.out 0; have hfz3_1 := blk_frozen BK374.out 1; have hfz3_2 := blk_frozen BK374.out 2; have hfz3_3 := blk_frozen BK374.out 3; have hfz3_4 := blk_frozen BK374.out 4; have hfz3_5 := blk_frozen BK374.out 5; have hfz3_6 := blk_frozen BK374.out 6; have hfz3_7 := blk_frozen BK374.out 7; have hfz3_8 := blk_frozen BK374.out 8) | ((with_reducible refine gate_dst (N := 37) rfl ?_); refine Kd.R_lit (Kd.int .i64) _ 2 ?hg (N := 37) ?hd (xs := ([wrap64 (a0_8 - (wrap64 (2 * (wrap64 (a0_2 - a0_6))))), wrap64 (a0_8 - (wrap64 (2 * (wrap64 (a0_3 - a0_7))))), wrap64 (a0_8 + (wrap64 (2 * (wrap64 (a0_2 - a0_6))))), wrap64 (a0_8 + (wrap64 (2 * (wrap64 (a0_3 - a0_7)))))] : List Int)) (inner := [.int .i64 (wrap64 (a0_8 - (wrap64 (2 * (wrap64 (a0_2 - a0_6)))))), .int .i64 (wrap64 (a0_8 - (wrap64 (2 * (wrap64 (a0_3 - a0_7)))))), .int .i64 (wrap64 (a0_8 + (wrap64 (2 * (wrap64 (a0_2 - a0_6)))))), .int .i64 (wrap64 (a0_8 + (wrap64 (2 * (wrap64 (a0_3 - a0_7))))))]) (ok := fun _ => True) (okp := fun _ => True) ?hr ?hp (fun _ hk => hk) trivial (Below.refl _ _) (Nat.le_refl _) (by simp) ?_; (case hd => rfl); (case hg => rfl); (case hr => first | (go_simp; done) | (go_simp; rfl)); (case hp => exact (Reps.one (show Kd.M (Kd.int .i64) _ _ _ (wrap64 (a0_8 - (wrap64 (2 * (wrap64 (a0_2 - a0_6)))))) [.int .i64 (wrap64 (a0_8 - (wrap64 (2 * (wrap64 (a0_2 - a0_6))))))] from rfl) (Reps.one (show Kd.M (Kd.int .i64) _ _ _ (wrap64 (a0_8 - (wrap64 (2 * (wrap64 (a0_3 - a0_7)))))) [.int .i64 (wrap64 (a0_8 - (wrap64 (2 * (wrap64 (a0_3 - a0_7))))))] from rfl) (Reps.one (show Kd.M (Kd.int .i64) _ _ _ (wrap64 (a0_8 + (wrap64 (2 * (wrap64 (a0_2 - a0_6)))))) [.int .i64 (wrap64 (a0_8 + (wrap64 (2 * (wrap64 (a0_2 - a0_6))))))] from rfl) (Reps.one (show Kd.M (Kd.int .i64) _ _ _ (wrap64 (a0_8 + (wrap64 (2 * (wrap64 (a0_3 - a0_7)))))) [.int .i64 (wrap64 (a0_8 + (wrap64 (2 * (wrap64 (a0_3 - a0_7))))))] from rfl) (Reps.none _ _)))))); intro v376 w4 ho5 hb hg_ hnew_; clear hg_ hnew_; (first | rw [← Ny375.out] at ho5 | (simp only [Int.reduceToNat] at ho5; rw [← Ny375.out] at ho5)); have n0_ := Aside0.mk (Kd.R_lower ho5 (below_size (by repeat (first | (with_reducible first | exact HB.out | apply below_alloc | apply pw_below_drewN | apply below_drew1 | refine below_set ?_ GE374.out) | exact HB.out)))); have n1_ := Aside0.mk (blk_below (g := gb374) (o := .cells #[.int .i64 a0_0, .int .i64 a0_1, .int .i64 a0_2, .int .i64 a0_3, .int .i64 a0_4, .int .i64 a0_5, .int .i64 a0_6, .int .i64 a0_7, .int .i64 a0_8] 38 (0, 0)) (by (with_reducible repeat (first | refine blk_drewN ?_ _ | refine blk_drew ?_ | refine blk_alloc ?_ _)); exact BK374.out) hb); have n2_ := Aside0.mk (below_step (by repeat (first | (with_reducible first | exact HB.out | apply below_alloc | apply pw_below_drewN | apply below_drew1 | refine below_set ?_ GE374.out) | exact HB.out)) hb); clear BK374; clear HB; have HO377 := n0_; have BK374 := n1_; have HB := n2_; clear n0_ n1_ n2_; clear hb ho5))
  repeat (go_quiet (first | ((with_reducible refine gate_dst (N := 1) rfl ?_); refine box_event ?hg (N := 1) ?hd (cs := #[.int .i64 a0_0, .int .i64 a0_1, .int .i64 a0_2, .int .i64 a0_3, .int .i64 a0_4, .int .i64 a0_5, .int .i64 a0_6, .int .i64 a0_7, .int .i64 a0_8]) (t := 38) ?hr ?_; (case hd => rfl); (case hg => rfl); (case hr => first | (go_simp; done) | (go_simp; rfl)); intro gb374 hg w2 hbox hb; have n0_ := Aside0.mk (below_step (by repeat (first | (with_reducible first | exact HB.out | apply below_alloc | apply pw_below_drewN | apply below_drew1) | exact HB.out)) hb); have n1_ := Aside0.mk (hbox); have n2_ := Aside0.mk ((by rw [hg]; exact (below_size (by repeat (first | (with_reducible first | exact HB.out | apply below_alloc | apply pw_below_drewN | apply below_drew1) | exact HB.out))) : w.heap.size ≤ gb374)); have n3_ := Aside0.mk ((by rw [hg]; exact (below_size (by repeat (first | (with_reducible first | exact HB.out | apply below_alloc | apply pw_below_drewN | apply below_drew1) | exact HB.out))) : w.heap.size ≤ gb374)); clear HB; have HB := n0_; have BK374 := n1_; have GW374 := n2_; have GE374 := n3_; clear n0_ n1_ n2_ n3_; clear hb hbox hg; have hcz3_0 : w2.cell? ⟨gb374, 0, none⟩ = some (.int .i64 a0_0) := (blk_cell BK374.out 0).trans rfl; have hcz3_1 : w2.cell? ⟨gb374, 1, none⟩ = some (.int .i64 a0_1) := (blk_cell BK374.out 1).trans rfl; have hcz3_2 : w2.cell? ⟨gb374, 2, none⟩ = some (.int .i64 a0_2) := (blk_cell BK374.out 2).trans rfl; have hcz3_3 : w2.cell? ⟨gb374, 3, none⟩ = some (.int .i64 a0_3) := (blk_cell BK374.out 3).trans rfl; have hcz3_4 : w2.cell? ⟨gb374, 4, none⟩ = some (.int .i64 a0_4) := (blk_cell BK374.out 4).trans rfl; have hcz3_5 : w2.cell? ⟨gb374, 5, none⟩ = some (.int .i64 a0_5) := (blk_cell BK374.out 5).trans rfl; have hcz3_6 : w2.cell? ⟨gb374, 6, none⟩ = some (.int .i64 a0_6) := (blk_cell BK374.out 6).trans rfl; have hcz3_7 : w2.cell? ⟨gb374, 7, none⟩ = some (.int .i64 a0_7) := (blk_cell BK374.out 7).trans rfl; have hcz3_8 : w2.cell? ⟨gb374, 8, none⟩ = some (.int .i64 a0_8) := (blk_cell BK374.out 8).trans rfl; have hfz3_0 := blk_frozen BK374.out 0; have hfz3_1 := blk_frozen BK374.out 1; have hfz3_2 := blk_frozen BK374.out 2; have hfz3_3 := blk_frozen BK374.out 3; have hfz3_4 := blk_frozen BK374.out 4; have hfz3_5 := blk_frozen BK374.out 5; have hfz3_6 := blk_frozen BK374.out 6; have hfz3_7 := blk_frozen BK374.out 7; have hfz3_8 := blk_frozen BK374.out 8) | ((with_reducible refine gate_dst (N := 37) rfl ?_); refine Kd.R_lit (Kd.int .i64) _ 2 ?hg (N := 37) ?hd (xs := ([wrap64 (a0_8 - (wrap64 (2 * (wrap64 (a0_2 - a0_6))))), wrap64 (a0_8 - (wrap64 (2 * (wrap64 (a0_3 - a0_7))))), wrap64 (a0_8 + (wrap64 (2 * (wrap64 (a0_2 - a0_6))))), wrap64 (a0_8 + (wrap64 (2 * (wrap64 (a0_3 - a0_7)))))] : List Int)) (inner := [.int .i64 (wrap64 (a0_8 - (wrap64 (2 * (wrap64 (a0_2 - a0_6)))))), .int .i64 (wrap64 (a0_8 - (wrap64 (2 * (wrap64 (a0_3 - a0_7)))))), .int .i64 (wrap64 (a0_8 + (wrap64 (2 * (wrap64 (a0_2 - a0_6)))))), .int .i64 (wrap64 (a0_8 + (wrap64 (2 * (wrap64 (a0_3 - a0_7))))))]) (ok := fun _ => True) (okp := fun _ => True) ?hr ?hp (fun _ hk => hk) trivial (Below.refl _ _) (Nat.le_refl _) (by simp) ?_; (case hd => rfl); (case hg => rfl); (case hr => first | (go_simp; done) | (go_simp; rfl)); (case hp => exact (Reps.one (show Kd.M (Kd.int .i64) _ _ _ (wrap64 (a0_8 - (wrap64 (2 * (wrap64 (a0_2 - a0_6)))))) [.int .i64 (wrap64 (a0_8 - (wrap64 (2 * (wrap64 (a0_2 - a0_6))))))] from rfl) (Reps.one (show Kd.M (Kd.int .i64) _ _ _ (wrap64 (a0_8 - (wrap64 (2 * (wrap64 (a0_3 - a0_7)))))) [.int .i64 (wrap64 (a0_8 - (wrap64 (2 * (wrap64 (a0_3 - a0_7))))))] from rfl) (Reps.one (show Kd.M (Kd.int .i64) _ _ _ (wrap64 (a0_8 + (wrap64 (2 * (wrap64 (a0_2 - a0_6)))))) [.int .i64 (wrap64 (a0_8 + (wrap64 (2 * (wrap64 (a0_2 - a0_6))))))] from rfl) (Reps.one (show Kd.M (Kd.int .i64) _ _ _ (wrap64 (a0_8 + (wrap64 (2 * (wrap64 (a0_3 - a0_7)))))) [.int .i64 (wrap64 (a0_8 + (wrap64 (2 * (wrap64 (a0_3 - a0_7))))))] from rfl) (Reps.none _ _)))))); intro v376 w4 ho5 hb hg_ hnew_; clear hg_ hnew_; (first | rw [← Ny375.out] at ho5 | (simp only [Int.reduceToNat] at ho5; rw [← Ny375.out] at ho5)); have n0_ := Aside0.mk (Kd.R_lower ho5 (below_size (by repeat (first | (with_reducible first | exact HB.out | apply below_alloc | apply pw_below_drewN | apply below_drew1 | refine below_set ?_ GE374.out) | exact HB.out)))); have n1_ := Aside0.mk (blk_below (g := gb374) (o := .cells #[.int .i64 a0_0, .int .i64 a0_1, .int .i64 a0_2, .int .i64 a0_3, .int .i64 a0_4, .int .i64 a0_5, .int .i64 a0_6, .int .i64 a0_7, .int .i64 a0_8] 38 (0, 0)) (by (with_reducible repeat (first | refine blk_drewN ?_ _ | refine blk_drew ?_ | refine blk_alloc ?_ _)); exact BK374.out) hb); have n2_ := Aside0.mk (below_step (by repeat (first | (with_reducible first | exact HB.out | apply below_alloc | apply pw_below_drewN | apply below_drew1 | refine below_set ?_ GE374.out) | exact HB.out)) hb); clear BK374; clear HB; have HO377 := n0_; have BK374 := n1_; have HB := n2_; clear n0_ n1_ n2_; clear hb ho5)); try go_wp2_with (first | ((with_reducible refine gate_dst (N := 1) rfl ?_); refine box_event ?hg (N := 1) ?hd (cs := #[.int .i64 a0_0, .int .i64 a0_1, .int .i64 a0_2, .int .i64 a0_3, .int .i64 a0_4, .int .i64 a0_5, .int .i64 a0_6, .int .i64 a0_7, .int .i64 a0_8]) (t := 38) ?hr ?_; (case hd => rfl); (case hg => rfl); (case hr => first | (go_simp; done) | (go_simp; rfl)); intro gb374 hg w2 hbox hb; have n0_ := Aside0.mk (below_step (by repeat (first | (with_reducible first | exact HB.out | apply below_alloc | apply pw_below_drewN | apply below_drew1) | exact HB.out)) hb); have n1_ := Aside0.mk (hbox); have n2_ := Aside0.mk ((by rw [hg]; exact (below_size (by repeat (first | (with_reducible first | exact HB.out | apply below_alloc | apply pw_below_drewN | apply below_drew1) | exact HB.out))) : w.heap.size ≤ gb374)); have n3_ := Aside0.mk ((by rw [hg]; exact (below_size (by repeat (first | (with_reducible first | exact HB.out | apply below_alloc | apply pw_below_drewN | apply below_drew1) | exact HB.out))) : w.heap.size ≤ gb374)); clear HB; have HB := n0_; have BK374 := n1_; have GW374 := n2_; have GE374 := n3_; clear n0_ n1_ n2_ n3_; clear hb hbox hg; have hcz3_0 : w2.cell? ⟨gb374, 0, none⟩ = some (.int .i64 a0_0) := (blk_cell BK374.out 0).trans rfl; have hcz3_1 : w2.cell? ⟨gb374, 1, none⟩ = some (.int .i64 a0_1) := (blk_cell BK374.out 1).trans rfl; have hcz3_2 : w2.cell? ⟨gb374, 2, none⟩ = some (.int .i64 a0_2) := (blk_cell BK374.out 2).trans rfl; have hcz3_3 : w2.cell? ⟨gb374, 3, none⟩ = some (.int .i64 a0_3) := (blk_cell BK374.out 3).trans rfl; have hcz3_4 : w2.cell? ⟨gb374, 4, none⟩ = some (.int .i64 a0_4) := (blk_cell BK374.out 4).trans rfl; have hcz3_5 : w2.cell? ⟨gb374, 5, none⟩ = some (.int .i64 a0_5) := (blk_cell BK374.out 5).trans rfl; have hcz3_6 : w2.cell? ⟨gb374, 6, none⟩ = some (.int .i64 a0_6) := (blk_cell BK374.out 6).trans rfl; have hcz3_7 : w2.cell? ⟨gb374, 7, none⟩ = some (.int .i64 a0_7) := (blk_cell BK374.out 7).trans rfl; have hcz3_8 : w2.cell? ⟨gb374, 8, none⟩ = some (.int .i64 a0_8) := (blk_cell BK374.out 8).trans rfl; have hfz3_0 := blk_frozen BK374.out 0; have hfz3_1 := blk_frozen BK374.out 1; have hfz3_2 := blk_frozen BK374.out 2; have hfz3_3 := blk_frozen BK374.out 3; have hfz3_4 := blk_frozen BK374.out 4; have hfz3_5 := blk_frozen BK374.out 5; have hfz3_6 := blk_frozen BK374.out 6; have hfz3_7 := blk_frozen BK374.out 7; have hfz3_8 := blk_frozen BK374.out 8) | ((with_reducible refine gate_dst (N := 37) rfl ?_); refine Kd.R_lit (Kd.int .i64) _ 2 ?hg (N := 37) ?hd (xs := ([wrap64 (a0_8 - (wrap64 (2 * (wrap64 (a0_2 - a0_6))))), wrap64 (a0_8 - (wrap64 (2 * (wrap64 (a0_3 - a0_7))))), wrap64 (a0_8 + (wrap64 (2 * (wrap64 (a0_2 - a0_6))))), wrap64 (a0_8 + (wrap64 (2 * (wrap64 (a0_3 - a0_7)))))] : List Int)) (inner := [.int .i64 (wrap64 (a0_8 - (wrap64 (2 * (wrap64 (a0_2 - a0_6)))))), .int .i64 (wrap64 (a0_8 - (wrap64 (2 * (wrap64 (a0_3 - a0_7)))))), .int .i64 (wrap64 (a0_8 + (wrap64 (2 * (wrap64 (a0_2 - a0_6)))))), .int .i64 (wrap64 (a0_8 + (wrap64 (2 * (wrap64 (a0_3 - a0_7))))))]) (ok := fun _ => True) (okp := fun _ => True) ?hr ?hp (fun _ hk => hk) trivial (Below.refl _ _) (Nat.le_refl _) (by simp) ?_; (case hd => rfl); (case hg => rfl); (case hr => first | (go_simp; done) | (go_simp; rfl)); (case hp => exact (Reps.one (show Kd.M (Kd.int .i64) _ _ _ (wrap64 (a0_8 - (wrap64 (2 * (wrap64 (a0_2 - a0_6)))))) [.int .i64 (wrap64 (a0_8 - (wrap64 (2 * (wrap64 (a0_2 - a0_6))))))] from rfl) (Reps.one (show Kd.M (Kd.int .i64) _ _ _ (wrap64 (a0_8 - (wrap64 (2 * (wrap64 (a0_3 - a0_7)))))) [.int .i64 (wrap64 (a0_8 - (wrap64 (2 * (wrap64 (a0_3 - a0_7))))))] from rfl) (Reps.one (show Kd.M (Kd.int .i64) _ _ _ (wrap64 (a0_8 + (wrap64 (2 * (wrap64 (a0_2 - a0_6)))))) [.int .i64 (wrap64 (a0_8 + (wrap64 (2 * (wrap64 (a0_2 - a0_6))))))] from rfl) (Reps.one (show Kd.M (Kd.int .i64) _ _ _ (wrap64 (a0_8 + (wrap64 (2 * (wrap64 (a0_3 - a0_7)))))) [.int .i64 (wrap64 (a0_8 + (wrap64 (2 * (wrap64 (a0_3 - a0_7))))))] from rfl) (Reps.none _ _)))))); intro v376 w4 ho5 hb hg_ hnew_; clear hg_ hnew_; (first | rw [← Ny375.out] at ho5 | (simp only [Int.reduceToNat] at ho5; rw [← Ny375.out] at ho5)); have n0_ := Aside0.mk (Kd.R_lower ho5 (below_size (by repeat (first | (with_reducible first | exact HB.out | apply below_alloc | apply pw_below_drewN | apply below_drew1 | refine below_set ?_ GE374.out) | exact HB.out)))); have n1_ := Aside0.mk (blk_below (g := gb374) (o := .cells #[.int .i64 a0_0, .int .i64 a0_1, .int .i64 a0_2, .int .i64 a0_3, .int .i64 a0_4, .int .i64 a0_5, .int .i64 a0_6, .int .i64 a0_7, .int .i64 a0_8] 38 (0, 0)) (by (with_reducible repeat (first | refine blk_drewN ?_ _ | refine blk_drew ?_ | refine blk_alloc ?_ _)); exact BK374.out) hb); have n2_ := Aside0.mk (below_step (by repeat (first | (with_reducible first | exact HB.out | apply below_alloc | apply pw_below_drewN | apply below_drew1 | refine below_set ?_ GE374.out) | exact HB.out)) hb); clear BK374; clear HB; have HO377 := n0_; have BK374 := n1_; have HB := n2_; clear n0_ n1_ n2_; clear hb ho5)))
  go_ret
  exact ⟨_, by first | rfl | (simp [errW_none, errW_some] <;> rfl) | (simp [*, errW_none, errW_some] <;> rfl), by (with_reducible repeat (first | apply Kd.R_alloc | apply Kd.R_drewN | apply Kd.R_drew)); exact HO377.out, by repeat (first | (with_reducible first | exact HB.out | apply below_alloc | apply pw_below_drewN | apply below_drew1 | refine below_set ?_ GE374.out) | exact HB.out)⟩

end Go.Proofs.Ythjcoobgibdpcaa.Q
