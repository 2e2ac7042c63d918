-- Written by a program of this claim's session (gprint.py over the kit's print); not typed by hand; Lean checks it.
import Derived.Test.YthjcoobgibdpcaaQ0
import Derived.Test.YthjcoobgibdpcaaQ1
import Derived.Test.YthjcoobgibdpcaaQ7
import Derived.Test.YthjcoobgibdpcaaQ8
import Derived.Test.YthjcoobgibdpcaaGFloor
import Derived.Test.YthjcoobgibdpcaaGWithin
namespace Go.Proofs.Ythjcoobgibdpcaa.Q
open Go.RowKit Go.Proofs.YthjcoobgibdpcaaW.PrintWords Go.Proofs.YthjcoobgibdpcaaW.PrintLast Go.Proofs.YthjcoobgibdpcaaW.PrintMore
attribute [local go_sem] max2_int min2_int max_two min_two max_three min_three max_four min_four   -- for this text's walks alone
set_option linter.unusedVariables false
set_option linter.unusedSimpArgs false

/-! ### impl_MachineFrom: function 12 -/
mutual
def impl_MachineFrom.j0 : Nat → List Int → List Int → Bool → Int → Int → Int → Int → Option (Int × Int × Int × Int × Int × Int × Int × Int × Int × Bool)
  | 0, _, _, _, _, _, _, _ => none
  | k + 1, x1, x2, x31, x393000, x393001, x393002, x393003 => if x31 = true then (some (0, 0, 0, 0, 0, 0, 0, 0, 0, false)) else (if 0 < (x2.length : Int) then (if 2 < (x2.length : Int) then ((impl_floorOf.f (wrap64 ((rd x2 0) + (rd x2 2))) 2).bind fun t399 => ((impl_floorOf.f (wrap64 ((rd x2 2) - (rd x2 0))) 4).bind fun t403 => (if 3 < (x2.length : Int) then (if 1 < (x2.length : Int) then ((impl_floorOf.f (wrap64 ((rd x2 3) - (rd x2 1))) 4).bind fun t406 => (if 0 < (x1.length : Int) then (if 1 < (x1.length : Int) then ((impl_ValidMachine.f (wrap64 ((wrap64 (x393000 + (wrap64 (2 * (wrap64 (x393002 + t403)))))) - (wrap64 (40 - (rd x1 0))))) (wrap64 ((wrap64 (x393001 + (wrap64 (2 * (wrap64 (x393003 + t406)))))) - (wrap64 (40 - (rd x1 1))))) (wrap64 (x393002 + t403)) (wrap64 (x393003 + t406)) x393000 x393001 x393002 x393003 t399).bind fun t409 => (if t409 = true then ((impl_Machine_gaps.f (wrap64 ((wrap64 (x393000 + (wrap64 (2 * (wrap64 (x393002 + t403)))))) - (wrap64 (40 - (rd x1 0))))) (wrap64 ((wrap64 (x393001 + (wrap64 (2 * (wrap64 (x393003 + t406)))))) - (wrap64 (40 - (rd x1 1))))) (wrap64 (x393002 + t403)) (wrap64 (x393003 + t406)) x393000 x393001 x393002 x393003 t399).bind fun t410 => ((slices_Equal_int64_int64.f k t410 x1).bind fun t413 => (if t413 = true then ((impl_Machine_strokes.f (wrap64 ((wrap64 (x393000 + (wrap64 (2 * (wrap64 (x393002 + t403)))))) - (wrap64 (40 - (rd x1 0))))) (wrap64 ((wrap64 (x393001 + (wrap64 (2 * (wrap64 (x393003 + t406)))))) - (wrap64 (40 - (rd x1 1))))) (wrap64 (x393002 + t403)) (wrap64 (x393003 + t406)) x393000 x393001 x393002 x393003 t399).bind fun t414 => ((slices_Equal_int64_int64.f k t414 x2).bind fun t417 => (impl_MachineFrom.j1 k (!t417) (wrap64 ((wrap64 (x393000 + (wrap64 (2 * (wrap64 (x393002 + t403)))))) - (wrap64 (40 - (rd x1 0))))) (wrap64 ((wrap64 (x393001 + (wrap64 (2 * (wrap64 (x393003 + t406)))))) - (wrap64 (40 - (rd x1 1))))) (wrap64 (x393002 + t403)) (wrap64 (x393003 + t406)) x393000 x393001 x393002 x393003 t399))) else (impl_MachineFrom.j1 k true (wrap64 ((wrap64 (x393000 + (wrap64 (2 * (wrap64 (x393002 + t403)))))) - (wrap64 (40 - (rd x1 0))))) (wrap64 ((wrap64 (x393001 + (wrap64 (2 * (wrap64 (x393003 + t406)))))) - (wrap64 (40 - (rd x1 1))))) (wrap64 (x393002 + t403)) (wrap64 (x393003 + t406)) x393000 x393001 x393002 x393003 t399)))) else (impl_MachineFrom.j1 k true (wrap64 ((wrap64 (x393000 + (wrap64 (2 * (wrap64 (x393002 + t403)))))) - (wrap64 (40 - (rd x1 0))))) (wrap64 ((wrap64 (x393001 + (wrap64 (2 * (wrap64 (x393003 + t406)))))) - (wrap64 (40 - (rd x1 1))))) (wrap64 (x393002 + t403)) (wrap64 (x393003 + t406)) x393000 x393001 x393002 x393003 t399))) else (none)) else (none))) else (none)) else (none)))) else (none)) else (none))
def impl_MachineFrom.j1 : Nat → Bool → Int → Int → Int → Int → Int → Int → Int → Int → Int → Option (Int × Int × Int × Int × Int × Int × Int × Int × Int × Bool)
  | 0, _, _, _, _, _, _, _, _, _, _ => none
  | k + 1, x113, x401000, x401001, x401002, x401003, x401004, x401005, x401006, x401007, x401008 => if x113 = true then (some (0, 0, 0, 0, 0, 0, 0, 0, 0, false)) else (some (x401000, x401001, x401002, x401003, x401004, x401005, x401006, x401007, x401008, true))
end
def impl_MachineFrom.f (k : Nat) (a0_0 : Int) (a0_1 : Int) (a0_2 : Int) (a0_3 : Int) (l1 : List Int) (l2 : List Int) : Option (Int × Int × Int × Int × Int × Int × Int × Int × Int × Bool) := (impl_ValidPose.f a0_0 a0_1 a0_2 a0_3).bind fun t394 => (if t394 = true then (if (l1.length : Int) = 4 then (if (l2.length : Int) = 4 then ((impl_areWithin.f l1 0 80).bind fun t395 => (if t395 = true then ((impl_areWithin.f l2 0 2400).bind fun t396 => (impl_MachineFrom.j0 k l1 l2 (!t396) a0_0 a0_1 a0_2 a0_3)) else (impl_MachineFrom.j0 k l1 l2 true a0_0 a0_1 a0_2 a0_3))) else (impl_MachineFrom.j0 k l1 l2 true a0_0 a0_1 a0_2 a0_3)) else (impl_MachineFrom.j0 k l1 l2 true a0_0 a0_1 a0_2 a0_3)) else (impl_MachineFrom.j0 k l1 l2 true a0_0 a0_1 a0_2 a0_3))
theorem impl_MachineFrom.mono_l : ∀ k, (∀ y0 y1 y2 y3 y4 y5 y6, LeO (impl_MachineFrom.j0 k y0 y1 y2 y3 y4 y5 y6) (impl_MachineFrom.j0 (k + 1) y0 y1 y2 y3 y4 y5 y6)) ∧ (∀ y0 y1 y2 y3 y4 y5 y6 y7 y8 y9, LeO (impl_MachineFrom.j1 k y0 y1 y2 y3 y4 y5 y6 y7 y8 y9) (impl_MachineFrom.j1 (k + 1) y0 y1 y2 y3 y4 y5 y6 y7 y8 y9))
  | 0 => ⟨fun _ _ _ _ _ _ _ r h => by simp [impl_MachineFrom.j0] at h, fun _ _ _ _ _ _ _ _ _ _ r h => by simp [impl_MachineFrom.j1] at h⟩
  | k + 1 => by
    obtain ⟨ih0, ih1⟩ := impl_MachineFrom.mono_l k
    refine ⟨?_, ?_⟩
    · intro y0 y1 y2 y3 y4 y5 y6
      unfold impl_MachineFrom.j0
      repeat' first
      | (with_reducible exact ih0 _ _ _ _ _ _ _)
      | (with_reducible exact ih1 _ _ _ _ _ _ _ _ _ _)
      | (with_reducible exact slices_Equal_int64_int64.mono _ _ _)
      | (with_reducible exact LeO.refl _)
      | (with_reducible exact LeO.none _)
      | (with_reducible refine LeO.ite ?_ ?_)
      | (with_reducible refine LeO.bind ?_ (fun _ => ?_))
      | exact ih0 _ _ _ _ _ _ _
      | exact ih1 _ _ _ _ _ _ _ _ _ _
      | exact slices_Equal_int64_int64.mono _ _ _
      | exact LeO.none _
      | refine LeO.ite ?_ ?_
      | refine LeO.bind ?_ (fun _ => ?_)
    · intro y0 y1 y2 y3 y4 y5 y6 y7 y8 y9
      unfold impl_MachineFrom.j1
      repeat' first
      | (with_reducible exact ih0 _ _ _ _ _ _ _)
      | (with_reducible exact ih1 _ _ _ _ _ _ _ _ _ _)
      | (with_reducible exact slices_Equal_int64_int64.mono _ _ _)
      | (with_reducible exact LeO.refl _)
      | (with_reducible exact LeO.none _)
      | (with_reducible refine LeO.ite ?_ ?_)
      | (with_reducible refine LeO.bind ?_ (fun _ => ?_))
      | exact ih0 _ _ _ _ _ _ _
      | exact ih1 _ _ _ _ _ _ _ _ _ _
      | exact slices_Equal_int64_int64.mono _ _ _
      | exact LeO.none _
      | refine LeO.ite ?_ ?_
      | refine LeO.bind ?_ (fun _ => ?_)
theorem impl_MachineFrom.mono : ∀ a0 a1 a2 a3 a4 a5 k, LeO (impl_MachineFrom.f k a0 a1 a2 a3 a4 a5) (impl_MachineFrom.f (k + 1) a0 a1 a2 a3 a4 a5) := by
  intro a0 a1 a2 a3 a4 a5 k
  obtain ⟨ih0, ih1⟩ := impl_MachineFrom.mono_l k
  unfold impl_MachineFrom.f
  repeat' first
      | (with_reducible exact ih0 _ _ _ _ _ _ _)
      | (with_reducible exact ih1 _ _ _ _ _ _ _ _ _ _)
      | (with_reducible exact slices_Equal_int64_int64.mono _ _ _)
      | (with_reducible exact LeO.refl _)
      | (with_reducible exact LeO.none _)
      | (with_reducible refine LeO.ite ?_ ?_)
      | (with_reducible refine LeO.bind ?_ (fun _ => ?_))
      | exact ih0 _ _ _ _ _ _ _
      | exact ih1 _ _ _ _ _ _ _ _ _ _
      | exact slices_Equal_int64_int64.mono _ _ _
      | exact LeO.none _
      | refine LeO.ite ?_ ?_
      | refine LeO.bind ?_ (fun _ => ?_)
def impl_MachineFrom.T3 : Bool × List (List Nat × List Nat) := (true, [([], []), ([], []), ([1], [1]), ([2], [2]), ([], []), ([4], [4]), ([5], [5]), ([3, 6], [3, 6]), ([7], [7]), ([0, 8], [0, 8]), ([], []), ([10, 9, 8, 0, 1, 2, 3, 4, 5, 6, 7, 8, 9, 10], [9, 10])])
def impl_MachineFrom.B3 : List Nat := [0, 0, 2, 6, 0, 16, 48, 126, 254, 511, 0, 2047]
theorem impl_MachineFrom.tab3 : rtab .any (opsOf Try.f12 3) = impl_MachineFrom.T3 := by kernel_rfl
theorem impl_MachineFrom.bits3 : waitsOk impl_MachineFrom.T3.2 impl_MachineFrom.B3 = true := by kernel_rfl
def impl_MachineFrom.T4 : Bool × List (List Nat × List Nat) := (true, [([], []), ([0], [0]), ([], []), ([2], [2]), ([3], [3]), ([], []), ([5], [5]), ([6], [6]), ([4, 7], [4, 7]), ([8], [8]), ([1, 9], [1, 9]), ([0, 1, 2, 3, 4, 5, 6, 7, 8, 9, 10], []), ([11, 0, 1, 2, 3, 4, 5, 6, 7, 8, 9, 10], [11]), ([12, 10, 9, 0, 1, 2, 3, 4, 5, 6, 7, 8, 9, 10], [10, 12])])
def impl_MachineFrom.B4 : List Nat := [0, 1, 0, 4, 12, 0, 32, 96, 252, 508, 1023, 2047, 4095, 8191]
theorem impl_MachineFrom.tab4 : rtab .any (opsOf Try.f12 4) = impl_MachineFrom.T4 := by kernel_rfl
theorem impl_MachineFrom.bits4 : waitsOk impl_MachineFrom.T4.2 impl_MachineFrom.B4 = true := by kernel_rfl
def impl_MachineFrom.T5 : Bool × List (List Nat × List Nat) := (true, [([], []), ([0], [0]), ([], []), ([2], [2]), ([3], [3]), ([], []), ([5], [5]), ([6], [6]), ([4, 7], [4, 7]), ([8], [8]), ([1, 9], [1, 9]), ([0, 1, 2, 3, 4, 5, 6, 7, 8, 9, 10], []), ([11, 0, 1, 2, 3, 4, 5, 6, 7, 8, 9, 10], [11]), ([12, 10, 9, 0, 1, 2, 3, 4, 5, 6, 7, 8, 9, 10], [10, 12])])
def impl_MachineFrom.B5 : List Nat := [0, 1, 0, 4, 12, 0, 32, 96, 252, 508, 1023, 2047, 4095, 8191]
theorem impl_MachineFrom.tab5 : rtab .any (opsOf Try.f12 5) = impl_MachineFrom.T5 := by kernel_rfl
theorem impl_MachineFrom.bits5 : waitsOk impl_MachineFrom.T5.2 impl_MachineFrom.B5 = true := by kernel_rfl
def impl_MachineFrom.T6 : Bool × List (List Nat × List Nat) := (true, [([], []), ([0], [0]), ([], []), ([2], [2]), ([3], [3]), ([4], [4]), ([1, 5], [1, 5]), ([], []), ([7], [7]), ([8], [8]), ([9], [9]), ([6, 10], [6, 10]), ([0, 1, 2, 3, 4, 5, 6, 7, 8, 9, 10, 11], []), ([12, 0, 1, 2, 3, 4, 5, 6, 7, 8, 9, 10, 11], [12]), ([13, 11, 0, 1, 2, 3, 4, 5, 6, 7, 8, 9, 10, 11], [11, 13])])
def impl_MachineFrom.B6 : List Nat := [0, 1, 0, 4, 12, 28, 63, 0, 128, 384, 896, 2047, 4095, 8191, 16383]
theorem impl_MachineFrom.tab6 : rtab .any (opsOf Try.f12 6) = impl_MachineFrom.T6 := by kernel_rfl
theorem impl_MachineFrom.bits6 : waitsOk impl_MachineFrom.T6.2 impl_MachineFrom.B6 = true := by kernel_rfl
def impl_MachineFrom.T7 : Bool × List (List Nat × List Nat) := (true, [([], []), ([0], [0]), ([], []), ([2], [2]), ([3], [3]), ([4], [4]), ([1, 5], [1, 5]), ([], []), ([7], [7]), ([8], [8]), ([9], [9]), ([6, 10], [6, 10]), ([0, 1, 2, 3, 4, 5, 6, 7, 8, 9, 10, 11], []), ([12, 0, 1, 2, 3, 4, 5, 6, 7, 8, 9, 10, 11], [12]), ([13, 11, 0, 1, 2, 3, 4, 5, 6, 7, 8, 9, 10, 11], [11, 13])])
def impl_MachineFrom.B7 : List Nat := [0, 1, 0, 4, 12, 28, 63, 0, 128, 384, 896, 2047, 4095, 8191, 16383]
theorem impl_MachineFrom.tab7 : rtab .any (opsOf Try.f12 7) = impl_MachineFrom.T7 := by kernel_rfl
theorem impl_MachineFrom.bits7 : waitsOk impl_MachineFrom.T7.2 impl_MachineFrom.B7 = true := by kernel_rfl
set_option maxHeartbeats 8000000 in
set_option maxRecDepth 100000 in
theorem impl_MachineFrom.calls (k : Nat) (a0_0 : Int) (a0_1 : Int) (a0_2 : Int) (a0_3 : Int) (A1 : Option Addr) (c1 : Nat) (l1 : List Int) (A2 : Option Addr) (c2 : Nat) (l2 : List Int) (r1 : Int) (r2 : Int) (r3 : Int) (r4 : Int) (r5 : Int) (r6 : Int) (r7 : Int) (r8 : Int) (r9 : Int) (r10 : Bool) (w : World) (hr1 : Kd.C (Kd.int .i64) w A1 l1.length l1) (hc1 : l1.length ≤ c1) (hr2 : Kd.C (Kd.int .i64) w A2 l2.length l2) (hc2 : l2.length ≤ c2) (h : impl_MachineFrom.f k a0_0 a0_1 a0_2 a0_3 l1 l2 = some (r1, r2, r3, r4, r5, r6, r7, r8, r9, r10)) :
    Calls Try.prog 12 #[.agg #[.int .i64 a0_0, .int .i64 a0_1, .int .i64 a0_2, .int .i64 a0_3], .slice A1 l1.length c1, .slice A2 l2.length c2] w fun e w' => e = .returned (.tuple #[.agg #[.int .i64 r1, .int .i64 r2, .int .i64 r3, .int .i64 r4, .int .i64 r5, .int .i64 r6, .int .i64 r7, .int .i64 r8, .int .i64 r9], .bool r10]) ∧ Below w.heap.size w w' := by
  have hu25 := Try.underlying25
  have hu38 := Try.underlying38
  have HR1 := Aside0.mk hr1
  have HC1 := Aside0.mk hc1
  clear hr1 hc1
  have HR2 := Aside0.mk hr2
  have HC2 := Aside0.mk hc2
  clear hr2 hc2
  have HB := Aside0.mk (Below.refl w.heap.size w)
  have H : ((impl_ValidPose.f a0_0 a0_1 a0_2 a0_3).bind fun t394 => (if t394 = true then (if (l1.length : Int) = 4 then (if (l2.length : Int) = 4 then ((impl_areWithin.f l1 0 80).bind fun t395 => (if t395 = true then ((impl_areWithin.f l2 0 2400).bind fun t396 => (impl_MachineFrom.j0 k l1 l2 (!t396) a0_0 a0_1 a0_2 a0_3)) else (impl_MachineFrom.j0 k l1 l2 true a0_0 a0_1 a0_2 a0_3))) else (impl_MachineFrom.j0 k l1 l2 true a0_0 a0_1 a0_2 a0_3)) else (impl_MachineFrom.j0 k l1 l2 true a0_0 a0_1 a0_2 a0_3)) else (impl_MachineFrom.j0 k l1 l2 true a0_0 a0_1 a0_2 a0_3))) = some (r1, r2, r3, r4, r5, r6, r7, r8, r9, r10) := h
  clear h
  have HC4 := Aside0.mk H
  clear H
  go_enter Try.func12, Try.ntmps12
  go_upto_region 1 with (first | ((with_reducible refine gate_dst (N := 3) rfl ?_); (try (refine gate_guard (by rfl) ?_; dsimp only)); refine box_event ?hg (N := 3) ?hd (cs := #[.int .i64 a0_0, .int .i64 a0_1, .int .i64 a0_2, .int .i64 a0_3]) (t := 25) ?hr ?_; (case hd => rfl); (case hg => rfl); (case hr => first | (go_simp; done) | (go_simp; rfl)); intro gb392 hg w5 hbox hb; have n0_ := Aside0.mk (below_step (by repeat (first | (with_reducible first | exact HB.out | apply below_alloc | apply pw_below_drewN | apply below_drew1) | exact HB.out)) hb); have n1_ := Aside0.mk (hbox); have n2_ := Aside0.mk ((by rw [hg]; exact (below_size (by repeat (first | (with_reducible first | exact HB.out | apply below_alloc | apply pw_below_drewN | apply below_drew1) | exact HB.out))) : w.heap.size ≤ gb392)); have n3_ := Aside0.mk ((by rw [hg]; exact (below_size (by repeat (first | (with_reducible first | exact HB.out | apply below_alloc | apply pw_below_drewN | apply below_drew1) | exact HB.out))) : w.heap.size ≤ gb392)); clear HB; have HB := n0_; have BK392 := n1_; have GW392 := n2_; have GE392 := n3_; clear n0_ n1_ n2_ n3_; clear hb hbox hg) | ((with_reducible refine gate_dst (N := 6) rfl ?_); (try (refine gate_guard (by rfl) ?_; dsimp only)); refine box_event ?hg (N := 6) ?hd (cs := #[.int .i64 0, .int .i64 0, .int .i64 0, .int .i64 0, .int .i64 0, .int .i64 0, .int .i64 0, .int .i64 0, .int .i64 0]) (t := 38) ?hr ?_; (case hd => rfl); (case hg => rfl); (case hr => first | (go_simp; done) | (go_simp; rfl)); intro gb393 hg w6 hbox hb; have n0_ := Aside0.mk (blk_below (g := gb392) (o := .cells #[.int .i64 a0_0, .int .i64 a0_1, .int .i64 a0_2, .int .i64 a0_3] 25 (0, 0)) (by (with_reducible repeat (first | refine blk_drewN ?_ _ | refine blk_drew ?_ | refine blk_alloc ?_ _)); exact BK392.out) hb); have n1_ := Aside0.mk (below_step (by repeat (first | (with_reducible first | exact HB.out | apply below_alloc | apply pw_below_drewN | apply below_drew1 | refine below_set ?_ GE392.out) | exact HB.out)) hb); have n2_ := Aside0.mk (hbox); have n3_ := Aside0.mk ((by rw [hg]; exact (below_size (by repeat (first | (with_reducible first | exact HB.out | apply below_alloc | apply pw_below_drewN | apply below_drew1 | refine below_set ?_ GE392.out) | exact HB.out))) : w.heap.size ≤ gb393)); have n4_ := Aside0.mk ((by rw [hg]; exact (below_size (by repeat (first | (with_reducible first | exact HB.out | apply below_alloc | apply pw_below_drewN | apply below_drew1 | refine below_set ?_ GE392.out) | exact HB.out))) : w.heap.size ≤ gb393)); have n5_ := Aside0.mk ((by rw [hg]; exact Nat.ne_of_lt (blk_lt (g := gb392) (o := .cells #[.int .i64 a0_0, .int .i64 a0_1, .int .i64 a0_2, .int .i64 a0_3] 25 (0, 0)) (by (with_reducible repeat (first | refine blk_drewN ?_ _ | refine blk_drew ?_ | refine blk_alloc ?_ _)); exact BK392.out)) : gb392 ≠ gb393)); have n6_ := Aside0.mk ((by rw [hg]; exact Nat.ne_of_gt (blk_lt (g := gb392) (o := .cells #[.int .i64 a0_0, .int .i64 a0_1, .int .i64 a0_2, .int .i64 a0_3] 25 (0, 0)) (by (with_reducible repeat (first | refine blk_drewN ?_ _ | refine blk_drew ?_ | refine blk_alloc ?_ _)); exact BK392.out)) : gb393 ≠ gb392)); clear BK392; clear HB; have BK392 := n0_; have HB := n1_; have BK393 := n2_; have GW393 := n3_; have GE393 := n4_; have NB392_393 := n5_; have NB393_392 := n6_; clear n0_ n1_ n2_ n3_ n4_ n5_ n6_; clear hb hbox hg))
  (try simp only [Act.put, List.setIfInBounds_toArray, List.set_cons_zero, List.set_cons_succ])
  go_cut [31] (fun v31 wc => ∃ (kq : Nat) (x31_3 : Bool), v31 = .bool x31_3 ∧ Aside0 (impl_MachineFrom.j0 kq l1 l2 x31_3 a0_0 a0_1 a0_2 a0_3 = some (r1, r2, r3, r4, r5, r6, r7, r8, r9, r10)) ∧ Aside0 (kq ≤ k) ∧ Aside0 (wc.heap[gb392]? = some (.cells #[.int .i64 a0_0, .int .i64 a0_1, .int .i64 a0_2, .int .i64 a0_3] 25 (0, 0))) ∧ Aside0 (wc.heap[gb393]? = some (.cells #[.int .i64 0, .int .i64 0, .int .i64 0, .int .i64 0, .int .i64 0, .int .i64 0, .int .i64 0, .int .i64 0, .int .i64 0] 38 (0, 0))) ∧ Aside0 (Below w.heap.size w wc))
  case first =>
    have H := HC4.out
    clear HC4
    replace H := Option.bind_eq_some_iff.mp H
    obtain ⟨t394, A70, H⟩ := H
    replace H : (if t394 = true then (if (l1.length : Int) = 4 then (if (l2.length : Int) = 4 then ((impl_areWithin.f l1 0 80).bind fun t395 => (if t395 = true then ((impl_areWithin.f l2 0 2400).bind fun t396 => (impl_MachineFrom.j0 k l1 l2 (!t396) a0_0 a0_1 a0_2 a0_3)) else (impl_MachineFrom.j0 k l1 l2 true a0_0 a0_1 a0_2 a0_3))) else (impl_MachineFrom.j0 k l1 l2 true a0_0 a0_1 a0_2 a0_3)) else (impl_MachineFrom.j0 k l1 l2 true a0_0 a0_1 a0_2 a0_3)) else (impl_MachineFrom.j0 k l1 l2 true a0_0 a0_1 a0_2 a0_3)) = some (r1, r2, r3, r4, r5, r6, r7, r8, r9, r10) := H
    have A7 := Aside0.mk A70
    clear A70
    by_cases c8 : t394 = true
    · subst c8
      have H1 : (if (l1.length : Int) = 4 then (if (l2.length : Int) = 4 then ((impl_areWithin.f l1 0 80).bind fun t395 => (if t395 = true then ((impl_areWithin.f l2 0 2400).bind fun t396 => (impl_MachineFrom.j0 k l1 l2 (!t396) a0_0 a0_1 a0_2 a0_3)) else (impl_MachineFrom.j0 k l1 l2 true a0_0 a0_1 a0_2 a0_3))) else (impl_MachineFrom.j0 k l1 l2 true a0_0 a0_1 a0_2 a0_3)) else (impl_MachineFrom.j0 k l1 l2 true a0_0 a0_1 a0_2 a0_3)) = some (r1, r2, r3, r4, r5, r6, r7, r8, r9, r10) := by rw [if_pos rfl] at H; exact H
      clear H
      have H := H1
      clear H1
      by_cases c9 : (l1.length : Int) = 4
      · rw [if_pos c9] at H
        have c9b0 : ((l1.length : Int) == 4) = true := beq_iff_eq.mpr c9
        have c9b1 : ((l1.length : Int) != 4) = false := bne_eq_false_iff_eq.mpr c9
        clear c9
        (first | rw [c9b0] | (simp only [i64_w, i32_w]; rw [c9b0]) | skip)
        by_cases c10 : (l2.length : Int) = 4
        · rw [if_pos c10] at H
          have c10b0 : ((l2.length : Int) == 4) = true := beq_iff_eq.mpr c10
          have c10b1 : ((l2.length : Int) != 4) = false := bne_eq_false_iff_eq.mpr c10
          clear c10
          replace H := Option.bind_eq_some_iff.mp H
          obtain ⟨t395, A110, H⟩ := H
          replace H : (if t395 = true then ((impl_areWithin.f l2 0 2400).bind fun t396 => (impl_MachineFrom.j0 k l1 l2 (!t396) a0_0 a0_1 a0_2 a0_3)) else (impl_MachineFrom.j0 k l1 l2 true a0_0 a0_1 a0_2 a0_3)) = some (r1, r2, r3, r4, r5, r6, r7, r8, r9, r10) := H
          have A11 := Aside0.mk A110
          clear A110
          by_cases c12 : t395 = true
          · subst c12
            have H1 : ((impl_areWithin.f l2 0 2400).bind fun t396 => (impl_MachineFrom.j0 k l1 l2 (!t396) a0_0 a0_1 a0_2 a0_3)) = some (r1, r2, r3, r4, r5, r6, r7, r8, r9, r10) := by rw [if_pos rfl] at H; exact H
            clear H
            have H := H1
            clear H1
            replace H := Option.bind_eq_some_iff.mp H
            obtain ⟨t396, A130, H⟩ := H
            replace H : (impl_MachineFrom.j0 k l1 l2 (!t396) a0_0 a0_1 a0_2 a0_3) = some (r1, r2, r3, r4, r5, r6, r7, r8, r9, r10) := H
            have A13 := Aside0.mk A130
            clear A130
            have H' := Aside0.mk H
            clear H
            have hnb14 := NB392_393.out
            have hnc14 := NB393_392.out
            have hcz15_0 : w6.cell? ⟨gb392, 0, none⟩ = some (.int .i64 a0_0) := (blk_cell BK392.out 0).trans rfl
            have hcz15_1 : w6.cell? ⟨gb392, 1, none⟩ = some (.int .i64 a0_1) := (blk_cell BK392.out 1).trans rfl
            have hcz15_2 : w6.cell? ⟨gb392, 2, none⟩ = some (.int .i64 a0_2) := (blk_cell BK392.out 2).trans rfl
            have hcz15_3 : w6.cell? ⟨gb392, 3, none⟩ = some (.int .i64 a0_3) := (blk_cell BK392.out 3).trans rfl
            have hfz15_0 := blk_frozen BK392.out 0
            have hfz15_1 := blk_frozen BK392.out 1
            have hfz15_2 := blk_frozen BK392.out 2
            have hfz15_3 := blk_frozen BK392.out 3
            go_wp2_with (first | ((with_reducible refine gate_callee (f := 24) rfl ?_); refine goesL_ (some 10) rfl rfl Try.func24 (by kernel_rfl) rfl #[.agg #[.int .i64 a0_0, .int .i64 a0_1, .int .i64 a0_2, .int .i64 a0_3]] rfl (by (try simp only [List.map_toArray, List.map_cons, List.map_nil]); first | done | rfl | (simp only [List.length_drop, List.length_take]; rfl)) ?_; (with_reducible refine (impl_ValidPose.calls a0_0 a0_1 a0_2 a0_3 true _ A7.out).mono ?_); rintro e w16 ⟨rfl, hb⟩; refine ⟨_, rfl, ?_⟩; have n0_ := Aside0.mk (blk_below (g := gb392) (o := .cells #[.int .i64 a0_0, .int .i64 a0_1, .int .i64 a0_2, .int .i64 a0_3] 25 (0, 0)) (by (with_reducible repeat (first | refine blk_drewN ?_ _ | refine blk_drew ?_ | refine blk_alloc ?_ _)); exact BK392.out) hb); have n1_ := Aside0.mk (blk_below (g := gb393) (o := .cells #[.int .i64 0, .int .i64 0, .int .i64 0, .int .i64 0, .int .i64 0, .int .i64 0, .int .i64 0, .int .i64 0, .int .i64 0] 38 (0, 0)) (by (with_reducible repeat (first | refine blk_drewN ?_ _ | refine blk_drew ?_ | refine blk_alloc ?_ _)); exact BK393.out) hb); have n2_ := Aside0.mk (below_step (by repeat (first | (with_reducible first | exact HB.out | apply below_alloc | apply pw_below_drewN | apply below_drew1 | refine below_set ?_ GE392.out | refine below_set ?_ GE393.out) | exact HB.out)) hb); clear BK392; clear BK393; clear HB; have BK392 := n0_; have BK393 := n1_; have HB := n2_; clear n0_ n1_ n2_; (try clear hb); (try clear hb2); (try clear hk); (try clear hi)) | (go_at_call 25; (with_reducible refine (impl_areWithin.calls _ _ l1 0 80 true _ ?side1 ?side2 A11.out).mono ?_); (case side1 => repeat (first | exact (Kd.C_below HR1.out HB.out) | (with_reducible refine Kd.C_alloc ?_ _) | (with_reducible refine Kd.C_drewN ?_ _) | (with_reducible refine Kd.C_drew ?_))); (case side2 => exact HC1.out); rintro e w17 ⟨rfl, hb⟩; have n0_ := Aside0.mk (blk_below (g := gb392) (o := .cells #[.int .i64 a0_0, .int .i64 a0_1, .int .i64 a0_2, .int .i64 a0_3] 25 (0, 0)) (by (with_reducible repeat (first | refine blk_drewN ?_ _ | refine blk_drew ?_ | refine blk_alloc ?_ _)); exact BK392.out) hb); have n1_ := Aside0.mk (blk_below (g := gb393) (o := .cells #[.int .i64 0, .int .i64 0, .int .i64 0, .int .i64 0, .int .i64 0, .int .i64 0, .int .i64 0, .int .i64 0, .int .i64 0] 38 (0, 0)) (by (with_reducible repeat (first | refine blk_drewN ?_ _ | refine blk_drew ?_ | refine blk_alloc ?_ _)); exact BK393.out) hb); have n2_ := Aside0.mk (below_step (by repeat (first | (with_reducible first | exact HB.out | apply below_alloc | apply pw_below_drewN | apply below_drew1 | refine below_set ?_ GE392.out | refine below_set ?_ GE393.out) | exact HB.out)) hb); clear BK392; clear BK393; clear HB; have BK392 := n0_; have BK393 := n1_; have HB := n2_; clear n0_ n1_ n2_; (try clear hb); (try clear hb2); (try clear hk); (try clear hi)) | (go_at_call 25; (with_reducible refine (impl_areWithin.calls _ _ l2 0 2400 t396 _ ?side1 ?side2 A13.out).mono ?_); (case side1 => repeat (first | exact (Kd.C_below HR2.out HB.out) | (with_reducible refine Kd.C_alloc ?_ _) | (with_reducible refine Kd.C_drewN ?_ _) | (with_reducible refine Kd.C_drew ?_))); (case side2 => exact HC2.out); rintro e w18 ⟨rfl, hb⟩; have n0_ := Aside0.mk (blk_below (g := gb392) (o := .cells #[.int .i64 a0_0, .int .i64 a0_1, .int .i64 a0_2, .int .i64 a0_3] 25 (0, 0)) (by (with_reducible repeat (first | refine blk_drewN ?_ _ | refine blk_drew ?_ | refine blk_alloc ?_ _)); exact BK392.out) hb); have n1_ := Aside0.mk (blk_below (g := gb393) (o := .cells #[.int .i64 0, .int .i64 0, .int .i64 0, .int .i64 0, .int .i64 0, .int .i64 0, .int .i64 0, .int .i64 0, .int .i64 0] 38 (0, 0)) (by (with_reducible repeat (first | refine blk_drewN ?_ _ | refine blk_drew ?_ | refine blk_alloc ?_ _)); exact BK393.out) hb); have n2_ := Aside0.mk (below_step (by repeat (first | (with_reducible first | exact HB.out | apply below_alloc | apply pw_below_drewN | apply below_drew1 | refine below_set ?_ GE392.out | refine below_set ?_ GE393.out) | exact HB.out)) hb); clear BK392; clear BK393; clear HB; have BK392 := n0_; have BK393 := n1_; have HB := n2_; clear n0_ n1_ n2_; (try clear hb); (try clear hb2); (try clear hk); (try clear hi)))
            go_meet
            case rel => exact ⟨_, (!t396), (by first | rfl | (simp; done) | (simp [*]; done)), H', ⟨by first | omega | exact Nat.le_refl _⟩, ⟨by (with_reducible repeat (first | refine blk_drewN ?_ _ | refine blk_drew ?_ | refine blk_alloc ?_ _)); exact BK392.out⟩, ⟨by (with_reducible repeat (first | refine blk_drewN ?_ _ | refine blk_drew ?_ | refine blk_alloc ?_ _)); exact BK393.out⟩, ⟨by repeat (first | (with_reducible first | exact HB.out | apply below_alloc | apply pw_below_drewN | apply below_drew1 | refine below_set ?_ GE392.out | refine below_set ?_ GE393.out) | exact HB.out)⟩⟩
          · replace c12 := Bool.eq_false_iff.mpr c12
            subst c12
            have H1 : (impl_MachineFrom.j0 k l1 l2 true a0_0 a0_1 a0_2 a0_3) = some (r1, r2, r3, r4, r5, r6, r7, r8, r9, r10) := by rw [if_neg (show ¬ (false = true) by decide)] at H; exact H
            clear H
            have H := H1
            clear H1
            have H' := Aside0.mk H
            clear H
            have hnb19 := NB392_393.out
            have hnc19 := NB393_392.out
            have hcz20_0 : w6.cell? ⟨gb392, 0, none⟩ = some (.int .i64 a0_0) := (blk_cell BK392.out 0).trans rfl
            have hcz20_1 : w6.cell? ⟨gb392, 1, none⟩ = some (.int .i64 a0_1) := (blk_cell BK392.out 1).trans rfl
            have hcz20_2 : w6.cell? ⟨gb392, 2, none⟩ = some (.int .i64 a0_2) := (blk_cell BK392.out 2).trans rfl
            have hcz20_3 : w6.cell? ⟨gb392, 3, none⟩ = some (.int .i64 a0_3) := (blk_cell BK392.out 3).trans rfl
            have hfz20_0 := blk_frozen BK392.out 0
            have hfz20_1 := blk_frozen BK392.out 1
            have hfz20_2 := blk_frozen BK392.out 2
            have hfz20_3 := blk_frozen BK392.out 3
            go_wp2_with (first | ((with_reducible refine gate_callee (f := 24) rfl ?_); refine goesL_ (some 10) rfl rfl Try.func24 (by kernel_rfl) rfl #[.agg #[.int .i64 a0_0, .int .i64 a0_1, .int .i64 a0_2, .int .i64 a0_3]] rfl (by (try simp only [List.map_toArray, List.map_cons, List.map_nil]); first | done | rfl | (simp only [List.length_drop, List.length_take]; rfl)) ?_; (with_reducible refine (impl_ValidPose.calls a0_0 a0_1 a0_2 a0_3 true _ A7.out).mono ?_); rintro e w21 ⟨rfl, hb⟩; refine ⟨_, rfl, ?_⟩; have n0_ := Aside0.mk (blk_below (g := gb392) (o := .cells #[.int .i64 a0_0, .int .i64 a0_1, .int .i64 a0_2, .int .i64 a0_3] 25 (0, 0)) (by (with_reducible repeat (first | refine blk_drewN ?_ _ | refine blk_drew ?_ | refine blk_alloc ?_ _)); exact BK392.out) hb); have n1_ := Aside0.mk (blk_below (g := gb393) (o := .cells #[.int .i64 0, .int .i64 0, .int .i64 0, .int .i64 0, .int .i64 0, .int .i64 0, .int .i64 0, .int .i64 0, .int .i64 0] 38 (0, 0)) (by (with_reducible repeat (first | refine blk_drewN ?_ _ | refine blk_drew ?_ | refine blk_alloc ?_ _)); exact BK393.out) hb); have n2_ := Aside0.mk (below_step (by repeat (first | (with_reducible first | exact HB.out | apply below_alloc | apply pw_below_drewN | apply below_drew1 | refine below_set ?_ GE392.out | refine below_set ?_ GE393.out) | exact HB.out)) hb); clear BK392; clear BK393; clear HB; have BK392 := n0_; have BK393 := n1_; have HB := n2_; clear n0_ n1_ n2_; (try clear hb); (try clear hb2); (try clear hk); (try clear hi)) | (go_at_call 25; (with_reducible refine (impl_areWithin.calls _ _ l1 0 80 false _ ?side1 ?side2 A11.out).mono ?_); (case side1 => repeat (first | exact (Kd.C_below HR1.out HB.out) | (with_reducible refine Kd.C_alloc ?_ _) | (with_reducible refine Kd.C_drewN ?_ _) | (with_reducible refine Kd.C_drew ?_))); (case side2 => exact HC1.out); rintro e w22 ⟨rfl, hb⟩; have n0_ := Aside0.mk (blk_below (g := gb392) (o := .cells #[.int .i64 a0_0, .int .i64 a0_1, .int .i64 a0_2, .int .i64 a0_3] 25 (0, 0)) (by (with_reducible repeat (first | refine blk_drewN ?_ _ | refine blk_drew ?_ | refine blk_alloc ?_ _)); exact BK392.out) hb); have n1_ := Aside0.mk (blk_below (g := gb393) (o := .cells #[.int .i64 0, .int .i64 0, .int .i64 0, .int .i64 0, .int .i64 0, .int .i64 0, .int .i64 0, .int .i64 0, .int .i64 0] 38 (0, 0)) (by (with_reducible repeat (first | refine blk_drewN ?_ _ | refine blk_drew ?_ | refine blk_alloc ?_ _)); exact BK393.out) hb); have n2_ := Aside0.mk (below_step (by repeat (first | (with_reducible first | exact HB.out | apply below_alloc | apply pw_below_drewN | apply below_drew1 | refine below_set ?_ GE392.out | refine below_set ?_ GE393.out) | exact HB.out)) hb); clear BK392; clear BK393; clear HB; have BK392 := n0_; have BK393 := n1_; have HB := n2_; clear n0_ n1_ n2_; (try clear hb); (try clear hb2); (try clear hk); (try clear hi)))
            go_meet
            case rel => exact ⟨_, (true), (by first | rfl | (simp; done) | (simp [*]; done)), H', ⟨by first | omega | exact Nat.le_refl _⟩, ⟨by (with_reducible repeat (first | refine blk_drewN ?_ _ | refine blk_drew ?_ | refine blk_alloc ?_ _)); exact BK392.out⟩, ⟨by (with_reducible repeat (first | refine blk_drewN ?_ _ | refine blk_drew ?_ | refine blk_alloc ?_ _)); exact BK393.out⟩, ⟨by repeat (first | (with_reducible first | exact HB.out | apply below_alloc | apply pw_below_drewN | apply below_drew1 | refine below_set ?_ GE392.out | refine below_set ?_ GE393.out) | exact HB.out)⟩⟩
        · rw [if_neg c10] at H
          have c10b0 : ((l2.length : Int) == 4) = false := beq_eq_false_iff_ne.mpr c10
          have c10b1 : ((l2.length : Int) != 4) = true := bne_iff_ne.mpr c10
          have H' := Aside0.mk H
          clear H
          have hnb23 := NB392_393.out
          have hnc23 := NB393_392.out
          have hcz24_0 : w6.cell? ⟨gb392, 0, none⟩ = some (.int .i64 a0_0) := (blk_cell BK392.out 0).trans rfl
          have hcz24_1 : w6.cell? ⟨gb392, 1, none⟩ = some (.int .i64 a0_1) := (blk_cell BK392.out 1).trans rfl
          have hcz24_2 : w6.cell? ⟨gb392, 2, none⟩ = some (.int .i64 a0_2) := (blk_cell BK392.out 2).trans rfl
          have hcz24_3 : w6.cell? ⟨gb392, 3, none⟩ = some (.int .i64 a0_3) := (blk_cell BK392.out 3).trans rfl
          have hfz24_0 := blk_frozen BK392.out 0
          have hfz24_1 := blk_frozen BK392.out 1
          have hfz24_2 := blk_frozen BK392.out 2
          have hfz24_3 := blk_frozen BK392.out 3
          go_wp2_with (first | ((with_reducible refine gate_callee (f := 24) rfl ?_); refine goesL_ (some 10) rfl rfl Try.func24 (by kernel_rfl) rfl #[.agg #[.int .i64 a0_0, .int .i64 a0_1, .int .i64 a0_2, .int .i64 a0_3]] rfl (by (try simp only [List.map_toArray, List.map_cons, List.map_nil]); first | done | rfl | (simp only [List.length_drop, List.length_take]; rfl)) ?_; (with_reducible refine (impl_ValidPose.calls a0_0 a0_1 a0_2 a0_3 true _ A7.out).mono ?_); rintro e w25 ⟨rfl, hb⟩; refine ⟨_, rfl, ?_⟩; have n0_ := Aside0.mk (blk_below (g := gb392) (o := .cells #[.int .i64 a0_0, .int .i64 a0_1, .int .i64 a0_2, .int .i64 a0_3] 25 (0, 0)) (by (with_reducible repeat (first | refine blk_drewN ?_ _ | refine blk_drew ?_ | refine blk_alloc ?_ _)); exact BK392.out) hb); have n1_ := Aside0.mk (blk_below (g := gb393) (o := .cells #[.int .i64 0, .int .i64 0, .int .i64 0, .int .i64 0, .int .i64 0, .int .i64 0, .int .i64 0, .int .i64 0, .int .i64 0] 38 (0, 0)) (by (with_reducible repeat (first | refine blk_drewN ?_ _ | refine blk_drew ?_ | refine blk_alloc ?_ _)); exact BK393.out) hb); have n2_ := Aside0.mk (below_step (by repeat (first | (with_reducible first | exact HB.out | apply below_alloc | apply pw_below_drewN | apply below_drew1 | refine below_set ?_ GE392.out | refine below_set ?_ GE393.out) | exact HB.out)) hb); clear BK392; clear BK393; clear HB; have BK392 := n0_; have BK393 := n1_; have HB := n2_; clear n0_ n1_ n2_; (try clear hb); (try clear hb2); (try clear hk); (try clear hi)))
          go_meet
          case rel => exact ⟨_, (true), (by first | rfl | (simp; done) | (simp [*]; done)), H', ⟨by first | omega | exact Nat.le_refl _⟩, ⟨by (with_reducible repeat (first | refine blk_drewN ?_ _ | refine blk_drew ?_ | refine blk_alloc ?_ _)); exact BK392.out⟩, ⟨by (with_reducible repeat (first | refine blk_drewN ?_ _ | refine blk_drew ?_ | refine blk_alloc ?_ _)); exact BK393.out⟩, ⟨by repeat (first | (with_reducible first | exact HB.out | apply below_alloc | apply pw_below_drewN | apply below_drew1 | refine below_set ?_ GE392.out | refine below_set ?_ GE393.out) | exact HB.out)⟩⟩
      · rw [if_neg c9] at H
        have c9b0 : ((l1.length : Int) == 4) = false := beq_eq_false_iff_ne.mpr c9
        have c9b1 : ((l1.length : Int) != 4) = true := bne_iff_ne.mpr c9
        (first | rw [c9b0] | (simp only [i64_w, i32_w]; rw [c9b0]) | skip)
        have H' := Aside0.mk H
        clear H
        have hnb26 := NB392_393.out
        have hnc26 := NB393_392.out
        have hcz27_0 : w6.cell? ⟨gb392, 0, none⟩ = some (.int .i64 a0_0) := (blk_cell BK392.out 0).trans rfl
        have hcz27_1 : w6.cell? ⟨gb392, 1, none⟩ = some (.int .i64 a0_1) := (blk_cell BK392.out 1).trans rfl
        have hcz27_2 : w6.cell? ⟨gb392, 2, none⟩ = some (.int .i64 a0_2) := (blk_cell BK392.out 2).trans rfl
        have hcz27_3 : w6.cell? ⟨gb392, 3, none⟩ = some (.int .i64 a0_3) := (blk_cell BK392.out 3).trans rfl
        have hfz27_0 := blk_frozen BK392.out 0
        have hfz27_1 := blk_frozen BK392.out 1
        have hfz27_2 := blk_frozen BK392.out 2
        have hfz27_3 := blk_frozen BK392.out 3
        go_wp2_with (first | ((with_reducible refine gate_callee (f := 24) rfl ?_); refine goesL_ (some 10) rfl rfl Try.func24 (by kernel_rfl) rfl #[.agg #[.int .i64 a0_0, .int .i64 a0_1, .int .i64 a0_2, .int .i64 a0_3]] rfl (by (try simp only [List.map_toArray, List.map_cons, List.map_nil]); first | done | rfl | (simp only [List.length_drop, List.length_take]; rfl)) ?_; (with_reducible refine (impl_ValidPose.calls a0_0 a0_1 a0_2 a0_3 true _ A7.out).mono ?_); rintro e w28 ⟨rfl, hb⟩; refine ⟨_, rfl, ?_⟩; have n0_ := Aside0.mk (blk_below (g := gb392) (o := .cells #[.int .i64 a0_0, .int .i64 a0_1, .int .i64 a0_2, .int .i64 a0_3] 25 (0, 0)) (by (with_reducible repeat (first | refine blk_drewN ?_ _ | refine blk_drew ?_ | refine blk_alloc ?_ _)); exact BK392.out) hb); have n1_ := Aside0.mk (blk_below (g := gb393) (o := .cells #[.int .i64 0, .int .i64 0, .int .i64 0, .int .i64 0, .int .i64 0, .int .i64 0, .int .i64 0, .int .i64 0, .int .i64 0] 38 (0, 0)) (by (with_reducible repeat (first | refine blk_drewN ?_ _ | refine blk_drew ?_ | refine blk_alloc ?_ _)); exact BK393.out) hb); have n2_ := Aside0.mk (below_step (by repeat (first | (with_reducible first | exact HB.out | apply below_alloc | apply pw_below_drewN | apply below_drew1 | refine below_set ?_ GE392.out | refine below_set ?_ GE393.out) | exact HB.out)) hb); clear BK392; clear BK393; clear HB; have BK392 := n0_; have BK393 := n1_; have HB := n2_; clear n0_ n1_ n2_; (try clear hb); (try clear hb2); (try clear hk); (try clear hi)))
        go_meet
        case rel => exact ⟨_, (true), (by first | rfl | (simp; done) | (simp [*]; done)), H', ⟨by first | omega | exact Nat.le_refl _⟩, ⟨by (with_reducible repeat (first | refine blk_drewN ?_ _ | refine blk_drew ?_ | refine blk_alloc ?_ _)); exact BK392.out⟩, ⟨by (with_reducible repeat (first | refine blk_drewN ?_ _ | refine blk_drew ?_ | refine blk_alloc ?_ _)); exact BK393.out⟩, ⟨by repeat (first | (with_reducible first | exact HB.out | apply below_alloc | apply pw_below_drewN | apply below_drew1 | refine below_set ?_ GE392.out | refine below_set ?_ GE393.out) | exact HB.out)⟩⟩
    · replace c8 := Bool.eq_false_iff.mpr c8
      subst c8
      have H1 : (impl_MachineFrom.j0 k l1 l2 true a0_0 a0_1 a0_2 a0_3) = some (r1, r2, r3, r4, r5, r6, r7, r8, r9, r10) := by rw [if_neg (show ¬ (false = true) by decide)] at H; exact H
      clear H
      have H := H1
      clear H1
      have H' := Aside0.mk H
      clear H
      have hnb29 := NB392_393.out
      have hnc29 := NB393_392.out
      have hcz30_0 : w6.cell? ⟨gb392, 0, none⟩ = some (.int .i64 a0_0) := (blk_cell BK392.out 0).trans rfl
      have hcz30_1 : w6.cell? ⟨gb392, 1, none⟩ = some (.int .i64 a0_1) := (blk_cell BK392.out 1).trans rfl
      have hcz30_2 : w6.cell? ⟨gb392, 2, none⟩ = some (.int .i64 a0_2) := (blk_cell BK392.out 2).trans rfl
      have hcz30_3 : w6.cell? ⟨gb392, 3, none⟩ = some (.int .i64 a0_3) := (blk_cell BK392.out 3).trans rfl
      have hfz30_0 := blk_frozen BK392.out 0
      have hfz30_1 := blk_frozen BK392.out 1
      have hfz30_2 := blk_frozen BK392.out 2
      have hfz30_3 := blk_frozen BK392.out 3
      go_wp2_with (first | ((with_reducible refine gate_callee (f := 24) rfl ?_); refine goesL_ (some 10) rfl rfl Try.func24 (by kernel_rfl) rfl #[.agg #[.int .i64 a0_0, .int .i64 a0_1, .int .i64 a0_2, .int .i64 a0_3]] rfl (by (try simp only [List.map_toArray, List.map_cons, List.map_nil]); first | done | rfl | (simp only [List.length_drop, List.length_take]; rfl)) ?_; (with_reducible refine (impl_ValidPose.calls a0_0 a0_1 a0_2 a0_3 false _ A7.out).mono ?_); rintro e w31 ⟨rfl, hb⟩; refine ⟨_, rfl, ?_⟩; have n0_ := Aside0.mk (blk_below (g := gb392) (o := .cells #[.int .i64 a0_0, .int .i64 a0_1, .int .i64 a0_2, .int .i64 a0_3] 25 (0, 0)) (by (with_reducible repeat (first | refine blk_drewN ?_ _ | refine blk_drew ?_ | refine blk_alloc ?_ _)); exact BK392.out) hb); have n1_ := Aside0.mk (blk_below (g := gb393) (o := .cells #[.int .i64 0, .int .i64 0, .int .i64 0, .int .i64 0, .int .i64 0, .int .i64 0, .int .i64 0, .int .i64 0, .int .i64 0] 38 (0, 0)) (by (with_reducible repeat (first | refine blk_drewN ?_ _ | refine blk_drew ?_ | refine blk_alloc ?_ _)); exact BK393.out) hb); have n2_ := Aside0.mk (below_step (by repeat (first | (with_reducible first | exact HB.out | apply below_alloc | apply pw_below_drewN | apply below_drew1 | refine below_set ?_ GE392.out | refine below_set ?_ GE393.out) | exact HB.out)) hb); clear BK392; clear BK393; clear HB; have BK392 := n0_; have BK393 := n1_; have HB := n2_; clear n0_ n1_ n2_; (try clear hb); (try clear hb2); (try clear hk); (try clear hi)))
      go_meet
      case rel => exact ⟨_, (true), (by first | rfl | (simp; done) | (simp [*]; done)), H', ⟨by first | omega | exact Nat.le_refl _⟩, ⟨by (with_reducible repeat (first | refine blk_drewN ?_ _ | refine blk_drew ?_ | refine blk_alloc ?_ _)); exact BK392.out⟩, ⟨by (with_reducible repeat (first | refine blk_drewN ?_ _ | refine blk_drew ?_ | refine blk_alloc ?_ _)); exact BK393.out⟩, ⟨by repeat (first | (with_reducible first | exact HB.out | apply below_alloc | apply pw_below_drewN | apply below_drew1 | refine below_set ?_ GE392.out | refine below_set ?_ GE393.out) | exact HB.out)⟩⟩
  case rest =>
    clear HC4
    try clear c1
    try clear c2
    try clear p2
    try clear c8
    try clear c9
    try clear c9b0
    try clear c9b1
    try clear c10
    try clear c10b0
    try clear c10b1
    try clear c12
    try clear c14
    try clear c19
    try clear c23
    try clear c24
    try clear c26
    try clear c29
    try clear hcz15_0
    try clear hcz15_1
    try clear hcz15_2
    try clear hcz15_3
    try clear hcz20_0
    try clear hcz20_1
    try clear hcz20_2
    try clear hcz20_3
    try clear hcz24_0
    try clear hcz24_1
    try clear hcz24_2
    try clear hcz24_3
    try clear hcz27_0
    try clear hcz27_1
    try clear hcz27_2
    try clear hcz27_3
    try clear hcz30_0
    try clear hcz30_1
    try clear hcz30_2
    try clear hcz30_3
    try clear hfz15_0
    try clear hfz15_1
    try clear hfz15_2
    try clear hfz15_3
    try clear hfz20_0
    try clear hfz20_1
    try clear hfz20_2
    try clear hfz20_3
    try clear hfz24_0
    try clear hfz24_1
    try clear hfz24_2
    try clear hfz24_3
    try clear hfz27_0
    try clear hfz27_1
    try clear hfz27_2
    try clear hfz27_3
    try clear hfz30_0
    try clear hfz30_1
    try clear hfz30_2
    try clear hfz30_3
    obtain ⟨kq, x31_3, rfl, HA, HJ3, BK392, BK393, HB⟩ := hcut
    cases kq with
    | zero => exact absurd HA.out (by simp [impl_MachineFrom.j0])
    | succ kj3 =>
      have H := HA.out
      clear HA
      simp only [impl_MachineFrom.j0] at H
      by_cases c32 : x31_3 = true
      · subst c32
        have H1 : (some (0, 0, 0, 0, 0, 0, 0, 0, 0, false)) = some (r1, r2, r3, r4, r5, r6, r7, r8, r9, r10) := by rw [if_pos rfl] at H; exact H
        clear H
        have H := H1
        clear H1
        simp only [Option.some.injEq, Prod.mk.injEq] at H
        obtain ⟨rfl, rfl, rfl, rfl, rfl, rfl, rfl, rfl, rfl, rfl⟩ := H
        have hnb33 := NB393_392.out
        have hnc33 := NB392_393.out
        have hcz34_0 : wc.cell? ⟨gb393, 0, none⟩ = some (.int .i64 0) := (blk_cell BK393.out 0).trans rfl
        have hcz34_1 : wc.cell? ⟨gb393, 1, none⟩ = some (.int .i64 0) := (blk_cell BK393.out 1).trans rfl
        have hcz34_2 : wc.cell? ⟨gb393, 2, none⟩ = some (.int .i64 0) := (blk_cell BK393.out 2).trans rfl
        have hcz34_3 : wc.cell? ⟨gb393, 3, none⟩ = some (.int .i64 0) := (blk_cell BK393.out 3).trans rfl
        have hcz34_4 : wc.cell? ⟨gb393, 4, none⟩ = some (.int .i64 0) := (blk_cell BK393.out 4).trans rfl
        have hcz34_5 : wc.cell? ⟨gb393, 5, none⟩ = some (.int .i64 0) := (blk_cell BK393.out 5).trans rfl
        have hcz34_6 : wc.cell? ⟨gb393, 6, none⟩ = some (.int .i64 0) := (blk_cell BK393.out 6).trans rfl
        have hcz34_7 : wc.cell? ⟨gb393, 7, none⟩ = some (.int .i64 0) := (blk_cell BK393.out 7).trans rfl
        have hcz34_8 : wc.cell? ⟨gb393, 8, none⟩ = some (.int .i64 0) := (blk_cell BK393.out 8).trans rfl
        have hfz34_0 := blk_frozen BK393.out 0
        have hfz34_1 := blk_frozen BK393.out 1
        have hfz34_2 := blk_frozen BK393.out 2
        have hfz34_3 := blk_frozen BK393.out 3
        have hfz34_4 := blk_frozen BK393.out 4
        have hfz34_5 := blk_frozen BK393.out 5
        have hfz34_6 := blk_frozen BK393.out 6
        have hfz34_7 := blk_frozen BK393.out 7
        have hfz34_8 := blk_frozen BK393.out 8
        go_wp2
        refine bodyPost_ret (results_ct rfl _ _ gb393 38 #[.int .i64 0, .int .i64 0, .int .i64 0, .int .i64 0, .int .i64 0, .int .i64 0, .int .i64 0, .int .i64 0, .int .i64 0] (0, 0) _ rfl (by (with_reducible repeat (first | refine blk_drewN ?_ _ | refine blk_drew ?_ | refine blk_alloc ?_ _)); refine blk_put (cs := #[.int .i64 0, .int .i64 0, .int .i64 0, .int .i64 0, .int .i64 0, .int .i64 0, .int .i64 0, .int .i64 0, .int .i64 0]) ?_ 8 _ rfl; (with_reducible repeat (first | refine blk_drewN ?_ _ | refine blk_drew ?_ | refine blk_alloc ?_ _)); refine blk_put (cs := #[.int .i64 0, .int .i64 0, .int .i64 0, .int .i64 0, .int .i64 0, .int .i64 0, .int .i64 0, .int .i64 0, .int .i64 0]) ?_ 7 _ rfl; (with_reducible repeat (first | refine blk_drewN ?_ _ | refine blk_drew ?_ | refine blk_alloc ?_ _)); refine blk_put (cs := #[.int .i64 0, .int .i64 0, .int .i64 0, .int .i64 0, .int .i64 0, .int .i64 0, .int .i64 0, .int .i64 0, .int .i64 0]) ?_ 6 _ rfl; (with_reducible repeat (first | refine blk_drewN ?_ _ | refine blk_drew ?_ | refine blk_alloc ?_ _)); refine blk_put (cs := #[.int .i64 0, .int .i64 0, .int .i64 0, .int .i64 0, .int .i64 0, .int .i64 0, .int .i64 0, .int .i64 0, .int .i64 0]) ?_ 5 _ rfl; (with_reducible repeat (first | refine blk_drewN ?_ _ | refine blk_drew ?_ | refine blk_alloc ?_ _)); refine blk_put (cs := #[.int .i64 0, .int .i64 0, .int .i64 0, .int .i64 0, .int .i64 0, .int .i64 0, .int .i64 0, .int .i64 0, .int .i64 0]) ?_ 4 _ rfl; (with_reducible repeat (first | refine blk_drewN ?_ _ | refine blk_drew ?_ | refine blk_alloc ?_ _)); refine blk_put (cs := #[.int .i64 0, .int .i64 0, .int .i64 0, .int .i64 0, .int .i64 0, .int .i64 0, .int .i64 0, .int .i64 0, .int .i64 0]) ?_ 3 _ rfl; (with_reducible repeat (first | refine blk_drewN ?_ _ | refine blk_drew ?_ | refine blk_alloc ?_ _)); refine blk_put (cs := #[.int .i64 0, .int .i64 0, .int .i64 0, .int .i64 0, .int .i64 0, .int .i64 0, .int .i64 0, .int .i64 0, .int .i64 0]) ?_ 2 _ rfl; (with_reducible repeat (first | refine blk_drewN ?_ _ | refine blk_drew ?_ | refine blk_alloc ?_ _)); refine blk_put (cs := #[.int .i64 0, .int .i64 0, .int .i64 0, .int .i64 0, .int .i64 0, .int .i64 0, .int .i64 0, .int .i64 0, .int .i64 0]) ?_ 1 _ rfl; (with_reducible repeat (first | refine blk_drewN ?_ _ | refine blk_drew ?_ | refine blk_alloc ?_ _)); refine blk_put (cs := #[.int .i64 0, .int .i64 0, .int .i64 0, .int .i64 0, .int .i64 0, .int .i64 0, .int .i64 0, .int .i64 0, .int .i64 0]) ?_ 0 _ rfl; (with_reducible repeat (first | refine blk_drewN ?_ _ | refine blk_drew ?_ | refine blk_alloc ?_ _)); exact BK393.out) Try.underlying38 rfl (by kernel_rfl)) rfl ?_
        exact ⟨by first | rfl | (simp [errW_none, errW_some] <;> rfl) | (simp [*, errW_none, errW_some] <;> rfl), by repeat (first | (with_reducible first | exact HB.out | apply below_alloc | apply pw_below_drewN | apply below_drew1 | refine below_set ?_ GE392.out | refine below_set ?_ GE393.out) | exact HB.out)⟩
      · replace c32 := Bool.eq_false_iff.mpr c32
        subst c32
        have H1 : (if 0 < (l2.length : Int) then (if 2 < (l2.length : Int) then ((impl_floorOf.f (wrap64 ((rd l2 0) + (rd l2 2))) 2).bind fun t399 => ((impl_floorOf.f (wrap64 ((rd l2 2) - (rd l2 0))) 4).bind fun t403 => (if 3 < (l2.length : Int) then (if 1 < (l2.length : Int) then ((impl_floorOf.f (wrap64 ((rd l2 3) - (rd l2 1))) 4).bind fun t406 => (if 0 < (l1.length : Int) then (if 1 < (l1.length : Int) then ((impl_ValidMachine.f (wrap64 ((wrap64 (a0_0 + (wrap64 (2 * (wrap64 (a0_2 + t403)))))) - (wrap64 (40 - (rd l1 0))))) (wrap64 ((wrap64 (a0_1 + (wrap64 (2 * (wrap64 (a0_3 + t406)))))) - (wrap64 (40 - (rd l1 1))))) (wrap64 (a0_2 + t403)) (wrap64 (a0_3 + t406)) a0_0 a0_1 a0_2 a0_3 t399).bind fun t409 => (if t409 = true then ((impl_Machine_gaps.f (wrap64 ((wrap64 (a0_0 + (wrap64 (2 * (wrap64 (a0_2 + t403)))))) - (wrap64 (40 - (rd l1 0))))) (wrap64 ((wrap64 (a0_1 + (wrap64 (2 * (wrap64 (a0_3 + t406)))))) - (wrap64 (40 - (rd l1 1))))) (wrap64 (a0_2 + t403)) (wrap64 (a0_3 + t406)) a0_0 a0_1 a0_2 a0_3 t399).bind fun t410 => ((slices_Equal_int64_int64.f kj3 t410 l1).bind fun t413 => (if t413 = true then ((impl_Machine_strokes.f (wrap64 ((wrap64 (a0_0 + (wrap64 (2 * (wrap64 (a0_2 + t403)))))) - (wrap64 (40 - (rd l1 0))))) (wrap64 ((wrap64 (a0_1 + (wrap64 (2 * (wrap64 (a0_3 + t406)))))) - (wrap64 (40 - (rd l1 1))))) (wrap64 (a0_2 + t403)) (wrap64 (a0_3 + t406)) a0_0 a0_1 a0_2 a0_3 t399).bind fun t414 => ((slices_Equal_int64_int64.f kj3 t414 l2).bind fun t417 => (impl_MachineFrom.j1 kj3 (!t417) (wrap64 ((wrap64 (a0_0 + (wrap64 (2 * (wrap64 (a0_2 + t403)))))) - (wrap64 (40 - (rd l1 0))))) (wrap64 ((wrap64 (a0_1 + (wrap64 (2 * (wrap64 (a0_3 + t406)))))) - (wrap64 (40 - (rd l1 1))))) (wrap64 (a0_2 + t403)) (wrap64 (a0_3 + t406)) a0_0 a0_1 a0_2 a0_3 t399))) else (impl_MachineFrom.j1 kj3 true (wrap64 ((wrap64 (a0_0 + (wrap64 (2 * (wrap64 (a0_2 + t403)))))) - (wrap64 (40 - (rd l1 0))))) (wrap64 ((wrap64 (a0_1 + (wrap64 (2 * (wrap64 (a0_3 + t406)))))) - (wrap64 (40 - (rd l1 1))))) (wrap64 (a0_2 + t403)) (wrap64 (a0_3 + t406)) a0_0 a0_1 a0_2 a0_3 t399)))) else (impl_MachineFrom.j1 kj3 true (wrap64 ((wrap64 (a0_0 + (wrap64 (2 * (wrap64 (a0_2 + t403)))))) - (wrap64 (40 - (rd l1 0))))) (wrap64 ((wrap64 (a0_1 + (wrap64 (2 * (wrap64 (a0_3 + t406)))))) - (wrap64 (40 - (rd l1 1))))) (wrap64 (a0_2 + t403)) (wrap64 (a0_3 + t406)) a0_0 a0_1 a0_2 a0_3 t399))) else (none)) else (none))) else (none)) else (none)))) else (none)) else (none)) = some (r1, r2, r3, r4, r5, r6, r7, r8, r9, r10) := by rw [if_neg (show ¬ (false = true) by decide)] at H; exact H
        clear H
        have H := H1
        clear H1
        by_cases c35 : 0 < (l2.length : Int)
        · rw [if_pos c35] at H
          have c35b0 : decide (0 < (l2.length : Int)) = true := decide_eq_true c35
          have c35b1 : decide (0 < l2.length) = true := decide_eq_true (by omega)
          clear c35
          by_cases c36 : 2 < (l2.length : Int)
          · rw [if_pos c36] at H
            have c36b0 : decide (2 < (l2.length : Int)) = true := decide_eq_true c36
            have c36b1 : decide (2 < l2.length) = true := decide_eq_true (by omega)
            clear c36
            replace H := Option.bind_eq_some_iff.mp H
            obtain ⟨t399, A370, H⟩ := H
            replace H : ((impl_floorOf.f (wrap64 ((rd l2 2) - (rd l2 0))) 4).bind fun t403 => (if 3 < (l2.length : Int) then (if 1 < (l2.length : Int) then ((impl_floorOf.f (wrap64 ((rd l2 3) - (rd l2 1))) 4).bind fun t406 => (if 0 < (l1.length : Int) then (if 1 < (l1.length : Int) then ((impl_ValidMachine.f (wrap64 ((wrap64 (a0_0 + (wrap64 (2 * (wrap64 (a0_2 + t403)))))) - (wrap64 (40 - (rd l1 0))))) (wrap64 ((wrap64 (a0_1 + (wrap64 (2 * (wrap64 (a0_3 + t406)))))) - (wrap64 (40 - (rd l1 1))))) (wrap64 (a0_2 + t403)) (wrap64 (a0_3 + t406)) a0_0 a0_1 a0_2 a0_3 t399).bind fun t409 => (if t409 = true then ((impl_Machine_gaps.f (wrap64 ((wrap64 (a0_0 + (wrap64 (2 * (wrap64 (a0_2 + t403)))))) - (wrap64 (40 - (rd l1 0))))) (wrap64 ((wrap64 (a0_1 + (wrap64 (2 * (wrap64 (a0_3 + t406)))))) - (wrap64 (40 - (rd l1 1))))) (wrap64 (a0_2 + t403)) (wrap64 (a0_3 + t406)) a0_0 a0_1 a0_2 a0_3 t399).bind fun t410 => ((slices_Equal_int64_int64.f kj3 t410 l1).bind fun t413 => (if t413 = true then ((impl_Machine_strokes.f (wrap64 ((wrap64 (a0_0 + (wrap64 (2 * (wrap64 (a0_2 + t403)))))) - (wrap64 (40 - (rd l1 0))))) (wrap64 ((wrap64 (a0_1 + (wrap64 (2 * (wrap64 (a0_3 + t406)))))) - (wrap64 (40 - (rd l1 1))))) (wrap64 (a0_2 + t403)) (wrap64 (a0_3 + t406)) a0_0 a0_1 a0_2 a0_3 t399).bind fun t414 => ((slices_Equal_int64_int64.f kj3 t414 l2).bind fun t417 => (impl_MachineFrom.j1 kj3 (!t417) (wrap64 ((wrap64 (a0_0 + (wrap64 (2 * (wrap64 (a0_2 + t403)))))) - (wrap64 (40 - (rd l1 0))))) (wrap64 ((wrap64 (a0_1 + (wrap64 (2 * (wrap64 (a0_3 + t406)))))) - (wrap64 (40 - (rd l1 1))))) (wrap64 (a0_2 + t403)) (wrap64 (a0_3 + t406)) a0_0 a0_1 a0_2 a0_3 t399))) else (impl_MachineFrom.j1 kj3 true (wrap64 ((wrap64 (a0_0 + (wrap64 (2 * (wrap64 (a0_2 + t403)))))) - (wrap64 (40 - (rd l1 0))))) (wrap64 ((wrap64 (a0_1 + (wrap64 (2 * (wrap64 (a0_3 + t406)))))) - (wrap64 (40 - (rd l1 1))))) (wrap64 (a0_2 + t403)) (wrap64 (a0_3 + t406)) a0_0 a0_1 a0_2 a0_3 t399)))) else (impl_MachineFrom.j1 kj3 true (wrap64 ((wrap64 (a0_0 + (wrap64 (2 * (wrap64 (a0_2 + t403)))))) - (wrap64 (40 - (rd l1 0))))) (wrap64 ((wrap64 (a0_1 + (wrap64 (2 * (wrap64 (a0_3 + t406)))))) - (wrap64 (40 - (rd l1 1))))) (wrap64 (a0_2 + t403)) (wrap64 (a0_3 + t406)) a0_0 a0_1 a0_2 a0_3 t399))) else (none)) else (none))) else (none)) else (none))) = some (r1, r2, r3, r4, r5, r6, r7, r8, r9, r10) := H
            have A37 := Aside0.mk A370
            clear A370
            replace H := Option.bind_eq_some_iff.mp H
            obtain ⟨t403, A380, H⟩ := H
            replace H : (if 3 < (l2.length : Int) then (if 1 < (l2.length : Int) then ((impl_floorOf.f (wrap64 ((rd l2 3) - (rd l2 1))) 4).bind fun t406 => (if 0 < (l1.length : Int) then (if 1 < (l1.length : Int) then ((impl_ValidMachine.f (wrap64 ((wrap64 (a0_0 + (wrap64 (2 * (wrap64 (a0_2 + t403)))))) - (wrap64 (40 - (rd l1 0))))) (wrap64 ((wrap64 (a0_1 + (wrap64 (2 * (wrap64 (a0_3 + t406)))))) - (wrap64 (40 - (rd l1 1))))) (wrap64 (a0_2 + t403)) (wrap64 (a0_3 + t406)) a0_0 a0_1 a0_2 a0_3 t399).bind fun t409 => (if t409 = true then ((impl_Machine_gaps.f (wrap64 ((wrap64 (a0_0 + (wrap64 (2 * (wrap64 (a0_2 + t403)))))) - (wrap64 (40 - (rd l1 0))))) (wrap64 ((wrap64 (a0_1 + (wrap64 (2 * (wrap64 (a0_3 + t406)))))) - (wrap64 (40 - (rd l1 1))))) (wrap64 (a0_2 + t403)) (wrap64 (a0_3 + t406)) a0_0 a0_1 a0_2 a0_3 t399).bind fun t410 => ((slices_Equal_int64_int64.f kj3 t410 l1).bind fun t413 => (if t413 = true then ((impl_Machine_strokes.f (wrap64 ((wrap64 (a0_0 + (wrap64 (2 * (wrap64 (a0_2 + t403)))))) - (wrap64 (40 - (rd l1 0))))) (wrap64 ((wrap64 (a0_1 + (wrap64 (2 * (wrap64 (a0_3 + t406)))))) - (wrap64 (40 - (rd l1 1))))) (wrap64 (a0_2 + t403)) (wrap64 (a0_3 + t406)) a0_0 a0_1 a0_2 a0_3 t399).bind fun t414 => ((slices_Equal_int64_int64.f kj3 t414 l2).bind fun t417 => (impl_MachineFrom.j1 kj3 (!t417) (wrap64 ((wrap64 (a0_0 + (wrap64 (2 * (wrap64 (a0_2 + t403)))))) - (wrap64 (40 - (rd l1 0))))) (wrap64 ((wrap64 (a0_1 + (wrap64 (2 * (wrap64 (a0_3 + t406)))))) - (wrap64 (40 - (rd l1 1))))) (wrap64 (a0_2 + t403)) (wrap64 (a0_3 + t406)) a0_0 a0_1 a0_2 a0_3 t399))) else (impl_MachineFrom.j1 kj3 true (wrap64 ((wrap64 (a0_0 + (wrap64 (2 * (wrap64 (a0_2 + t403)))))) - (wrap64 (40 - (rd l1 0))))) (wrap64 ((wrap64 (a0_1 + (wrap64 (2 * (wrap64 (a0_3 + t406)))))) - (wrap64 (40 - (rd l1 1))))) (wrap64 (a0_2 + t403)) (wrap64 (a0_3 + t406)) a0_0 a0_1 a0_2 a0_3 t399)))) else (impl_MachineFrom.j1 kj3 true (wrap64 ((wrap64 (a0_0 + (wrap64 (2 * (wrap64 (a0_2 + t403)))))) - (wrap64 (40 - (rd l1 0))))) (wrap64 ((wrap64 (a0_1 + (wrap64 (2 * (wrap64 (a0_3 + t406)))))) - (wrap64 (40 - (rd l1 1))))) (wrap64 (a0_2 + t403)) (wrap64 (a0_3 + t406)) a0_0 a0_1 a0_2 a0_3 t399))) else (none)) else (none))) else (none)) else (none)) = some (r1, r2, r3, r4, r5, r6, r7, r8, r9, r10) := H
            have A38 := Aside0.mk A380
            clear A380
            by_cases c39 : 3 < (l2.length : Int)
            · rw [if_pos c39] at H
              have c39b0 : decide (3 < (l2.length : Int)) = true := decide_eq_true c39
              have c39b1 : decide (3 < l2.length) = true := decide_eq_true (by omega)
              clear c39
              by_cases c40 : 1 < (l2.length : Int)
              · rw [if_pos c40] at H
                have c40b0 : decide (1 < (l2.length : Int)) = true := decide_eq_true c40
                have c40b1 : decide (1 < l2.length) = true := decide_eq_true (by omega)
                clear c40
                replace H := Option.bind_eq_some_iff.mp H
                obtain ⟨t406, A410, H⟩ := H
                replace H : (if 0 < (l1.length : Int) then (if 1 < (l1.length : Int) then ((impl_ValidMachine.f (wrap64 ((wrap64 (a0_0 + (wrap64 (2 * (wrap64 (a0_2 + t403)))))) - (wrap64 (40 - (rd l1 0))))) (wrap64 ((wrap64 (a0_1 + (wrap64 (2 * (wrap64 (a0_3 + t406)))))) - (wrap64 (40 - (rd l1 1))))) (wrap64 (a0_2 + t403)) (wrap64 (a0_3 + t406)) a0_0 a0_1 a0_2 a0_3 t399).bind fun t409 => (if t409 = true then ((impl_Machine_gaps.f (wrap64 ((wrap64 (a0_0 + (wrap64 (2 * (wrap64 (a0_2 + t403)))))) - (wrap64 (40 - (rd l1 0))))) (wrap64 ((wrap64 (a0_1 + (wrap64 (2 * (wrap64 (a0_3 + t406)))))) - (wrap64 (40 - (rd l1 1))))) (wrap64 (a0_2 + t403)) (wrap64 (a0_3 + t406)) a0_0 a0_1 a0_2 a0_3 t399).bind fun t410 => ((slices_Equal_int64_int64.f kj3 t410 l1).bind fun t413 => (if t413 = true then ((impl_Machine_strokes.f (wrap64 ((wrap64 (a0_0 + (wrap64 (2 * (wrap64 (a0_2 + t403)))))) - (wrap64 (40 - (rd l1 0))))) (wrap64 ((wrap64 (a0_1 + (wrap64 (2 * (wrap64 (a0_3 + t406)))))) - (wrap64 (40 - (rd l1 1))))) (wrap64 (a0_2 + t403)) (wrap64 (a0_3 + t406)) a0_0 a0_1 a0_2 a0_3 t399).bind fun t414 => ((slices_Equal_int64_int64.f kj3 t414 l2).bind fun t417 => (impl_MachineFrom.j1 kj3 (!t417) (wrap64 ((wrap64 (a0_0 + (wrap64 (2 * (wrap64 (a0_2 + t403)))))) - (wrap64 (40 - (rd l1 0))))) (wrap64 ((wrap64 (a0_1 + (wrap64 (2 * (wrap64 (a0_3 + t406)))))) - (wrap64 (40 - (rd l1 1))))) (wrap64 (a0_2 + t403)) (wrap64 (a0_3 + t406)) a0_0 a0_1 a0_2 a0_3 t399))) else (impl_MachineFrom.j1 kj3 true (wrap64 ((wrap64 (a0_0 + (wrap64 (2 * (wrap64 (a0_2 + t403)))))) - (wrap64 (40 - (rd l1 0))))) (wrap64 ((wrap64 (a0_1 + (wrap64 (2 * (wrap64 (a0_3 + t406)))))) - (wrap64 (40 - (rd l1 1))))) (wrap64 (a0_2 + t403)) (wrap64 (a0_3 + t406)) a0_0 a0_1 a0_2 a0_3 t399)))) else (impl_MachineFrom.j1 kj3 true (wrap64 ((wrap64 (a0_0 + (wrap64 (2 * (wrap64 (a0_2 + t403)))))) - (wrap64 (40 - (rd l1 0))))) (wrap64 ((wrap64 (a0_1 + (wrap64 (2 * (wrap64 (a0_3 + t406)))))) - (wrap64 (40 - (rd l1 1))))) (wrap64 (a0_2 + t403)) (wrap64 (a0_3 + t406)) a0_0 a0_1 a0_2 a0_3 t399))) else (none)) else (none)) = some (r1, r2, r3, r4, r5, r6, r7, r8, r9, r10) := H
                have A41 := Aside0.mk A410
                clear A410
                by_cases c42 : 0 < (l1.length : Int)
                · rw [if_pos c42] at H
                  have c42b0 : decide (0 < (l1.length : Int)) = true := decide_eq_true c42
                  have c42b1 : decide (0 < l1.length) = true := decide_eq_true (by omega)
                  clear c42
                  by_cases c43 : 1 < (l1.length : Int)
                  · rw [if_pos c43] at H
                    have c43b0 : decide (1 < (l1.length : Int)) = true := decide_eq_true c43
                    have c43b1 : decide (1 < l1.length) = true := decide_eq_true (by omega)
                    clear c43
                    have HC44 := Aside0.mk H
                    clear H
                    try go_wp2
                    have n0_ := Aside0.mk (blk_drew BK392.out)
                    have n1_ := Aside0.mk (blk_drew BK393.out)
                    have n2_ := Aside0.mk (below_drew1 HB.out)
                    clear BK392
                    clear BK393
                    clear HB
                    have BK392 := n0_
                    have BK393 := n1_
                    have HB := n2_
                    clear n0_ n1_ n2_
                    have p397 : 0 ≤ (0 : Int) := (by omega)
                    have q397 : 0 < (l2.length : Int) := of_decide_eq_true (by first | (with_reducible assumption) | assumption)
                    obtain ⟨ad397, e397, hx397_0⟩ := Kd.at_int HR2.out 0 p397 q397
                    have hw397_0 := hx397_0
                    (try rw [show ((0 : Int)).toNat = 0 from rfl] at hw397_0)
                    (try rw [show 0 * 1 = 0 from rfl] at hw397_0)
                    (try rw [Addr.add_zero'] at hw397_0)
                    cases e397
                    have qi397 : (0 < l2.length) = True := eq_true (by omega)
                    (try rw [show ((0 : Int)).toNat = 0 from rfl] at hx397_0)
                    (try rw [Addr.add_zero'] at hx397_0)
                    replace hx397_0 := (HB.out.cell (World.block_lt_of_cell? w _ hx397_0)).trans hx397_0
                    replace p397 := eq_true p397
                    replace q397 := eq_true q397
                    have p398 : 0 ≤ (2 : Int) := (by omega)
                    have q398 : 2 < (l2.length : Int) := of_decide_eq_true (by first | (with_reducible assumption) | assumption)
                    obtain ⟨ad398, e398, hx398_0⟩ := Kd.at_int HR2.out 2 p398 q398
                    have hw398_0 := hx398_0
                    (try rw [show ((2 : Int)).toNat = 2 from rfl] at hw398_0)
                    (try rw [show 2 * 1 = 2 from rfl] at hw398_0)
                    (try simp only [Nat.reduceMul, Nat.reduceEqDiff, Go.Addr.add, ↓reduceIte] at hw398_0)
                    obtain rfl : ad397 = ad398 := (by injection e398)
                    (try simp only [show (2 : Int).toNat = 2 from rfl, Nat.reduceMul, Nat.reduceEqDiff, Go.Addr.add, ↓reduceIte] at hx398_0)
                    have qi398 : (2 < l2.length) = True := eq_true (by omega)
                    (try rw [show ((2 : Int)).toNat = 2 from rfl] at hx398_0)
                    replace hx398_0 := (HB.out.cell (World.block_lt_of_cell? w _ hx398_0)).trans hx398_0
                    replace p398 := eq_true p398
                    replace q398 := eq_true q398
                    refine start_ (n := 12) (S := fun w' => w'.cell? ⟨gb392, 0, none⟩ = some (.int .i64 a0_0) ∧ w'.cell? ⟨gb392, 1, none⟩ = some (.int .i64 a0_1) ∧ w'.cell? ⟨gb392, 2, none⟩ = some (.int .i64 a0_2) ∧ w'.cell? ⟨gb392, 3, none⟩ = some (.int .i64 a0_3) ∧ w'.cell? ad397 = some (.int .i64 (rd l2 0)) ∧ w'.cell? ⟨ad397.block, ad397.off + 2, none⟩ = some (.int .i64 (rd l2 2))) (ds := []) #[false, false, false, false, false, false, false, false, false, false, false, false] (by kernel_rfl) rfl rfl ⟨(blk_cell BK392.out 0).trans rfl, (blk_cell BK392.out 1).trans rfl, (blk_cell BK392.out 2).trans rfl, (blk_cell BK392.out 3).trans rfl, ((HB.out.cell (World.block_lt_of_cell? w _ hw397_0)).trans hw397_0), ((HB.out.cell (World.block_lt_of_cell? w _ hw398_0)).trans hw398_0)⟩ (fun hHeld => ?_); refine with_tabW impl_MachineFrom.tab3 impl_MachineFrom.bits3 (fun HT_ HW_ => ?_)
                    generalize wc.drew = w45 at BK392 BK393 HB hx397_0 hx398_0 hHeld ⊢
                    refine pure_ (i := 1) (N := some 34) (v := ?_) (a' := ?_) #[false, true, false, false, false, false, false, false, false, false, false, false] rfl rfl (any_of HT_.out (by kernel_rfl)) (fun _ _ _ h => h) (Or.inl ⟨by rfl, ?_⟩) ?_ ?_
                    rotate_left
                    · intro w'
                      go_simp
                      with_reducible rfl
                    rotate_left
                    · simp only [Act.put, List.setIfInBounds_toArray, List.set_cons_zero, List.set_cons_succ, i64_w, i32_w]
                      rfl
                    refine pure_ (i := 2) (N := some 35) (v := ?_) (a' := ?_) #[false, true, true, false, false, false, false, false, false, false, false, false] rfl rfl (any_of HT_.out (by kernel_rfl)) (fun _ _ _ h => h) (Or.inl ⟨by rfl, ?_⟩) ?_ ?_
                    rotate_left
                    · intro w'
                      go_simp
                      with_reducible rfl
                    rotate_left
                    · simp only [Act.put, List.setIfInBounds_toArray, List.set_cons_zero, List.set_cons_succ, i64_w, i32_w]
                      rfl
                    refine pure_ (i := 4) (N := some 37) (v := ?_) (a' := ?_) #[false, true, true, false, true, false, false, false, false, false, false, false] rfl rfl (any_of HT_.out (by kernel_rfl)) (fun _ _ _ h => h) (Or.inl ⟨by rfl, ?_⟩) ?_ ?_
                    rotate_left
                    · intro w'
                      go_simp
                      with_reducible rfl
                    rotate_left
                    · simp only [Act.put, List.setIfInBounds_toArray, List.set_cons_zero, List.set_cons_succ, i64_w, i32_w]
                      rfl
                    refine pure_ (i := 5) (N := some 38) (v := ?_) (a' := ?_) #[false, true, true, false, true, true, false, false, false, false, false, false] rfl rfl (any_of HT_.out (by kernel_rfl)) (fun _ _ _ h => h) (Or.inl ⟨by rfl, ?_⟩) ?_ ?_
                    rotate_left
                    · intro w'
                      go_simp
                      with_reducible rfl
                    rotate_left
                    · simp only [Act.put, List.setIfInBounds_toArray, List.set_cons_zero, List.set_cons_succ, i64_w, i32_w]
                      rfl
                    refine take_ (i := 0) (N := some 33) (v := ?_) (a' := ?_) #[true, true, true, false, true, true, false, false, false, false, false, false] rfl rfl (take_ofW HT_.out HW_.out (by kernel_rfl)) (fun _ _ _ h => h) (Or.inl ⟨by rfl, ?_⟩) hHeld ?_ ?_
                    rotate_left
                    · rintro w' ⟨s0, s1, s2, s3, s4, s5⟩
                      go_simp
                      with_reducible rfl
                    rotate_left
                    · simp only [Act.put, List.setIfInBounds_toArray, List.set_cons_zero, List.set_cons_succ, i64_w, i32_w]
                      rfl
                    refine take_ (i := 3) (N := some 36) (v := ?_) (a' := ?_) #[true, true, true, true, true, true, false, false, false, false, false, false] rfl rfl (take_ofW HT_.out HW_.out (by kernel_rfl)) (fun _ _ _ h => h) (Or.inl ⟨by rfl, ?_⟩) hHeld ?_ ?_
                    rotate_left
                    · rintro w' ⟨s0, s1, s2, s3, s4, s5⟩
                      go_simp
                      with_reducible rfl
                    rotate_left
                    · simp only [Act.put, List.setIfInBounds_toArray, List.set_cons_zero, List.set_cons_succ, i64_w, i32_w]
                      rfl
                    refine take_ (i := 6) (N := some 39) (v := ?_) (a' := ?_) #[true, true, true, true, true, true, true, false, false, false, false, false] rfl rfl (take_ofW HT_.out HW_.out (by kernel_rfl)) (fun _ _ _ h => h) (Or.inl ⟨by rfl, ?_⟩) hHeld ?_ ?_
                    rotate_left
                    · rintro w' ⟨s0, s1, s2, s3, s4, s5⟩
                      go_simp
                      with_reducible rfl
                    rotate_left
                    · simp only [Act.put, List.setIfInBounds_toArray, List.set_cons_zero, List.set_cons_succ, i64_w, i32_w]
                      rfl
                    refine pure_ (i := 7) (N := some 40) (v := ?_) (a' := ?_) #[true, true, true, true, true, true, true, true, false, false, false, false] rfl rfl (any_of HT_.out (by kernel_rfl)) (fun _ _ _ h => h) (Or.inl ⟨by rfl, ?_⟩) ?_ ?_
                    rotate_left
                    · intro w'
                      go_simp
                      with_reducible rfl
                    rotate_left
                    · simp only [Act.put, List.setIfInBounds_toArray, List.set_cons_zero, List.set_cons_succ, i64_w, i32_w]
                      rfl
                    refine join_ (σ := Nat) 1 #[true, true, true, true, true, true, true, true, true, true, true, false] (fun s_ => [(41, .int .i64 t399), (8, .pointer (some ⟨s_, 0, none⟩)), (42, .agg #[.int .i64 0, .int .i64 0, .int .i64 0, .int .i64 0, .int .i64 a0_0, .int .i64 a0_1, .int .i64 a0_2, .int .i64 a0_3, .int .i64 t399])]) (fun s_ w' => (w'.cell? ⟨gb392, 0, none⟩ = some (.int .i64 a0_0) ∧ w'.cell? ⟨gb392, 1, none⟩ = some (.int .i64 a0_1) ∧ w'.cell? ⟨gb392, 2, none⟩ = some (.int .i64 a0_2) ∧ w'.cell? ⟨gb392, 3, none⟩ = some (.int .i64 a0_3) ∧ w'.cell? ad397 = some (.int .i64 (rd l2 0)) ∧ w'.cell? ⟨ad397.block, ad397.off + 2, none⟩ = some (.int .i64 (rd l2 2))) ∧ (w'.heap[gb392]? = some (.cells #[.int .i64 a0_0, .int .i64 a0_1, .int .i64 a0_2, .int .i64 a0_3] 25 (0, 0))) ∧ (w'.heap[gb393]? = some (.cells #[.int .i64 0, .int .i64 0, .int .i64 0, .int .i64 0, .int .i64 0, .int .i64 0, .int .i64 0, .int .i64 0, .int .i64 0] 38 (0, 0))) ∧ (w'.heap[s_]? = some (.cells #[.int .i64 0, .int .i64 0, .int .i64 0, .int .i64 0, .int .i64 0, .int .i64 0, .int .i64 0, .int .i64 0, .int .i64 0] 38 (0, 0))) ∧ (w.heap.size ≤ s_) ∧ (w.heap.size ≤ s_) ∧ (gb392 ≠ s_) ∧ (s_ ≠ gb392) ∧ (gb393 ≠ s_) ∧ (s_ ≠ gb393) ∧ (Below w.heap.size w w')) ?_ ?_
                    rotate_left
                    · intro hCont
                      refine two_ (i := 8) (j := 10) (Ni := some 41) (Nj := some 8) #[true, true, true, true, true, true, true, true, true, false, false, false] #[true, true, true, true, true, true, true, true, false, false, true, false] rfl rfl rfl rfl (two_of HT_.out (by kernel_rfl)) (by decide) (by decide) (fun K hK => ?_) (fun K hK => ?_)
                      · skip
                        refine goes_ Try.func26 (by kernel_rfl) rfl #[.int .i64 (wrap64 ((rd l2 0) + (rd l2 2))), .int .i64 2] (by rfl) rfl rfl (by (try simp only [List.map_toArray, List.map_cons, List.map_nil]); first | done | rfl | (simp only [List.length_drop, List.length_take]; rfl)) ?_
                        with_reducible refine (impl_floorOf.calls (wrap64 ((rd l2 0) + (rd l2 2))) 2 t399 _ A37.out).mono ?_
                        rintro e w46 ⟨rfl, hb⟩
                        refine ⟨_, rfl, ?_⟩
                        have n0_ := Aside0.mk (blk_below (g := gb392) (o := .cells #[.int .i64 a0_0, .int .i64 a0_1, .int .i64 a0_2, .int .i64 a0_3] 25 (0, 0)) (by (with_reducible repeat (first | refine blk_drewN ?_ _ | refine blk_drew ?_ | refine blk_alloc ?_ _)); exact BK392.out) hb)
                        have n1_ := Aside0.mk (blk_below (g := gb393) (o := .cells #[.int .i64 0, .int .i64 0, .int .i64 0, .int .i64 0, .int .i64 0, .int .i64 0, .int .i64 0, .int .i64 0, .int .i64 0] 38 (0, 0)) (by (with_reducible repeat (first | refine blk_drewN ?_ _ | refine blk_drew ?_ | refine blk_alloc ?_ _)); exact BK393.out) hb)
                        have n2_ := Aside0.mk (below_step (by repeat (first | (with_reducible first | exact HB.out | apply below_alloc | apply pw_below_drewN | apply below_drew1 | refine below_set ?_ GE392.out | refine below_set ?_ GE393.out) | exact HB.out)) hb)
                        clear BK392
                        clear BK393
                        clear HB
                        have BK392 := n0_
                        have BK393 := n1_
                        have HB := n2_
                        clear n0_ n1_ n2_
                        (try clear hb)
                        (try clear hb2)
                        (try clear hk)
                        (try clear hi)
                        refine hK.out _ _ ⟨(blk_cell BK392.out 0).trans rfl, (blk_cell BK392.out 1).trans rfl, (blk_cell BK392.out 2).trans rfl, (blk_cell BK392.out 3).trans rfl, ((HB.out.cell (World.block_lt_of_cell? w _ hw397_0)).trans hw397_0), ((HB.out.cell (World.block_lt_of_cell? w _ hw398_0)).trans hw398_0)⟩ (fun hHeld => ?_)
                        clear hK K
                        refine norm_ (a' := ?_) ?_ ?_
                        rotate_left
                        · show Act.put _ (some 41) _ = _
                          simp only [Act.put, List.setIfInBounds_toArray, List.set_cons_zero, List.set_cons_succ, i64_w, i32_w]
                          rfl
                        refine pure_ (i := 9) (N := some 42) (v := ?_) (a' := ?_) #[true, true, true, true, true, true, true, true, true, true, false, false] rfl rfl (any_of HT_.out (by kernel_rfl)) (fun _ _ _ h => h) (Or.inl ⟨by rfl, ?_⟩) ?_ ?_
                        rotate_left
                        · intro w'
                          go_simp
                          with_reducible rfl
                        rotate_left
                        · simp only [Act.put, List.setIfInBounds_toArray, List.set_cons_zero, List.set_cons_succ, i64_w, i32_w]
                          rfl
                        refine one_ (i := 10) (N := some 8) #[true, true, true, true, true, true, true, true, true, true, true, false] rfl rfl (one_of HT_.out (by kernel_rfl)) (by decide) (fun K hK => ?_)
                        refine box_step ?hg (N := 8) ?hd (cs := #[.int .i64 0, .int .i64 0, .int .i64 0, .int .i64 0, .int .i64 0, .int .i64 0, .int .i64 0, .int .i64 0, .int .i64 0]) (t := 38) ?hr ?_; (case hd => rfl); (case hg => rfl); (case hr => first | (go_simp; done) | (go_simp; rfl))
                        intro gb400 hg w47 hbox hb
                        have n0_ := Aside0.mk (blk_below (g := gb392) (o := .cells #[.int .i64 a0_0, .int .i64 a0_1, .int .i64 a0_2, .int .i64 a0_3] 25 (0, 0)) (by (with_reducible repeat (first | refine blk_drewN ?_ _ | refine blk_drew ?_ | refine blk_alloc ?_ _)); exact BK392.out) hb)
                        have n1_ := Aside0.mk (blk_below (g := gb393) (o := .cells #[.int .i64 0, .int .i64 0, .int .i64 0, .int .i64 0, .int .i64 0, .int .i64 0, .int .i64 0, .int .i64 0, .int .i64 0] 38 (0, 0)) (by (with_reducible repeat (first | refine blk_drewN ?_ _ | refine blk_drew ?_ | refine blk_alloc ?_ _)); exact BK393.out) hb)
                        have n2_ := Aside0.mk (below_step (by repeat (first | (with_reducible first | exact HB.out | apply below_alloc | apply pw_below_drewN | apply below_drew1 | refine below_set ?_ GE392.out | refine below_set ?_ GE393.out) | exact HB.out)) hb)
                        have n3_ := Aside0.mk (hbox)
                        have n4_ := Aside0.mk ((by rw [hg]; exact (below_size (by repeat (first | (with_reducible first | exact HB.out | apply below_alloc | apply pw_below_drewN | apply below_drew1 | refine below_set ?_ GE392.out | refine below_set ?_ GE393.out) | exact HB.out))) : w.heap.size ≤ gb400))
                        have n5_ := Aside0.mk ((by rw [hg]; exact (below_size (by repeat (first | (with_reducible first | exact HB.out | apply below_alloc | apply pw_below_drewN | apply below_drew1 | refine below_set ?_ GE392.out | refine below_set ?_ GE393.out) | exact HB.out))) : w.heap.size ≤ gb400))
                        have n6_ := Aside0.mk ((by rw [hg]; exact Nat.ne_of_lt (blk_lt (g := gb392) (o := .cells #[.int .i64 a0_0, .int .i64 a0_1, .int .i64 a0_2, .int .i64 a0_3] 25 (0, 0)) (by (with_reducible repeat (first | refine blk_drewN ?_ _ | refine blk_drew ?_ | refine blk_alloc ?_ _)); exact BK392.out)) : gb392 ≠ gb400))
                        have n7_ := Aside0.mk ((by rw [hg]; exact Nat.ne_of_gt (blk_lt (g := gb392) (o := .cells #[.int .i64 a0_0, .int .i64 a0_1, .int .i64 a0_2, .int .i64 a0_3] 25 (0, 0)) (by (with_reducible repeat (first | refine blk_drewN ?_ _ | refine blk_drew ?_ | refine blk_alloc ?_ _)); exact BK392.out)) : gb400 ≠ gb392))
                        have n8_ := Aside0.mk ((by rw [hg]; exact Nat.ne_of_lt (blk_lt (g := gb393) (o := .cells #[.int .i64 0, .int .i64 0, .int .i64 0, .int .i64 0, .int .i64 0, .int .i64 0, .int .i64 0, .int .i64 0, .int .i64 0] 38 (0, 0)) (by (with_reducible repeat (first | refine blk_drewN ?_ _ | refine blk_drew ?_ | refine blk_alloc ?_ _)); exact BK393.out)) : gb393 ≠ gb400))
                        have n9_ := Aside0.mk ((by rw [hg]; exact Nat.ne_of_gt (blk_lt (g := gb393) (o := .cells #[.int .i64 0, .int .i64 0, .int .i64 0, .int .i64 0, .int .i64 0, .int .i64 0, .int .i64 0, .int .i64 0, .int .i64 0] 38 (0, 0)) (by (with_reducible repeat (first | refine blk_drewN ?_ _ | refine blk_drew ?_ | refine blk_alloc ?_ _)); exact BK393.out)) : gb400 ≠ gb393))
                        clear BK392
                        clear BK393
                        clear HB
                        have BK392 := n0_
                        have BK393 := n1_
                        have HB := n2_
                        have BK400 := n3_
                        have GW400 := n4_
                        have GE400 := n5_
                        have NB392_400 := n6_
                        have NB400_392 := n7_
                        have NB393_400 := n8_
                        have NB400_393 := n9_
                        clear n0_ n1_ n2_ n3_ n4_ n5_ n6_ n7_ n8_ n9_
                        clear hb hbox hg
                        refine hK.out _ _ ⟨(blk_cell BK392.out 0).trans rfl, (blk_cell BK392.out 1).trans rfl, (blk_cell BK392.out 2).trans rfl, (blk_cell BK392.out 3).trans rfl, ((HB.out.cell (World.block_lt_of_cell? w _ hw397_0)).trans hw397_0), ((HB.out.cell (World.block_lt_of_cell? w _ hw398_0)).trans hw398_0)⟩ (fun hHeld => ?_)
                        clear hK K
                        refine norm_ (a' := ?_) ?_ ?_
                        rotate_left
                        · show Act.put _ (some 8) _ = _
                          simp only [Act.put, List.setIfInBounds_toArray, List.set_cons_zero, List.set_cons_succ, i64_w, i32_w]
                          rfl
                        exact norm_ (by simp only [putAll, Act.put, List.setIfInBounds_toArray, List.set_cons_zero, List.set_cons_succ]) (hCont (gb400) _ ⟨hHeld, (by (with_reducible repeat (first | refine blk_drewN ?_ _ | refine blk_drew ?_ | refine blk_alloc ?_ _)); exact BK392.out), (by (with_reducible repeat (first | refine blk_drewN ?_ _ | refine blk_drew ?_ | refine blk_alloc ?_ _)); exact BK393.out), (by (with_reducible repeat (first | refine blk_drewN ?_ _ | refine blk_drew ?_ | refine blk_alloc ?_ _)); exact BK400.out), GW400.out, GE400.out, NB392_400.out, NB400_392.out, NB393_400.out, NB400_393.out, (by repeat (first | (with_reducible first | exact HB.out | apply below_alloc | apply pw_below_drewN | apply below_drew1 | refine below_set ?_ GE392.out | refine below_set ?_ GE393.out | refine below_set ?_ GE400.out) | exact HB.out))⟩)
                      · skip
                        refine box_step ?hg (N := 8) ?hd (cs := #[.int .i64 0, .int .i64 0, .int .i64 0, .int .i64 0, .int .i64 0, .int .i64 0, .int .i64 0, .int .i64 0, .int .i64 0]) (t := 38) ?hr ?_; (case hd => rfl); (case hg => rfl); (case hr => first | (go_simp; done) | (go_simp; rfl))
                        intro gb400 hg w46 hbox hb
                        have n0_ := Aside0.mk (blk_below (g := gb392) (o := .cells #[.int .i64 a0_0, .int .i64 a0_1, .int .i64 a0_2, .int .i64 a0_3] 25 (0, 0)) (by (with_reducible repeat (first | refine blk_drewN ?_ _ | refine blk_drew ?_ | refine blk_alloc ?_ _)); exact BK392.out) hb)
                        have n1_ := Aside0.mk (blk_below (g := gb393) (o := .cells #[.int .i64 0, .int .i64 0, .int .i64 0, .int .i64 0, .int .i64 0, .int .i64 0, .int .i64 0, .int .i64 0, .int .i64 0] 38 (0, 0)) (by (with_reducible repeat (first | refine blk_drewN ?_ _ | refine blk_drew ?_ | refine blk_alloc ?_ _)); exact BK393.out) hb)
                        have n2_ := Aside0.mk (below_step (by repeat (first | (with_reducible first | exact HB.out | apply below_alloc | apply pw_below_drewN | apply below_drew1 | refine below_set ?_ GE392.out | refine below_set ?_ GE393.out) | exact HB.out)) hb)
                        have n3_ := Aside0.mk (hbox)
                        have n4_ := Aside0.mk ((by rw [hg]; exact (below_size (by repeat (first | (with_reducible first | exact HB.out | apply below_alloc | apply pw_below_drewN | apply below_drew1 | refine below_set ?_ GE392.out | refine below_set ?_ GE393.out) | exact HB.out))) : w.heap.size ≤ gb400))
                        have n5_ := Aside0.mk ((by rw [hg]; exact (below_size (by repeat (first | (with_reducible first | exact HB.out | apply below_alloc | apply pw_below_drewN | apply below_drew1 | refine below_set ?_ GE392.out | refine below_set ?_ GE393.out) | exact HB.out))) : w.heap.size ≤ gb400))
                        have n6_ := Aside0.mk ((by rw [hg]; exact Nat.ne_of_lt (blk_lt (g := gb392) (o := .cells #[.int .i64 a0_0, .int .i64 a0_1, .int .i64 a0_2, .int .i64 a0_3] 25 (0, 0)) (by (with_reducible repeat (first | refine blk_drewN ?_ _ | refine blk_drew ?_ | refine blk_alloc ?_ _)); exact BK392.out)) : gb392 ≠ gb400))
                        have n7_ := Aside0.mk ((by rw [hg]; exact Nat.ne_of_gt (blk_lt (g := gb392) (o := .cells #[.int .i64 a0_0, .int .i64 a0_1, .int .i64 a0_2, .int .i64 a0_3] 25 (0, 0)) (by (with_reducible repeat (first | refine blk_drewN ?_ _ | refine blk_drew ?_ | refine blk_alloc ?_ _)); exact BK392.out)) : gb400 ≠ gb392))
                        have n8_ := Aside0.mk ((by rw [hg]; exact Nat.ne_of_lt (blk_lt (g := gb393) (o := .cells #[.int .i64 0, .int .i64 0, .int .i64 0, .int .i64 0, .int .i64 0, .int .i64 0, .int .i64 0, .int .i64 0, .int .i64 0] 38 (0, 0)) (by (with_reducible repeat (first | refine blk_drewN ?_ _ | refine blk_drew ?_ | refine blk_alloc ?_ _)); exact BK393.out)) : gb393 ≠ gb400))
                        have n9_ := Aside0.mk ((by rw [hg]; exact Nat.ne_of_gt (blk_lt (g := gb393) (o := .cells #[.int .i64 0, .int .i64 0, .int .i64 0, .int .i64 0, .int .i64 0, .int .i64 0, .int .i64 0, .int .i64 0, .int .i64 0] 38 (0, 0)) (by (with_reducible repeat (first | refine blk_drewN ?_ _ | refine blk_drew ?_ | refine blk_alloc ?_ _)); exact BK393.out)) : gb400 ≠ gb393))
                        clear BK392
                        clear BK393
                        clear HB
                        have BK392 := n0_
                        have BK393 := n1_
                        have HB := n2_
                        have BK400 := n3_
                        have GW400 := n4_
                        have GE400 := n5_
                        have NB392_400 := n6_
                        have NB400_392 := n7_
                        have NB393_400 := n8_
                        have NB400_393 := n9_
                        clear n0_ n1_ n2_ n3_ n4_ n5_ n6_ n7_ n8_ n9_
                        clear hb hbox hg
                        refine hK.out _ _ ⟨(blk_cell BK392.out 0).trans rfl, (blk_cell BK392.out 1).trans rfl, (blk_cell BK392.out 2).trans rfl, (blk_cell BK392.out 3).trans rfl, ((HB.out.cell (World.block_lt_of_cell? w _ hw397_0)).trans hw397_0), ((HB.out.cell (World.block_lt_of_cell? w _ hw398_0)).trans hw398_0)⟩ (fun hHeld => ?_)
                        clear hK K
                        refine norm_ (a' := ?_) ?_ ?_
                        rotate_left
                        · show Act.put _ (some 8) _ = _
                          simp only [Act.put, List.setIfInBounds_toArray, List.set_cons_zero, List.set_cons_succ, i64_w, i32_w]
                          rfl
                        refine one_ (i := 8) (N := some 41) #[true, true, true, true, true, true, true, true, true, false, true, false] rfl rfl (one_of HT_.out (by kernel_rfl)) (by decide) (fun K hK => ?_)
                        refine goes_ Try.func26 (by kernel_rfl) rfl #[.int .i64 (wrap64 ((rd l2 0) + (rd l2 2))), .int .i64 2] (by rfl) rfl rfl (by (try simp only [List.map_toArray, List.map_cons, List.map_nil]); first | done | rfl | (simp only [List.length_drop, List.length_take]; rfl)) ?_
                        with_reducible refine (impl_floorOf.calls (wrap64 ((rd l2 0) + (rd l2 2))) 2 t399 _ A37.out).mono ?_
                        rintro e w47 ⟨rfl, hb⟩
                        refine ⟨_, rfl, ?_⟩
                        have n0_ := Aside0.mk (blk_below (g := gb392) (o := .cells #[.int .i64 a0_0, .int .i64 a0_1, .int .i64 a0_2, .int .i64 a0_3] 25 (0, 0)) (by (with_reducible repeat (first | refine blk_drewN ?_ _ | refine blk_drew ?_ | refine blk_alloc ?_ _)); exact BK392.out) hb)
                        have n1_ := Aside0.mk (blk_below (g := gb393) (o := .cells #[.int .i64 0, .int .i64 0, .int .i64 0, .int .i64 0, .int .i64 0, .int .i64 0, .int .i64 0, .int .i64 0, .int .i64 0] 38 (0, 0)) (by (with_reducible repeat (first | refine blk_drewN ?_ _ | refine blk_drew ?_ | refine blk_alloc ?_ _)); exact BK393.out) hb)
                        have n2_ := Aside0.mk (blk_below (g := gb400) (o := .cells #[.int .i64 0, .int .i64 0, .int .i64 0, .int .i64 0, .int .i64 0, .int .i64 0, .int .i64 0, .int .i64 0, .int .i64 0] 38 (0, 0)) (by (with_reducible repeat (first | refine blk_drewN ?_ _ | refine blk_drew ?_ | refine blk_alloc ?_ _)); exact BK400.out) hb)
                        have n3_ := Aside0.mk (below_step (by repeat (first | (with_reducible first | exact HB.out | apply below_alloc | apply pw_below_drewN | apply below_drew1 | refine below_set ?_ GE392.out | refine below_set ?_ GE393.out | refine below_set ?_ GE400.out) | exact HB.out)) hb)
                        clear BK392
                        clear BK393
                        clear BK400
                        clear HB
                        have BK392 := n0_
                        have BK393 := n1_
                        have BK400 := n2_
                        have HB := n3_
                        clear n0_ n1_ n2_ n3_
                        (try clear hb)
                        (try clear hb2)
                        (try clear hk)
                        (try clear hi)
                        refine hK.out _ _ ⟨(blk_cell BK392.out 0).trans rfl, (blk_cell BK392.out 1).trans rfl, (blk_cell BK392.out 2).trans rfl, (blk_cell BK392.out 3).trans rfl, ((HB.out.cell (World.block_lt_of_cell? w _ hw397_0)).trans hw397_0), ((HB.out.cell (World.block_lt_of_cell? w _ hw398_0)).trans hw398_0)⟩ (fun hHeld => ?_)
                        clear hK K
                        refine norm_ (a' := ?_) ?_ ?_
                        rotate_left
                        · show Act.put _ (some 41) _ = _
                          simp only [Act.put, List.setIfInBounds_toArray, List.set_cons_zero, List.set_cons_succ, i64_w, i32_w]
                          rfl
                        refine pure_ (i := 9) (N := some 42) (v := ?_) (a' := ?_) #[true, true, true, true, true, true, true, true, true, true, true, false] rfl rfl (any_of HT_.out (by kernel_rfl)) (fun _ _ _ h => h) (Or.inl ⟨by rfl, ?_⟩) ?_ ?_
                        rotate_left
                        · intro w'
                          go_simp
                          with_reducible rfl
                        rotate_left
                        · simp only [Act.put, List.setIfInBounds_toArray, List.set_cons_zero, List.set_cons_succ, i64_w, i32_w]
                          rfl
                        exact norm_ (by simp only [putAll, Act.put, List.setIfInBounds_toArray, List.set_cons_zero, List.set_cons_succ]) (hCont (gb400) _ ⟨hHeld, (by (with_reducible repeat (first | refine blk_drewN ?_ _ | refine blk_drew ?_ | refine blk_alloc ?_ _)); exact BK392.out), (by (with_reducible repeat (first | refine blk_drewN ?_ _ | refine blk_drew ?_ | refine blk_alloc ?_ _)); exact BK393.out), (by (with_reducible repeat (first | refine blk_drewN ?_ _ | refine blk_drew ?_ | refine blk_alloc ?_ _)); exact BK400.out), GW400.out, GE400.out, NB392_400.out, NB400_392.out, NB393_400.out, NB400_393.out, (by repeat (first | (with_reducible first | exact HB.out | apply below_alloc | apply pw_below_drewN | apply below_drew1 | refine below_set ?_ GE392.out | refine below_set ?_ GE393.out | refine below_set ?_ GE400.out) | exact HB.out))⟩)
                    rintro gb400 w48 ⟨hS_, h0_, h1_, h2_, h3_, h4_, h5_, h6_, h7_, h8_, h9_⟩
                    have n0_ : Aside0 (w48.heap[gb392]? = some (.cells #[.int .i64 a0_0, .int .i64 a0_1, .int .i64 a0_2, .int .i64 a0_3] 25 (0, 0))) := ⟨h0_⟩
                    have n1_ : Aside0 (w48.heap[gb393]? = some (.cells #[.int .i64 0, .int .i64 0, .int .i64 0, .int .i64 0, .int .i64 0, .int .i64 0, .int .i64 0, .int .i64 0, .int .i64 0] 38 (0, 0))) := ⟨h1_⟩
                    have n2_ : Aside0 (w48.heap[gb400]? = some (.cells #[.int .i64 0, .int .i64 0, .int .i64 0, .int .i64 0, .int .i64 0, .int .i64 0, .int .i64 0, .int .i64 0, .int .i64 0] 38 (0, 0))) := ⟨h2_⟩
                    have n3_ : Aside0 (w.heap.size ≤ gb400) := ⟨h3_⟩
                    have n4_ : Aside0 (w.heap.size ≤ gb400) := ⟨h4_⟩
                    have n5_ : Aside0 (gb392 ≠ gb400) := ⟨h5_⟩
                    have n6_ : Aside0 (gb400 ≠ gb392) := ⟨h6_⟩
                    have n7_ : Aside0 (gb393 ≠ gb400) := ⟨h7_⟩
                    have n8_ : Aside0 (gb400 ≠ gb393) := ⟨h8_⟩
                    have n9_ : Aside0 (Below w.heap.size w w48) := ⟨h9_⟩
                    clear BK392
                    clear BK393
                    clear HB
                    clear h0_ h1_ h2_ h3_ h4_ h5_ h6_ h7_ h8_ h9_
                    have BK392 := n0_
                    have BK393 := n1_
                    have BK400 := n2_
                    have GW400 := n3_
                    have GE400 := n4_
                    have NB392_400 := n5_
                    have NB400_392 := n6_
                    have NB393_400 := n7_
                    have NB400_393 := n8_
                    have HB := n9_
                    clear n0_ n1_ n2_ n3_ n4_ n5_ n6_ n7_ n8_ n9_
                    have hHeld : w48.cell? ⟨gb392, 0, none⟩ = some (.int .i64 a0_0) ∧ w48.cell? ⟨gb392, 1, none⟩ = some (.int .i64 a0_1) ∧ w48.cell? ⟨gb392, 2, none⟩ = some (.int .i64 a0_2) ∧ w48.cell? ⟨gb392, 3, none⟩ = some (.int .i64 a0_3) ∧ w48.cell? ad397 = some (.int .i64 (rd l2 0)) ∧ w48.cell? ⟨ad397.block, ad397.off + 2, none⟩ = some (.int .i64 (rd l2 2)) := hS_
                    refine norm_ (a' := ?_) ?_ ?_
                    rotate_left
                    · simp only [putAll, Act.put, List.setIfInBounds_toArray, List.set_cons_zero, List.set_cons_succ]
                      rfl
                    refine one_ (i := 11) (N := none) #[true, true, true, true, true, true, true, true, true, true, true, true] rfl rfl (one_of HT_.out (by kernel_rfl)) (by decide) (fun K hK => ?_)
                    have hs49 : w48.cell? ⟨gb400, 0, none⟩ = some (.int .i64 0) := (blk_cell BK400.out 0).trans rfl
                    have hfs49 := blk_frozen BK400.out 0
                    have hns49_0 := NB392_400.out
                    have hns49_1 := NB393_400.out
                    have hms49_0 := NB400_392.out
                    have hms49_1 := NB400_393.out
                    have hs50 : w48.cell? ⟨gb400, 1, none⟩ = some (.int .i64 0) := (blk_cell BK400.out 1).trans rfl
                    have hfs50 := blk_frozen BK400.out 1
                    have hns50_0 := NB392_400.out
                    have hns50_1 := NB393_400.out
                    have hms50_0 := NB400_392.out
                    have hms50_1 := NB400_393.out
                    have hs51 : w48.cell? ⟨gb400, 2, none⟩ = some (.int .i64 0) := (blk_cell BK400.out 2).trans rfl
                    have hfs51 := blk_frozen BK400.out 2
                    have hns51_0 := NB392_400.out
                    have hns51_1 := NB393_400.out
                    have hms51_0 := NB400_392.out
                    have hms51_1 := NB400_393.out
                    have hs52 : w48.cell? ⟨gb400, 3, none⟩ = some (.int .i64 0) := (blk_cell BK400.out 3).trans rfl
                    have hfs52 := blk_frozen BK400.out 3
                    have hns52_0 := NB392_400.out
                    have hns52_1 := NB393_400.out
                    have hms52_0 := NB400_392.out
                    have hms52_1 := NB400_393.out
                    have hs53 : w48.cell? ⟨gb400, 4, none⟩ = some (.int .i64 0) := (blk_cell BK400.out 4).trans rfl
                    have hfs53 := blk_frozen BK400.out 4
                    have hns53_0 := NB392_400.out
                    have hns53_1 := NB393_400.out
                    have hms53_0 := NB400_392.out
                    have hms53_1 := NB400_393.out
                    have hs54 : w48.cell? ⟨gb400, 5, none⟩ = some (.int .i64 0) := (blk_cell BK400.out 5).trans rfl
                    have hfs54 := blk_frozen BK400.out 5
                    have hns54_0 := NB392_400.out
                    have hns54_1 := NB393_400.out
                    have hms54_0 := NB400_392.out
                    have hms54_1 := NB400_393.out
                    have hs55 : w48.cell? ⟨gb400, 6, none⟩ = some (.int .i64 0) := (blk_cell BK400.out 6).trans rfl
                    have hfs55 := blk_frozen BK400.out 6
                    have hns55_0 := NB392_400.out
                    have hns55_1 := NB393_400.out
                    have hms55_0 := NB400_392.out
                    have hms55_1 := NB400_393.out
                    have hs56 : w48.cell? ⟨gb400, 7, none⟩ = some (.int .i64 0) := (blk_cell BK400.out 7).trans rfl
                    have hfs56 := blk_frozen BK400.out 7
                    have hns56_0 := NB392_400.out
                    have hns56_1 := NB393_400.out
                    have hms56_0 := NB400_392.out
                    have hms56_1 := NB400_393.out
                    have hs57 : w48.cell? ⟨gb400, 8, none⟩ = some (.int .i64 0) := (blk_cell BK400.out 8).trans rfl
                    have hfs57 := blk_frozen BK400.out 8
                    have hns57_0 := NB392_400.out
                    have hns57_1 := NB393_400.out
                    have hms57_0 := NB400_392.out
                    have hms57_1 := NB400_393.out
                    refine skip_ (w1 := ?_) (by rfl) rfl ?_ ?_
                    rotate_left
                    · go_simp
                      rfl
                    refine hK.out _ _ ⟨((cell_far (p := ⟨gb400, _, none⟩) NB392_400.out _).trans (((cell_far (p := ⟨gb400, _, none⟩) NB392_400.out _).trans (((cell_far (p := ⟨gb400, _, none⟩) NB392_400.out _).trans (((cell_far (p := ⟨gb400, _, none⟩) NB392_400.out _).trans (((cell_far (p := ⟨gb400, _, none⟩) NB392_400.out _).trans (((cell_far (p := ⟨gb400, _, none⟩) NB392_400.out _).trans (((cell_far (p := ⟨gb400, _, none⟩) NB392_400.out _).trans (((cell_far (p := ⟨gb400, _, none⟩) NB392_400.out _).trans (((cell_far (p := ⟨gb400, _, none⟩) NB392_400.out _).trans (hHeld.1)))))))))))))))))), ((cell_far (p := ⟨gb400, _, none⟩) NB392_400.out _).trans (((cell_far (p := ⟨gb400, _, none⟩) NB392_400.out _).trans (((cell_far (p := ⟨gb400, _, none⟩) NB392_400.out _).trans (((cell_far (p := ⟨gb400, _, none⟩) NB392_400.out _).trans (((cell_far (p := ⟨gb400, _, none⟩) NB392_400.out _).trans (((cell_far (p := ⟨gb400, _, none⟩) NB392_400.out _).trans (((cell_far (p := ⟨gb400, _, none⟩) NB392_400.out _).trans (((cell_far (p := ⟨gb400, _, none⟩) NB392_400.out _).trans (((cell_far (p := ⟨gb400, _, none⟩) NB392_400.out _).trans (hHeld.2.1)))))))))))))))))), ((cell_far (p := ⟨gb400, _, none⟩) NB392_400.out _).trans (((cell_far (p := ⟨gb400, _, none⟩) NB392_400.out _).trans (((cell_far (p := ⟨gb400, _, none⟩) NB392_400.out _).trans (((cell_far (p := ⟨gb400, _, none⟩) NB392_400.out _).trans (((cell_far (p := ⟨gb400, _, none⟩) NB392_400.out _).trans (((cell_far (p := ⟨gb400, _, none⟩) NB392_400.out _).trans (((cell_far (p := ⟨gb400, _, none⟩) NB392_400.out _).trans (((cell_far (p := ⟨gb400, _, none⟩) NB392_400.out _).trans (((cell_far (p := ⟨gb400, _, none⟩) NB392_400.out _).trans (hHeld.2.2.1)))))))))))))))))), ((cell_far (p := ⟨gb400, _, none⟩) NB392_400.out _).trans (((cell_far (p := ⟨gb400, _, none⟩) NB392_400.out _).trans (((cell_far (p := ⟨gb400, _, none⟩) NB392_400.out _).trans (((cell_far (p := ⟨gb400, _, none⟩) NB392_400.out _).trans (((cell_far (p := ⟨gb400, _, none⟩) NB392_400.out _).trans (((cell_far (p := ⟨gb400, _, none⟩) NB392_400.out _).trans (((cell_far (p := ⟨gb400, _, none⟩) NB392_400.out _).trans (((cell_far (p := ⟨gb400, _, none⟩) NB392_400.out _).trans (((cell_far (p := ⟨gb400, _, none⟩) NB392_400.out _).trans (hHeld.2.2.2.1)))))))))))))))))), ((cell_far (p := ⟨gb400, _, none⟩) (by first | exact Nat.ne_of_lt (Nat.lt_of_lt_of_le (by have := World.block_lt_of_cell? _ _ hw397_0; first | rwa [add_block] at this | exact this) GW400.out) | (rw [add_block]; exact Nat.ne_of_lt (Nat.lt_of_lt_of_le (by have := World.block_lt_of_cell? _ _ hw397_0; first | rwa [add_block] at this | exact this) GW400.out)) | (show (Addr.add _ _).block ≠ _; rw [add_block]; exact Nat.ne_of_lt (Nat.lt_of_lt_of_le (by have := World.block_lt_of_cell? _ _ hw397_0; first | rwa [add_block] at this | exact this) GW400.out)) | (dsimp only; exact Nat.ne_of_lt (Nat.lt_of_lt_of_le (by have := World.block_lt_of_cell? _ _ hw397_0; first | rwa [add_block] at this | exact this) GW400.out))) _).trans (((cell_far (p := ⟨gb400, _, none⟩) (by first | exact Nat.ne_of_lt (Nat.lt_of_lt_of_le (by have := World.block_lt_of_cell? _ _ hw397_0; first | rwa [add_block] at this | exact this) GW400.out) | (rw [add_block]; exact Nat.ne_of_lt (Nat.lt_of_lt_of_le (by have := World.block_lt_of_cell? _ _ hw397_0; first | rwa [add_block] at this | exact this) GW400.out)) | (show (Addr.add _ _).block ≠ _; rw [add_block]; exact Nat.ne_of_lt (Nat.lt_of_lt_of_le (by have := World.block_lt_of_cell? _ _ hw397_0; first | rwa [add_block] at this | exact this) GW400.out)) | (dsimp only; exact Nat.ne_of_lt (Nat.lt_of_lt_of_le (by have := World.block_lt_of_cell? _ _ hw397_0; first | rwa [add_block] at this | exact this) GW400.out))) _).trans (((cell_far (p := ⟨gb400, _, none⟩) (by first | exact Nat.ne_of_lt (Nat.lt_of_lt_of_le (by have := World.block_lt_of_cell? _ _ hw397_0; first | rwa [add_block] at this | exact this) GW400.out) | (rw [add_block]; exact Nat.ne_of_lt (Nat.lt_of_lt_of_le (by have := World.block_lt_of_cell? _ _ hw397_0; first | rwa [add_block] at this | exact this) GW400.out)) | (show (Addr.add _ _).block ≠ _; rw [add_block]; exact Nat.ne_of_lt (Nat.lt_of_lt_of_le (by have := World.block_lt_of_cell? _ _ hw397_0; first | rwa [add_block] at this | exact this) GW400.out)) | (dsimp only; exact Nat.ne_of_lt (Nat.lt_of_lt_of_le (by have := World.block_lt_of_cell? _ _ hw397_0; first | rwa [add_block] at this | exact this) GW400.out))) _).trans (((cell_far (p := ⟨gb400, _, none⟩) (by first | exact Nat.ne_of_lt (Nat.lt_of_lt_of_le (by have := World.block_lt_of_cell? _ _ hw397_0; first | rwa [add_block] at this | exact this) GW400.out) | (rw [add_block]; exact Nat.ne_of_lt (Nat.lt_of_lt_of_le (by have := World.block_lt_of_cell? _ _ hw397_0; first | rwa [add_block] at this | exact this) GW400.out)) | (show (Addr.add _ _).block ≠ _; rw [add_block]; exact Nat.ne_of_lt (Nat.lt_of_lt_of_le (by have := World.block_lt_of_cell? _ _ hw397_0; first | rwa [add_block] at this | exact this) GW400.out)) | (dsimp only; exact Nat.ne_of_lt (Nat.lt_of_lt_of_le (by have := World.block_lt_of_cell? _ _ hw397_0; first | rwa [add_block] at this | exact this) GW400.out))) _).trans (((cell_far (p := ⟨gb400, _, none⟩) (by first | exact Nat.ne_of_lt (Nat.lt_of_lt_of_le (by have := World.block_lt_of_cell? _ _ hw397_0; first | rwa [add_block] at this | exact this) GW400.out) | (rw [add_block]; exact Nat.ne_of_lt (Nat.lt_of_lt_of_le (by have := World.block_lt_of_cell? _ _ hw397_0; first | rwa [add_block] at this | exact this) GW400.out)) | (show (Addr.add _ _).block ≠ _; rw [add_block]; exact Nat.ne_of_lt (Nat.lt_of_lt_of_le (by have := World.block_lt_of_cell? _ _ hw397_0; first | rwa [add_block] at this | exact this) GW400.out)) | (dsimp only; exact Nat.ne_of_lt (Nat.lt_of_lt_of_le (by have := World.block_lt_of_cell? _ _ hw397_0; first | rwa [add_block] at this | exact this) GW400.out))) _).trans (((cell_far (p := ⟨gb400, _, none⟩) (by first | exact Nat.ne_of_lt (Nat.lt_of_lt_of_le (by have := World.block_lt_of_cell? _ _ hw397_0; first | rwa [add_block] at this | exact this) GW400.out) | (rw [add_block]; exact Nat.ne_of_lt (Nat.lt_of_lt_of_le (by have := World.block_lt_of_cell? _ _ hw397_0; first | rwa [add_block] at this | exact this) GW400.out)) | (show (Addr.add _ _).block ≠ _; rw [add_block]; exact Nat.ne_of_lt (Nat.lt_of_lt_of_le (by have := World.block_lt_of_cell? _ _ hw397_0; first | rwa [add_block] at this | exact this) GW400.out)) | (dsimp only; exact Nat.ne_of_lt (Nat.lt_of_lt_of_le (by have := World.block_lt_of_cell? _ _ hw397_0; first | rwa [add_block] at this | exact this) GW400.out))) _).trans (((cell_far (p := ⟨gb400, _, none⟩) (by first | exact Nat.ne_of_lt (Nat.lt_of_lt_of_le (by have := World.block_lt_of_cell? _ _ hw397_0; first | rwa [add_block] at this | exact this) GW400.out) | (rw [add_block]; exact Nat.ne_of_lt (Nat.lt_of_lt_of_le (by have := World.block_lt_of_cell? _ _ hw397_0; first | rwa [add_block] at this | exact this) GW400.out)) | (show (Addr.add _ _).block ≠ _; rw [add_block]; exact Nat.ne_of_lt (Nat.lt_of_lt_of_le (by have := World.block_lt_of_cell? _ _ hw397_0; first | rwa [add_block] at this | exact this) GW400.out)) | (dsimp only; exact Nat.ne_of_lt (Nat.lt_of_lt_of_le (by have := World.block_lt_of_cell? _ _ hw397_0; first | rwa [add_block] at this | exact this) GW400.out))) _).trans (((cell_far (p := ⟨gb400, _, none⟩) (by first | exact Nat.ne_of_lt (Nat.lt_of_lt_of_le (by have := World.block_lt_of_cell? _ _ hw397_0; first | rwa [add_block] at this | exact this) GW400.out) | (rw [add_block]; exact Nat.ne_of_lt (Nat.lt_of_lt_of_le (by have := World.block_lt_of_cell? _ _ hw397_0; first | rwa [add_block] at this | exact this) GW400.out)) | (show (Addr.add _ _).block ≠ _; rw [add_block]; exact Nat.ne_of_lt (Nat.lt_of_lt_of_le (by have := World.block_lt_of_cell? _ _ hw397_0; first | rwa [add_block] at this | exact this) GW400.out)) | (dsimp only; exact Nat.ne_of_lt (Nat.lt_of_lt_of_le (by have := World.block_lt_of_cell? _ _ hw397_0; first | rwa [add_block] at this | exact this) GW400.out))) _).trans (((cell_far (p := ⟨gb400, _, none⟩) (by first | exact Nat.ne_of_lt (Nat.lt_of_lt_of_le (by have := World.block_lt_of_cell? _ _ hw397_0; first | rwa [add_block] at this | exact this) GW400.out) | (rw [add_block]; exact Nat.ne_of_lt (Nat.lt_of_lt_of_le (by have := World.block_lt_of_cell? _ _ hw397_0; first | rwa [add_block] at this | exact this) GW400.out)) | (show (Addr.add _ _).block ≠ _; rw [add_block]; exact Nat.ne_of_lt (Nat.lt_of_lt_of_le (by have := World.block_lt_of_cell? _ _ hw397_0; first | rwa [add_block] at this | exact this) GW400.out)) | (dsimp only; exact Nat.ne_of_lt (Nat.lt_of_lt_of_le (by have := World.block_lt_of_cell? _ _ hw397_0; first | rwa [add_block] at this | exact this) GW400.out))) _).trans (hHeld.2.2.2.2.1)))))))))))))))))), ((cell_far (p := ⟨gb400, _, none⟩) (by first | exact Nat.ne_of_lt (Nat.lt_of_lt_of_le (by have := World.block_lt_of_cell? _ _ hw398_0; first | rwa [add_block] at this | exact this) GW400.out) | (rw [add_block]; exact Nat.ne_of_lt (Nat.lt_of_lt_of_le (by have := World.block_lt_of_cell? _ _ hw398_0; first | rwa [add_block] at this | exact this) GW400.out)) | (show (Addr.add _ _).block ≠ _; rw [add_block]; exact Nat.ne_of_lt (Nat.lt_of_lt_of_le (by have := World.block_lt_of_cell? _ _ hw398_0; first | rwa [add_block] at this | exact this) GW400.out)) | (dsimp only; exact Nat.ne_of_lt (Nat.lt_of_lt_of_le (by have := World.block_lt_of_cell? _ _ hw398_0; first | rwa [add_block] at this | exact this) GW400.out))) _).trans (((cell_far (p := ⟨gb400, _, none⟩) (by first | exact Nat.ne_of_lt (Nat.lt_of_lt_of_le (by have := World.block_lt_of_cell? _ _ hw398_0; first | rwa [add_block] at this | exact this) GW400.out) | (rw [add_block]; exact Nat.ne_of_lt (Nat.lt_of_lt_of_le (by have := World.block_lt_of_cell? _ _ hw398_0; first | rwa [add_block] at this | exact this) GW400.out)) | (show (Addr.add _ _).block ≠ _; rw [add_block]; exact Nat.ne_of_lt (Nat.lt_of_lt_of_le (by have := World.block_lt_of_cell? _ _ hw398_0; first | rwa [add_block] at this | exact this) GW400.out)) | (dsimp only; exact Nat.ne_of_lt (Nat.lt_of_lt_of_le (by have := World.block_lt_of_cell? _ _ hw398_0; first | rwa [add_block] at this | exact this) GW400.out))) _).trans (((cell_far (p := ⟨gb400, _, none⟩) (by first | exact Nat.ne_of_lt (Nat.lt_of_lt_of_le (by have := World.block_lt_of_cell? _ _ hw398_0; first | rwa [add_block] at this | exact this) GW400.out) | (rw [add_block]; exact Nat.ne_of_lt (Nat.lt_of_lt_of_le (by have := World.block_lt_of_cell? _ _ hw398_0; first | rwa [add_block] at this | exact this) GW400.out)) | (show (Addr.add _ _).block ≠ _; rw [add_block]; exact Nat.ne_of_lt (Nat.lt_of_lt_of_le (by have := World.block_lt_of_cell? _ _ hw398_0; first | rwa [add_block] at this | exact this) GW400.out)) | (dsimp only; exact Nat.ne_of_lt (Nat.lt_of_lt_of_le (by have := World.block_lt_of_cell? _ _ hw398_0; first | rwa [add_block] at this | exact this) GW400.out))) _).trans (((cell_far (p := ⟨gb400, _, none⟩) (by first | exact Nat.ne_of_lt (Nat.lt_of_lt_of_le (by have := World.block_lt_of_cell? _ _ hw398_0; first | rwa [add_block] at this | exact this) GW400.out) | (rw [add_block]; exact Nat.ne_of_lt (Nat.lt_of_lt_of_le (by have := World.block_lt_of_cell? _ _ hw398_0; first | rwa [add_block] at this | exact this) GW400.out)) | (show (Addr.add _ _).block ≠ _; rw [add_block]; exact Nat.ne_of_lt (Nat.lt_of_lt_of_le (by have := World.block_lt_of_cell? _ _ hw398_0; first | rwa [add_block] at this | exact this) GW400.out)) | (dsimp only; exact Nat.ne_of_lt (Nat.lt_of_lt_of_le (by have := World.block_lt_of_cell? _ _ hw398_0; first | rwa [add_block] at this | exact this) GW400.out))) _).trans (((cell_far (p := ⟨gb400, _, none⟩) (by first | exact Nat.ne_of_lt (Nat.lt_of_lt_of_le (by have := World.block_lt_of_cell? _ _ hw398_0; first | rwa [add_block] at this | exact this) GW400.out) | (rw [add_block]; exact Nat.ne_of_lt (Nat.lt_of_lt_of_le (by have := World.block_lt_of_cell? _ _ hw398_0; first | rwa [add_block] at this | exact this) GW400.out)) | (show (Addr.add _ _).block ≠ _; rw [add_block]; exact Nat.ne_of_lt (Nat.lt_of_lt_of_le (by have := World.block_lt_of_cell? _ _ hw398_0; first | rwa [add_block] at this | exact this) GW400.out)) | (dsimp only; exact Nat.ne_of_lt (Nat.lt_of_lt_of_le (by have := World.block_lt_of_cell? _ _ hw398_0; first | rwa [add_block] at this | exact this) GW400.out))) _).trans (((cell_far (p := ⟨gb400, _, none⟩) (by first | exact Nat.ne_of_lt (Nat.lt_of_lt_of_le (by have := World.block_lt_of_cell? _ _ hw398_0; first | rwa [add_block] at this | exact this) GW400.out) | (rw [add_block]; exact Nat.ne_of_lt (Nat.lt_of_lt_of_le (by have := World.block_lt_of_cell? _ _ hw398_0; first | rwa [add_block] at this | exact this) GW400.out)) | (show (Addr.add _ _).block ≠ _; rw [add_block]; exact Nat.ne_of_lt (Nat.lt_of_lt_of_le (by have := World.block_lt_of_cell? _ _ hw398_0; first | rwa [add_block] at this | exact this) GW400.out)) | (dsimp only; exact Nat.ne_of_lt (Nat.lt_of_lt_of_le (by have := World.block_lt_of_cell? _ _ hw398_0; first | rwa [add_block] at this | exact this) GW400.out))) _).trans (((cell_far (p := ⟨gb400, _, none⟩) (by first | exact Nat.ne_of_lt (Nat.lt_of_lt_of_le (by have := World.block_lt_of_cell? _ _ hw398_0; first | rwa [add_block] at this | exact this) GW400.out) | (rw [add_block]; exact Nat.ne_of_lt (Nat.lt_of_lt_of_le (by have := World.block_lt_of_cell? _ _ hw398_0; first | rwa [add_block] at this | exact this) GW400.out)) | (show (Addr.add _ _).block ≠ _; rw [add_block]; exact Nat.ne_of_lt (Nat.lt_of_lt_of_le (by have := World.block_lt_of_cell? _ _ hw398_0; first | rwa [add_block] at this | exact this) GW400.out)) | (dsimp only; exact Nat.ne_of_lt (Nat.lt_of_lt_of_le (by have := World.block_lt_of_cell? _ _ hw398_0; first | rwa [add_block] at this | exact this) GW400.out))) _).trans (((cell_far (p := ⟨gb400, _, none⟩) (by first | exact Nat.ne_of_lt (Nat.lt_of_lt_of_le (by have := World.block_lt_of_cell? _ _ hw398_0; first | rwa [add_block] at this | exact this) GW400.out) | (rw [add_block]; exact Nat.ne_of_lt (Nat.lt_of_lt_of_le (by have := World.block_lt_of_cell? _ _ hw398_0; first | rwa [add_block] at this | exact this) GW400.out)) | (show (Addr.add _ _).block ≠ _; rw [add_block]; exact Nat.ne_of_lt (Nat.lt_of_lt_of_le (by have := World.block_lt_of_cell? _ _ hw398_0; first | rwa [add_block] at this | exact this) GW400.out)) | (dsimp only; exact Nat.ne_of_lt (Nat.lt_of_lt_of_le (by have := World.block_lt_of_cell? _ _ hw398_0; first | rwa [add_block] at this | exact this) GW400.out))) _).trans (((cell_far (p := ⟨gb400, _, none⟩) (by first | exact Nat.ne_of_lt (Nat.lt_of_lt_of_le (by have := World.block_lt_of_cell? _ _ hw398_0; first | rwa [add_block] at this | exact this) GW400.out) | (rw [add_block]; exact Nat.ne_of_lt (Nat.lt_of_lt_of_le (by have := World.block_lt_of_cell? _ _ hw398_0; first | rwa [add_block] at this | exact this) GW400.out)) | (show (Addr.add _ _).block ≠ _; rw [add_block]; exact Nat.ne_of_lt (Nat.lt_of_lt_of_le (by have := World.block_lt_of_cell? _ _ hw398_0; first | rwa [add_block] at this | exact this) GW400.out)) | (dsimp only; exact Nat.ne_of_lt (Nat.lt_of_lt_of_le (by have := World.block_lt_of_cell? _ _ hw398_0; first | rwa [add_block] at this | exact this) GW400.out))) _).trans (hHeld.2.2.2.2.2))))))))))))))))))⟩ (fun hHeld => ?_)
                    clear hK K
                    refine done_ (done_of HT_.out (by kernel_rfl)) ?_
                    try go_wp2
                    have n0_ : Aside0 ((((((((((w48.setCell ⟨gb400, 0, none⟩ (.int .i64 0)).setCell ⟨gb400, 1, none⟩ (.int .i64 0)).setCell ⟨gb400, 2, none⟩ (.int .i64 0)).setCell ⟨gb400, 3, none⟩ (.int .i64 0)).setCell ⟨gb400, 4, none⟩ (.int .i64 a0_0)).setCell ⟨gb400, 5, none⟩ (.int .i64 a0_1)).setCell ⟨gb400, 6, none⟩ (.int .i64 a0_2)).setCell ⟨gb400, 7, none⟩ (.int .i64 a0_3)).setCell ⟨gb400, 8, none⟩ (.int .i64 t399)).heap[gb392]? = some (.cells #[.int .i64 a0_0, .int .i64 a0_1, .int .i64 a0_2, .int .i64 a0_3] 25 (0, 0))) := ⟨by (with_reducible repeat (first | refine blk_drewN ?_ _ | refine blk_drew ?_ | refine blk_alloc ?_ _)); refine blk_far ?_ NB392_400.out _; (with_reducible repeat (first | refine blk_drewN ?_ _ | refine blk_drew ?_ | refine blk_alloc ?_ _)); refine blk_far ?_ NB392_400.out _; (with_reducible repeat (first | refine blk_drewN ?_ _ | refine blk_drew ?_ | refine blk_alloc ?_ _)); refine blk_far ?_ NB392_400.out _; (with_reducible repeat (first | refine blk_drewN ?_ _ | refine blk_drew ?_ | refine blk_alloc ?_ _)); refine blk_far ?_ NB392_400.out _; (with_reducible repeat (first | refine blk_drewN ?_ _ | refine blk_drew ?_ | refine blk_alloc ?_ _)); refine blk_far ?_ NB392_400.out _; (with_reducible repeat (first | refine blk_drewN ?_ _ | refine blk_drew ?_ | refine blk_alloc ?_ _)); refine blk_far ?_ NB392_400.out _; (with_reducible repeat (first | refine blk_drewN ?_ _ | refine blk_drew ?_ | refine blk_alloc ?_ _)); refine blk_far ?_ NB392_400.out _; (with_reducible repeat (first | refine blk_drewN ?_ _ | refine blk_drew ?_ | refine blk_alloc ?_ _)); refine blk_far ?_ NB392_400.out _; (with_reducible repeat (first | refine blk_drewN ?_ _ | refine blk_drew ?_ | refine blk_alloc ?_ _)); refine blk_far ?_ NB392_400.out _; (with_reducible repeat (first | refine blk_drewN ?_ _ | refine blk_drew ?_ | refine blk_alloc ?_ _)); exact BK392.out⟩
                    have n1_ : Aside0 ((((((((((w48.setCell ⟨gb400, 0, none⟩ (.int .i64 0)).setCell ⟨gb400, 1, none⟩ (.int .i64 0)).setCell ⟨gb400, 2, none⟩ (.int .i64 0)).setCell ⟨gb400, 3, none⟩ (.int .i64 0)).setCell ⟨gb400, 4, none⟩ (.int .i64 a0_0)).setCell ⟨gb400, 5, none⟩ (.int .i64 a0_1)).setCell ⟨gb400, 6, none⟩ (.int .i64 a0_2)).setCell ⟨gb400, 7, none⟩ (.int .i64 a0_3)).setCell ⟨gb400, 8, none⟩ (.int .i64 t399)).heap[gb393]? = some (.cells #[.int .i64 0, .int .i64 0, .int .i64 0, .int .i64 0, .int .i64 0, .int .i64 0, .int .i64 0, .int .i64 0, .int .i64 0] 38 (0, 0))) := ⟨by (with_reducible repeat (first | refine blk_drewN ?_ _ | refine blk_drew ?_ | refine blk_alloc ?_ _)); refine blk_far ?_ NB393_400.out _; (with_reducible repeat (first | refine blk_drewN ?_ _ | refine blk_drew ?_ | refine blk_alloc ?_ _)); refine blk_far ?_ NB393_400.out _; (with_reducible repeat (first | refine blk_drewN ?_ _ | refine blk_drew ?_ | refine blk_alloc ?_ _)); refine blk_far ?_ NB393_400.out _; (with_reducible repeat (first | refine blk_drewN ?_ _ | refine blk_drew ?_ | refine blk_alloc ?_ _)); refine blk_far ?_ NB393_400.out _; (with_reducible repeat (first | refine blk_drewN ?_ _ | refine blk_drew ?_ | refine blk_alloc ?_ _)); refine blk_far ?_ NB393_400.out _; (with_reducible repeat (first | refine blk_drewN ?_ _ | refine blk_drew ?_ | refine blk_alloc ?_ _)); refine blk_far ?_ NB393_400.out _; (with_reducible repeat (first | refine blk_drewN ?_ _ | refine blk_drew ?_ | refine blk_alloc ?_ _)); refine blk_far ?_ NB393_400.out _; (with_reducible repeat (first | refine blk_drewN ?_ _ | refine blk_drew ?_ | refine blk_alloc ?_ _)); refine blk_far ?_ NB393_400.out _; (with_reducible repeat (first | refine blk_drewN ?_ _ | refine blk_drew ?_ | refine blk_alloc ?_ _)); refine blk_far ?_ NB393_400.out _; (with_reducible repeat (first | refine blk_drewN ?_ _ | refine blk_drew ?_ | refine blk_alloc ?_ _)); exact BK393.out⟩
                    have n2_ : Aside0 ((((((((((w48.setCell ⟨gb400, 0, none⟩ (.int .i64 0)).setCell ⟨gb400, 1, none⟩ (.int .i64 0)).setCell ⟨gb400, 2, none⟩ (.int .i64 0)).setCell ⟨gb400, 3, none⟩ (.int .i64 0)).setCell ⟨gb400, 4, none⟩ (.int .i64 a0_0)).setCell ⟨gb400, 5, none⟩ (.int .i64 a0_1)).setCell ⟨gb400, 6, none⟩ (.int .i64 a0_2)).setCell ⟨gb400, 7, none⟩ (.int .i64 a0_3)).setCell ⟨gb400, 8, none⟩ (.int .i64 t399)).heap[gb400]? = some (.cells #[.int .i64 0, .int .i64 0, .int .i64 0, .int .i64 0, .int .i64 a0_0, .int .i64 a0_1, .int .i64 a0_2, .int .i64 a0_3, .int .i64 t399] 38 (0, 0))) := ⟨by (with_reducible repeat (first | refine blk_drewN ?_ _ | refine blk_drew ?_ | refine blk_alloc ?_ _)); refine blk_put (cs := #[.int .i64 0, .int .i64 0, .int .i64 0, .int .i64 0, .int .i64 a0_0, .int .i64 a0_1, .int .i64 a0_2, .int .i64 a0_3, .int .i64 0]) ?_ 8 _ rfl; (with_reducible repeat (first | refine blk_drewN ?_ _ | refine blk_drew ?_ | refine blk_alloc ?_ _)); refine blk_put (cs := #[.int .i64 0, .int .i64 0, .int .i64 0, .int .i64 0, .int .i64 a0_0, .int .i64 a0_1, .int .i64 a0_2, .int .i64 0, .int .i64 0]) ?_ 7 _ rfl; (with_reducible repeat (first | refine blk_drewN ?_ _ | refine blk_drew ?_ | refine blk_alloc ?_ _)); refine blk_put (cs := #[.int .i64 0, .int .i64 0, .int .i64 0, .int .i64 0, .int .i64 a0_0, .int .i64 a0_1, .int .i64 0, .int .i64 0, .int .i64 0]) ?_ 6 _ rfl; (with_reducible repeat (first | refine blk_drewN ?_ _ | refine blk_drew ?_ | refine blk_alloc ?_ _)); refine blk_put (cs := #[.int .i64 0, .int .i64 0, .int .i64 0, .int .i64 0, .int .i64 a0_0, .int .i64 0, .int .i64 0, .int .i64 0, .int .i64 0]) ?_ 5 _ rfl; (with_reducible repeat (first | refine blk_drewN ?_ _ | refine blk_drew ?_ | refine blk_alloc ?_ _)); refine blk_put (cs := #[.int .i64 0, .int .i64 0, .int .i64 0, .int .i64 0, .int .i64 0, .int .i64 0, .int .i64 0, .int .i64 0, .int .i64 0]) ?_ 4 _ rfl; (with_reducible repeat (first | refine blk_drewN ?_ _ | refine blk_drew ?_ | refine blk_alloc ?_ _)); refine blk_put (cs := #[.int .i64 0, .int .i64 0, .int .i64 0, .int .i64 0, .int .i64 0, .int .i64 0, .int .i64 0, .int .i64 0, .int .i64 0]) ?_ 3 _ rfl; (with_reducible repeat (first | refine blk_drewN ?_ _ | refine blk_drew ?_ | refine blk_alloc ?_ _)); refine blk_put (cs := #[.int .i64 0, .int .i64 0, .int .i64 0, .int .i64 0, .int .i64 0, .int .i64 0, .int .i64 0, .int .i64 0, .int .i64 0]) ?_ 2 _ rfl; (with_reducible repeat (first | refine blk_drewN ?_ _ | refine blk_drew ?_ | refine blk_alloc ?_ _)); refine blk_put (cs := #[.int .i64 0, .int .i64 0, .int .i64 0, .int .i64 0, .int .i64 0, .int .i64 0, .int .i64 0, .int .i64 0, .int .i64 0]) ?_ 1 _ rfl; (with_reducible repeat (first | refine blk_drewN ?_ _ | refine blk_drew ?_ | refine blk_alloc ?_ _)); refine blk_put (cs := #[.int .i64 0, .int .i64 0, .int .i64 0, .int .i64 0, .int .i64 0, .int .i64 0, .int .i64 0, .int .i64 0, .int .i64 0]) ?_ 0 _ rfl; (with_reducible repeat (first | refine blk_drewN ?_ _ | refine blk_drew ?_ | refine blk_alloc ?_ _)); exact BK400.out⟩
                    have n3_ : Aside0 (Below w.heap.size w (((((((((w48.setCell ⟨gb400, 0, none⟩ (.int .i64 0)).setCell ⟨gb400, 1, none⟩ (.int .i64 0)).setCell ⟨gb400, 2, none⟩ (.int .i64 0)).setCell ⟨gb400, 3, none⟩ (.int .i64 0)).setCell ⟨gb400, 4, none⟩ (.int .i64 a0_0)).setCell ⟨gb400, 5, none⟩ (.int .i64 a0_1)).setCell ⟨gb400, 6, none⟩ (.int .i64 a0_2)).setCell ⟨gb400, 7, none⟩ (.int .i64 a0_3)).setCell ⟨gb400, 8, none⟩ (.int .i64 t399))) := ⟨by repeat (first | (with_reducible first | exact HB.out | apply below_alloc | apply pw_below_drewN | apply below_drew1 | refine below_set ?_ GE392.out | refine below_set ?_ GE393.out | refine below_set ?_ GE400.out) | exact HB.out)⟩
                    (try clear BK392)
                    (try clear BK393)
                    (try clear BK400)
                    (try clear HB)
                    generalize (((((((((w48.setCell ⟨gb400, 0, none⟩ (.int .i64 0)).setCell ⟨gb400, 1, none⟩ (.int .i64 0)).setCell ⟨gb400, 2, none⟩ (.int .i64 0)).setCell ⟨gb400, 3, none⟩ (.int .i64 0)).setCell ⟨gb400, 4, none⟩ (.int .i64 a0_0)).setCell ⟨gb400, 5, none⟩ (.int .i64 a0_1)).setCell ⟨gb400, 6, none⟩ (.int .i64 a0_2)).setCell ⟨gb400, 7, none⟩ (.int .i64 a0_3)).setCell ⟨gb400, 8, none⟩ (.int .i64 t399)) = w58 at n0_ n1_ n2_ n3_ ⊢
                    have BK392 := n0_
                    have BK393 := n1_
                    have BK400 := n2_
                    have HB := n3_
                    clear n0_ n1_ n2_ n3_
                    have n0_ := Aside0.mk (blk_drew BK392.out)
                    have n1_ := Aside0.mk (blk_drew BK393.out)
                    have n2_ := Aside0.mk (blk_drew BK400.out)
                    have n3_ := Aside0.mk (below_drew1 HB.out)
                    clear BK392
                    clear BK393
                    clear BK400
                    clear HB
                    have BK392 := n0_
                    have BK393 := n1_
                    have BK400 := n2_
                    have HB := n3_
                    clear n0_ n1_ n2_ n3_
                    have p401 : 0 ≤ (2 : Int) := (by omega)
                    have q401 : 2 < (l2.length : Int) := of_decide_eq_true (by first | (with_reducible assumption) | assumption)
                    obtain ⟨ad401, e401, hx401_0⟩ := Kd.at_int HR2.out 2 p401 q401
                    have hw401_0 := hx401_0
                    (try rw [show ((2 : Int)).toNat = 2 from rfl] at hw401_0)
                    (try rw [show 2 * 1 = 2 from rfl] at hw401_0)
                    (try simp only [Nat.reduceMul, Nat.reduceEqDiff, Go.Addr.add, ↓reduceIte] at hw401_0)
                    obtain rfl : ad397 = ad401 := (by injection e401)
                    (try simp only [show (2 : Int).toNat = 2 from rfl, Nat.reduceMul, Nat.reduceEqDiff, Go.Addr.add, ↓reduceIte] at hx401_0)
                    have qi401 : (2 < l2.length) = True := eq_true (by omega)
                    (try rw [show ((2 : Int)).toNat = 2 from rfl] at hx401_0)
                    replace hx401_0 := (HB.out.cell (World.block_lt_of_cell? w _ hx401_0)).trans hx401_0
                    replace p401 := eq_true p401
                    replace q401 := eq_true q401
                    have p402 : 0 ≤ (0 : Int) := (by omega)
                    have q402 : 0 < (l2.length : Int) := of_decide_eq_true (by first | (with_reducible assumption) | assumption)
                    obtain ⟨ad402, e402, hx402_0⟩ := Kd.at_int HR2.out 0 p402 q402
                    have hw402_0 := hx402_0
                    (try rw [show ((0 : Int)).toNat = 0 from rfl] at hw402_0)
                    (try rw [show 0 * 1 = 0 from rfl] at hw402_0)
                    (try rw [Addr.add_zero'] at hw402_0)
                    obtain rfl : ad397 = ad402 := (by injection e402)
                    have qi402 : (0 < l2.length) = True := eq_true (by omega)
                    (try rw [show ((0 : Int)).toNat = 0 from rfl] at hx402_0)
                    (try rw [Addr.add_zero'] at hx402_0)
                    replace hx402_0 := (HB.out.cell (World.block_lt_of_cell? w _ hx402_0)).trans hx402_0
                    replace p402 := eq_true p402
                    replace q402 := eq_true q402
                    refine start_ (n := 14) (S := fun w' => w'.cell? ⟨gb392, 0, none⟩ = some (.int .i64 a0_0) ∧ w'.cell? ⟨gb392, 1, none⟩ = some (.int .i64 a0_1) ∧ w'.cell? ⟨gb392, 2, none⟩ = some (.int .i64 a0_2) ∧ w'.cell? ⟨gb392, 3, none⟩ = some (.int .i64 a0_3) ∧ w'.cell? ⟨ad397.block, ad397.off + 2, none⟩ = some (.int .i64 (rd l2 2)) ∧ w'.cell? ad397 = some (.int .i64 (rd l2 0))) (ds := []) #[false, false, false, false, false, false, false, false, false, false, false, false, false, false] (by kernel_rfl) rfl rfl ⟨(blk_cell BK392.out 0).trans rfl, (blk_cell BK392.out 1).trans rfl, (blk_cell BK392.out 2).trans rfl, (blk_cell BK392.out 3).trans rfl, ((HB.out.cell (World.block_lt_of_cell? w _ hw401_0)).trans hw401_0), ((HB.out.cell (World.block_lt_of_cell? w _ hw402_0)).trans hw402_0)⟩ (fun hHeld => ?_); refine with_tabW impl_MachineFrom.tab4 impl_MachineFrom.bits4 (fun HT_ HW_ => ?_)
                    generalize w58.drew = w59 at BK392 BK393 BK400 HB hx401_0 hx402_0 hHeld ⊢
                    refine pure_ (i := 0) (N := some 43) (v := ?_) (a' := ?_) #[true, false, false, false, false, false, false, false, false, false, false, false, false, false] rfl rfl (any_of HT_.out (by kernel_rfl)) (fun _ _ _ h => h) (Or.inl ⟨by rfl, ?_⟩) ?_ ?_
                    rotate_left
                    · intro w'
                      go_simp
                      with_reducible rfl
                    rotate_left
                    · simp only [Act.put, List.setIfInBounds_toArray, List.set_cons_zero, List.set_cons_succ, i64_w, i32_w]
                      rfl
                    refine pure_ (i := 2) (N := some 45) (v := ?_) (a' := ?_) #[true, false, true, false, false, false, false, false, false, false, false, false, false, false] rfl rfl (any_of HT_.out (by kernel_rfl)) (fun _ _ _ h => h) (Or.inl ⟨by rfl, ?_⟩) ?_ ?_
                    rotate_left
                    · intro w'
                      go_simp
                      with_reducible rfl
                    rotate_left
                    · simp only [Act.put, List.setIfInBounds_toArray, List.set_cons_zero, List.set_cons_succ, i64_w, i32_w]
                      rfl
                    refine pure_ (i := 3) (N := some 46) (v := ?_) (a' := ?_) #[true, false, true, true, false, false, false, false, false, false, false, false, false, false] rfl rfl (any_of HT_.out (by kernel_rfl)) (fun _ _ _ h => h) (Or.inl ⟨by rfl, ?_⟩) ?_ ?_
                    rotate_left
                    · intro w'
                      go_simp
                      with_reducible rfl
                    rotate_left
                    · simp only [Act.put, List.setIfInBounds_toArray, List.set_cons_zero, List.set_cons_succ, i64_w, i32_w]
                      rfl
                    refine pure_ (i := 5) (N := some 48) (v := ?_) (a' := ?_) #[true, false, true, true, false, true, false, false, false, false, false, false, false, false] rfl rfl (any_of HT_.out (by kernel_rfl)) (fun _ _ _ h => h) (Or.inl ⟨by rfl, ?_⟩) ?_ ?_
                    rotate_left
                    · intro w'
                      go_simp
                      with_reducible rfl
                    rotate_left
                    · simp only [Act.put, List.setIfInBounds_toArray, List.set_cons_zero, List.set_cons_succ, i64_w, i32_w]
                      rfl
                    refine pure_ (i := 6) (N := some 49) (v := ?_) (a' := ?_) #[true, false, true, true, false, true, true, false, false, false, false, false, false, false] rfl rfl (any_of HT_.out (by kernel_rfl)) (fun _ _ _ h => h) (Or.inl ⟨by rfl, ?_⟩) ?_ ?_
                    rotate_left
                    · intro w'
                      go_simp
                      with_reducible rfl
                    rotate_left
                    · simp only [Act.put, List.setIfInBounds_toArray, List.set_cons_zero, List.set_cons_succ, i64_w, i32_w]
                      rfl
                    refine take_ (i := 1) (N := some 44) (v := ?_) (a' := ?_) #[true, true, true, true, false, true, true, false, false, false, false, false, false, false] rfl rfl (take_ofW HT_.out HW_.out (by kernel_rfl)) (fun _ _ _ h => h) (Or.inl ⟨by rfl, ?_⟩) hHeld ?_ ?_
                    rotate_left
                    · rintro w' ⟨s0, s1, s2, s3, s4, s5⟩
                      go_simp
                      with_reducible rfl
                    rotate_left
                    · simp only [Act.put, List.setIfInBounds_toArray, List.set_cons_zero, List.set_cons_succ, i64_w, i32_w]
                      rfl
                    refine take_ (i := 4) (N := some 47) (v := ?_) (a' := ?_) #[true, true, true, true, true, true, true, false, false, false, false, false, false, false] rfl rfl (take_ofW HT_.out HW_.out (by kernel_rfl)) (fun _ _ _ h => h) (Or.inl ⟨by rfl, ?_⟩) hHeld ?_ ?_
                    rotate_left
                    · rintro w' ⟨s0, s1, s2, s3, s4, s5⟩
                      go_simp
                      with_reducible rfl
                    rotate_left
                    · simp only [Act.put, List.setIfInBounds_toArray, List.set_cons_zero, List.set_cons_succ, i64_w, i32_w]
                      rfl
                    refine take_ (i := 7) (N := some 50) (v := ?_) (a' := ?_) #[true, true, true, true, true, true, true, true, false, false, false, false, false, false] rfl rfl (take_ofW HT_.out HW_.out (by kernel_rfl)) (fun _ _ _ h => h) (Or.inl ⟨by rfl, ?_⟩) hHeld ?_ ?_
                    rotate_left
                    · rintro w' ⟨s0, s1, s2, s3, s4, s5⟩
                      go_simp
                      with_reducible rfl
                    rotate_left
                    · simp only [Act.put, List.setIfInBounds_toArray, List.set_cons_zero, List.set_cons_succ, i64_w, i32_w]
                      rfl
                    refine pure_ (i := 8) (N := some 51) (v := ?_) (a' := ?_) #[true, true, true, true, true, true, true, true, true, false, false, false, false, false] rfl rfl (any_of HT_.out (by kernel_rfl)) (fun _ _ _ h => h) (Or.inl ⟨by rfl, ?_⟩) ?_ ?_
                    rotate_left
                    · intro w'
                      go_simp
                      with_reducible rfl
                    rotate_left
                    · simp only [Act.put, List.setIfInBounds_toArray, List.set_cons_zero, List.set_cons_succ, i64_w, i32_w]
                      rfl
                    refine one_ (i := 9) (N := some 52) #[true, true, true, true, true, true, true, true, true, true, false, false, false, false] rfl rfl (one_of HT_.out (by kernel_rfl)) (by decide) (fun K hK => ?_)
                    refine goes_ Try.func26 (by kernel_rfl) rfl #[.int .i64 (wrap64 ((rd l2 2) - (rd l2 0))), .int .i64 4] (by rfl) rfl rfl (by (try simp only [List.map_toArray, List.map_cons, List.map_nil]); first | done | rfl | (simp only [List.length_drop, List.length_take]; rfl)) ?_
                    with_reducible refine (impl_floorOf.calls (wrap64 ((rd l2 2) - (rd l2 0))) 4 t403 _ A38.out).mono ?_
                    rintro e w60 ⟨rfl, hb⟩
                    refine ⟨_, rfl, ?_⟩
                    have n0_ := Aside0.mk (blk_below (g := gb392) (o := .cells #[.int .i64 a0_0, .int .i64 a0_1, .int .i64 a0_2, .int .i64 a0_3] 25 (0, 0)) (by (with_reducible repeat (first | refine blk_drewN ?_ _ | refine blk_drew ?_ | refine blk_alloc ?_ _)); exact BK392.out) hb)
                    have n1_ := Aside0.mk (blk_below (g := gb393) (o := .cells #[.int .i64 0, .int .i64 0, .int .i64 0, .int .i64 0, .int .i64 0, .int .i64 0, .int .i64 0, .int .i64 0, .int .i64 0] 38 (0, 0)) (by (with_reducible repeat (first | refine blk_drewN ?_ _ | refine blk_drew ?_ | refine blk_alloc ?_ _)); exact BK393.out) hb)
                    have n2_ := Aside0.mk (blk_below (g := gb400) (o := .cells #[.int .i64 0, .int .i64 0, .int .i64 0, .int .i64 0, .int .i64 a0_0, .int .i64 a0_1, .int .i64 a0_2, .int .i64 a0_3, .int .i64 t399] 38 (0, 0)) (by (with_reducible repeat (first | refine blk_drewN ?_ _ | refine blk_drew ?_ | refine blk_alloc ?_ _)); exact BK400.out) hb)
                    have n3_ := Aside0.mk (below_step (by repeat (first | (with_reducible first | exact HB.out | apply below_alloc | apply pw_below_drewN | apply below_drew1 | refine below_set ?_ GE392.out | refine below_set ?_ GE393.out | refine below_set ?_ GE400.out) | exact HB.out)) hb)
                    clear BK392
                    clear BK393
                    clear BK400
                    clear HB
                    have BK392 := n0_
                    have BK393 := n1_
                    have BK400 := n2_
                    have HB := n3_
                    clear n0_ n1_ n2_ n3_
                    (try clear hb)
                    (try clear hb2)
                    (try clear hk)
                    (try clear hi)
                    refine hK.out _ _ ⟨(blk_cell BK392.out 0).trans rfl, (blk_cell BK392.out 1).trans rfl, (blk_cell BK392.out 2).trans rfl, (blk_cell BK392.out 3).trans rfl, ((HB.out.cell (World.block_lt_of_cell? w _ hw401_0)).trans hw401_0), ((HB.out.cell (World.block_lt_of_cell? w _ hw402_0)).trans hw402_0)⟩ (fun hHeld => ?_)
                    clear hK K
                    refine norm_ (a' := ?_) ?_ ?_
                    rotate_left
                    · show Act.put _ (some 52) _ = _
                      simp only [Act.put, List.setIfInBounds_toArray, List.set_cons_zero, List.set_cons_succ, i64_w, i32_w]
                      rfl
                    refine pure_ (i := 10) (N := some 53) (v := ?_) (a' := ?_) #[true, true, true, true, true, true, true, true, true, true, true, false, false, false] rfl rfl (any_of HT_.out (by kernel_rfl)) (fun _ _ _ h => h) (Or.inl ⟨by rfl, ?_⟩) ?_ ?_
                    rotate_left
                    · intro w'
                      go_simp
                      with_reducible rfl
                    rotate_left
                    · simp only [Act.put, List.setIfInBounds_toArray, List.set_cons_zero, List.set_cons_succ, i64_w, i32_w]
                      rfl
                    refine pure_ (i := 11) (N := some 54) (v := ?_) (a' := ?_) #[true, true, true, true, true, true, true, true, true, true, true, true, false, false] rfl rfl (any_of HT_.out (by kernel_rfl)) (fun _ _ _ h => h) (Or.inl ⟨by rfl, ?_⟩) ?_ ?_
                    rotate_left
                    · intro w'
                      go_simp
                      with_reducible rfl
                    rotate_left
                    · simp only [Act.put, List.setIfInBounds_toArray, List.set_cons_zero, List.set_cons_succ, i64_w, i32_w]
                      rfl
                    refine pure_ (i := 12) (N := some 55) (v := ?_) (a' := ?_) #[true, true, true, true, true, true, true, true, true, true, true, true, true, false] rfl rfl (any_of HT_.out (by kernel_rfl)) (fun _ _ _ h => h) (Or.inl ⟨by rfl, ?_⟩) ?_ ?_
                    rotate_left
                    · intro w'
                      go_simp
                      with_reducible rfl
                    rotate_left
                    · simp only [Act.put, List.setIfInBounds_toArray, List.set_cons_zero, List.set_cons_succ, i64_w, i32_w]
                      rfl
                    refine one_ (i := 13) (N := none) #[true, true, true, true, true, true, true, true, true, true, true, true, true, true] rfl rfl (one_of HT_.out (by kernel_rfl)) (by decide) (fun K hK => ?_)
                    have hs61 : w60.cell? ⟨gb400, 2, none⟩ = some (.int .i64 0) := (blk_cell BK400.out 2).trans rfl
                    have hfs61 := blk_frozen BK400.out 2
                    have hns61_0 := NB392_400.out
                    have hns61_1 := NB393_400.out
                    have hms61_0 := NB400_392.out
                    have hms61_1 := NB400_393.out
                    refine skip_ (w1 := ?_) (by rfl) rfl ?_ ?_
                    rotate_left
                    · go_simp
                      rfl
                    refine hK.out _ _ ⟨((cell_far (p := ⟨gb400, _, none⟩) NB392_400.out _).trans (hHeld.1)), ((cell_far (p := ⟨gb400, _, none⟩) NB392_400.out _).trans (hHeld.2.1)), ((cell_far (p := ⟨gb400, _, none⟩) NB392_400.out _).trans (hHeld.2.2.1)), ((cell_far (p := ⟨gb400, _, none⟩) NB392_400.out _).trans (hHeld.2.2.2.1)), ((cell_far (p := ⟨gb400, _, none⟩) (by first | exact Nat.ne_of_lt (Nat.lt_of_lt_of_le (by have := World.block_lt_of_cell? _ _ hw401_0; first | rwa [add_block] at this | exact this) GW400.out) | (rw [add_block]; exact Nat.ne_of_lt (Nat.lt_of_lt_of_le (by have := World.block_lt_of_cell? _ _ hw401_0; first | rwa [add_block] at this | exact this) GW400.out)) | (show (Addr.add _ _).block ≠ _; rw [add_block]; exact Nat.ne_of_lt (Nat.lt_of_lt_of_le (by have := World.block_lt_of_cell? _ _ hw401_0; first | rwa [add_block] at this | exact this) GW400.out)) | (dsimp only; exact Nat.ne_of_lt (Nat.lt_of_lt_of_le (by have := World.block_lt_of_cell? _ _ hw401_0; first | rwa [add_block] at this | exact this) GW400.out))) _).trans (hHeld.2.2.2.2.1)), ((cell_far (p := ⟨gb400, _, none⟩) (by first | exact Nat.ne_of_lt (Nat.lt_of_lt_of_le (by have := World.block_lt_of_cell? _ _ hw402_0; first | rwa [add_block] at this | exact this) GW400.out) | (rw [add_block]; exact Nat.ne_of_lt (Nat.lt_of_lt_of_le (by have := World.block_lt_of_cell? _ _ hw402_0; first | rwa [add_block] at this | exact this) GW400.out)) | (show (Addr.add _ _).block ≠ _; rw [add_block]; exact Nat.ne_of_lt (Nat.lt_of_lt_of_le (by have := World.block_lt_of_cell? _ _ hw402_0; first | rwa [add_block] at this | exact this) GW400.out)) | (dsimp only; exact Nat.ne_of_lt (Nat.lt_of_lt_of_le (by have := World.block_lt_of_cell? _ _ hw402_0; first | rwa [add_block] at this | exact this) GW400.out))) _).trans (hHeld.2.2.2.2.2))⟩ (fun hHeld => ?_)
                    clear hK K
                    refine done_ (done_of HT_.out (by kernel_rfl)) ?_
                    try go_wp2
                    have n0_ : Aside0 ((w60.setCell ⟨gb400, 2, none⟩ (.int .i64 (wrap64 (a0_2 + t403)))).heap[gb392]? = some (.cells #[.int .i64 a0_0, .int .i64 a0_1, .int .i64 a0_2, .int .i64 a0_3] 25 (0, 0))) := ⟨by (with_reducible repeat (first | refine blk_drewN ?_ _ | refine blk_drew ?_ | refine blk_alloc ?_ _)); refine blk_far ?_ NB392_400.out _; (with_reducible repeat (first | refine blk_drewN ?_ _ | refine blk_drew ?_ | refine blk_alloc ?_ _)); exact BK392.out⟩
                    have n1_ : Aside0 ((w60.setCell ⟨gb400, 2, none⟩ (.int .i64 (wrap64 (a0_2 + t403)))).heap[gb393]? = some (.cells #[.int .i64 0, .int .i64 0, .int .i64 0, .int .i64 0, .int .i64 0, .int .i64 0, .int .i64 0, .int .i64 0, .int .i64 0] 38 (0, 0))) := ⟨by (with_reducible repeat (first | refine blk_drewN ?_ _ | refine blk_drew ?_ | refine blk_alloc ?_ _)); refine blk_far ?_ NB393_400.out _; (with_reducible repeat (first | refine blk_drewN ?_ _ | refine blk_drew ?_ | refine blk_alloc ?_ _)); exact BK393.out⟩
                    have n2_ : Aside0 ((w60.setCell ⟨gb400, 2, none⟩ (.int .i64 (wrap64 (a0_2 + t403)))).heap[gb400]? = some (.cells #[.int .i64 0, .int .i64 0, .int .i64 (wrap64 (a0_2 + t403)), .int .i64 0, .int .i64 a0_0, .int .i64 a0_1, .int .i64 a0_2, .int .i64 a0_3, .int .i64 t399] 38 (0, 0))) := ⟨by (with_reducible repeat (first | refine blk_drewN ?_ _ | refine blk_drew ?_ | refine blk_alloc ?_ _)); refine blk_put (cs := #[.int .i64 0, .int .i64 0, .int .i64 0, .int .i64 0, .int .i64 a0_0, .int .i64 a0_1, .int .i64 a0_2, .int .i64 a0_3, .int .i64 t399]) ?_ 2 _ rfl; (with_reducible repeat (first | refine blk_drewN ?_ _ | refine blk_drew ?_ | refine blk_alloc ?_ _)); exact BK400.out⟩
                    have n3_ : Aside0 (Below w.heap.size w (w60.setCell ⟨gb400, 2, none⟩ (.int .i64 (wrap64 (a0_2 + t403))))) := ⟨by repeat (first | (with_reducible first | exact HB.out | apply below_alloc | apply pw_below_drewN | apply below_drew1 | refine below_set ?_ GE392.out | refine below_set ?_ GE393.out | refine below_set ?_ GE400.out) | exact HB.out)⟩
                    (try clear BK392)
                    (try clear BK393)
                    (try clear BK400)
                    (try clear HB)
                    generalize (w60.setCell ⟨gb400, 2, none⟩ (.int .i64 (wrap64 (a0_2 + t403)))) = w62 at n0_ n1_ n2_ n3_ ⊢
                    have BK392 := n0_
                    have BK393 := n1_
                    have BK400 := n2_
                    have HB := n3_
                    clear n0_ n1_ n2_ n3_
                    have n0_ := Aside0.mk (blk_drew BK392.out)
                    have n1_ := Aside0.mk (blk_drew BK393.out)
                    have n2_ := Aside0.mk (blk_drew BK400.out)
                    have n3_ := Aside0.mk (below_drew1 HB.out)
                    clear BK392
                    clear BK393
                    clear BK400
                    clear HB
                    have BK392 := n0_
                    have BK393 := n1_
                    have BK400 := n2_
                    have HB := n3_
                    clear n0_ n1_ n2_ n3_
                    have p404 : 0 ≤ (3 : Int) := (by omega)
                    have q404 : 3 < (l2.length : Int) := of_decide_eq_true (by first | (with_reducible assumption) | assumption)
                    obtain ⟨ad404, e404, hx404_0⟩ := Kd.at_int HR2.out 3 p404 q404
                    have hw404_0 := hx404_0
                    (try rw [show ((3 : Int)).toNat = 3 from rfl] at hw404_0)
                    (try rw [show 3 * 1 = 3 from rfl] at hw404_0)
                    (try simp only [Nat.reduceMul, Nat.reduceEqDiff, Go.Addr.add, ↓reduceIte] at hw404_0)
                    obtain rfl : ad397 = ad404 := (by injection e404)
                    (try simp only [show (3 : Int).toNat = 3 from rfl, Nat.reduceMul, Nat.reduceEqDiff, Go.Addr.add, ↓reduceIte] at hx404_0)
                    have qi404 : (3 < l2.length) = True := eq_true (by omega)
                    (try rw [show ((3 : Int)).toNat = 3 from rfl] at hx404_0)
                    replace hx404_0 := (HB.out.cell (World.block_lt_of_cell? w _ hx404_0)).trans hx404_0
                    replace p404 := eq_true p404
                    replace q404 := eq_true q404
                    have p405 : 0 ≤ (1 : Int) := (by omega)
                    have q405 : 1 < (l2.length : Int) := of_decide_eq_true (by first | (with_reducible assumption) | assumption)
                    obtain ⟨ad405, e405, hx405_0⟩ := Kd.at_int HR2.out 1 p405 q405
                    have hw405_0 := hx405_0
                    (try rw [show ((1 : Int)).toNat = 1 from rfl] at hw405_0)
                    (try rw [show 1 * 1 = 1 from rfl] at hw405_0)
                    (try simp only [Nat.reduceMul, Nat.reduceEqDiff, Go.Addr.add, ↓reduceIte] at hw405_0)
                    obtain rfl : ad397 = ad405 := (by injection e405)
                    (try simp only [show (1 : Int).toNat = 1 from rfl, Nat.reduceMul, Nat.reduceEqDiff, Go.Addr.add, ↓reduceIte] at hx405_0)
                    have qi405 : (1 < l2.length) = True := eq_true (by omega)
                    (try rw [show ((1 : Int)).toNat = 1 from rfl] at hx405_0)
                    replace hx405_0 := (HB.out.cell (World.block_lt_of_cell? w _ hx405_0)).trans hx405_0
                    replace p405 := eq_true p405
                    replace q405 := eq_true q405
                    refine start_ (n := 14) (S := fun w' => w'.cell? ⟨gb392, 0, none⟩ = some (.int .i64 a0_0) ∧ w'.cell? ⟨gb392, 1, none⟩ = some (.int .i64 a0_1) ∧ w'.cell? ⟨gb392, 2, none⟩ = some (.int .i64 a0_2) ∧ w'.cell? ⟨gb392, 3, none⟩ = some (.int .i64 a0_3) ∧ w'.cell? ⟨ad397.block, ad397.off + 3, none⟩ = some (.int .i64 (rd l2 3)) ∧ w'.cell? ⟨ad397.block, ad397.off + 1, none⟩ = some (.int .i64 (rd l2 1))) (ds := []) #[false, false, false, false, false, false, false, false, false, false, false, false, false, false] (by kernel_rfl) rfl rfl ⟨(blk_cell BK392.out 0).trans rfl, (blk_cell BK392.out 1).trans rfl, (blk_cell BK392.out 2).trans rfl, (blk_cell BK392.out 3).trans rfl, ((HB.out.cell (World.block_lt_of_cell? w _ hw404_0)).trans hw404_0), ((HB.out.cell (World.block_lt_of_cell? w _ hw405_0)).trans hw405_0)⟩ (fun hHeld => ?_); refine with_tabW impl_MachineFrom.tab5 impl_MachineFrom.bits5 (fun HT_ HW_ => ?_)
                    generalize w62.drew = w63 at BK392 BK393 BK400 HB hx404_0 hx405_0 hHeld ⊢
                    refine pure_ (i := 0) (N := some 56) (v := ?_) (a' := ?_) #[true, false, false, false, false, false, false, false, false, false, false, false, false, false] rfl rfl (any_of HT_.out (by kernel_rfl)) (fun _ _ _ h => h) (Or.inl ⟨by rfl, ?_⟩) ?_ ?_
                    rotate_left
                    · intro w'
                      go_simp
                      with_reducible rfl
                    rotate_left
                    · simp only [Act.put, List.setIfInBounds_toArray, List.set_cons_zero, List.set_cons_succ, i64_w, i32_w]
                      rfl
                    refine pure_ (i := 2) (N := some 58) (v := ?_) (a' := ?_) #[true, false, true, false, false, false, false, false, false, false, false, false, false, false] rfl rfl (any_of HT_.out (by kernel_rfl)) (fun _ _ _ h => h) (Or.inl ⟨by rfl, ?_⟩) ?_ ?_
                    rotate_left
                    · intro w'
                      go_simp
                      with_reducible rfl
                    rotate_left
                    · simp only [Act.put, List.setIfInBounds_toArray, List.set_cons_zero, List.set_cons_succ, i64_w, i32_w]
                      rfl
                    refine pure_ (i := 3) (N := some 59) (v := ?_) (a' := ?_) #[true, false, true, true, false, false, false, false, false, false, false, false, false, false] rfl rfl (any_of HT_.out (by kernel_rfl)) (fun _ _ _ h => h) (Or.inl ⟨by rfl, ?_⟩) ?_ ?_
                    rotate_left
                    · intro w'
                      go_simp
                      with_reducible rfl
                    rotate_left
                    · simp only [Act.put, List.setIfInBounds_toArray, List.set_cons_zero, List.set_cons_succ, i64_w, i32_w]
                      rfl
                    refine pure_ (i := 5) (N := some 61) (v := ?_) (a' := ?_) #[true, false, true, true, false, true, false, false, false, false, false, false, false, false] rfl rfl (any_of HT_.out (by kernel_rfl)) (fun _ _ _ h => h) (Or.inl ⟨by rfl, ?_⟩) ?_ ?_
                    rotate_left
                    · intro w'
                      go_simp
                      with_reducible rfl
                    rotate_left
                    · simp only [Act.put, List.setIfInBounds_toArray, List.set_cons_zero, List.set_cons_succ, i64_w, i32_w]
                      rfl
                    refine pure_ (i := 6) (N := some 62) (v := ?_) (a' := ?_) #[true, false, true, true, false, true, true, false, false, false, false, false, false, false] rfl rfl (any_of HT_.out (by kernel_rfl)) (fun _ _ _ h => h) (Or.inl ⟨by rfl, ?_⟩) ?_ ?_
                    rotate_left
                    · intro w'
                      go_simp
                      with_reducible rfl
                    rotate_left
                    · simp only [Act.put, List.setIfInBounds_toArray, List.set_cons_zero, List.set_cons_succ, i64_w, i32_w]
                      rfl
                    refine take_ (i := 1) (N := some 57) (v := ?_) (a' := ?_) #[true, true, true, true, false, true, true, false, false, false, false, false, false, false] rfl rfl (take_ofW HT_.out HW_.out (by kernel_rfl)) (fun _ _ _ h => h) (Or.inl ⟨by rfl, ?_⟩) hHeld ?_ ?_
                    rotate_left
                    · rintro w' ⟨s0, s1, s2, s3, s4, s5⟩
                      go_simp
                      with_reducible rfl
                    rotate_left
                    · simp only [Act.put, List.setIfInBounds_toArray, List.set_cons_zero, List.set_cons_succ, i64_w, i32_w]
                      rfl
                    refine take_ (i := 4) (N := some 60) (v := ?_) (a' := ?_) #[true, true, true, true, true, true, true, false, false, false, false, false, false, false] rfl rfl (take_ofW HT_.out HW_.out (by kernel_rfl)) (fun _ _ _ h => h) (Or.inl ⟨by rfl, ?_⟩) hHeld ?_ ?_
                    rotate_left
                    · rintro w' ⟨s0, s1, s2, s3, s4, s5⟩
                      go_simp
                      with_reducible rfl
                    rotate_left
                    · simp only [Act.put, List.setIfInBounds_toArray, List.set_cons_zero, List.set_cons_succ, i64_w, i32_w]
                      rfl
                    refine take_ (i := 7) (N := some 63) (v := ?_) (a' := ?_) #[true, true, true, true, true, true, true, true, false, false, false, false, false, false] rfl rfl (take_ofW HT_.out HW_.out (by kernel_rfl)) (fun _ _ _ h => h) (Or.inl ⟨by rfl, ?_⟩) hHeld ?_ ?_
                    rotate_left
                    · rintro w' ⟨s0, s1, s2, s3, s4, s5⟩
                      go_simp
                      with_reducible rfl
                    rotate_left
                    · simp only [Act.put, List.setIfInBounds_toArray, List.set_cons_zero, List.set_cons_succ, i64_w, i32_w]
                      rfl
                    refine pure_ (i := 8) (N := some 64) (v := ?_) (a' := ?_) #[true, true, true, true, true, true, true, true, true, false, false, false, false, false] rfl rfl (any_of HT_.out (by kernel_rfl)) (fun _ _ _ h => h) (Or.inl ⟨by rfl, ?_⟩) ?_ ?_
                    rotate_left
                    · intro w'
                      go_simp
                      with_reducible rfl
                    rotate_left
                    · simp only [Act.put, List.setIfInBounds_toArray, List.set_cons_zero, List.set_cons_succ, i64_w, i32_w]
                      rfl
                    refine one_ (i := 9) (N := some 65) #[true, true, true, true, true, true, true, true, true, true, false, false, false, false] rfl rfl (one_of HT_.out (by kernel_rfl)) (by decide) (fun K hK => ?_)
                    refine goes_ Try.func26 (by kernel_rfl) rfl #[.int .i64 (wrap64 ((rd l2 3) - (rd l2 1))), .int .i64 4] (by rfl) rfl rfl (by (try simp only [List.map_toArray, List.map_cons, List.map_nil]); first | done | rfl | (simp only [List.length_drop, List.length_take]; rfl)) ?_
                    with_reducible refine (impl_floorOf.calls (wrap64 ((rd l2 3) - (rd l2 1))) 4 t406 _ A41.out).mono ?_
                    rintro e w64 ⟨rfl, hb⟩
                    refine ⟨_, rfl, ?_⟩
                    have n0_ := Aside0.mk (blk_below (g := gb392) (o := .cells #[.int .i64 a0_0, .int .i64 a0_1, .int .i64 a0_2, .int .i64 a0_3] 25 (0, 0)) (by (with_reducible repeat (first | refine blk_drewN ?_ _ | refine blk_drew ?_ | refine blk_alloc ?_ _)); exact BK392.out) hb)
                    have n1_ := Aside0.mk (blk_below (g := gb393) (o := .cells #[.int .i64 0, .int .i64 0, .int .i64 0, .int .i64 0, .int .i64 0, .int .i64 0, .int .i64 0, .int .i64 0, .int .i64 0] 38 (0, 0)) (by (with_reducible repeat (first | refine blk_drewN ?_ _ | refine blk_drew ?_ | refine blk_alloc ?_ _)); exact BK393.out) hb)
                    have n2_ := Aside0.mk (blk_below (g := gb400) (o := .cells #[.int .i64 0, .int .i64 0, .int .i64 (wrap64 (a0_2 + t403)), .int .i64 0, .int .i64 a0_0, .int .i64 a0_1, .int .i64 a0_2, .int .i64 a0_3, .int .i64 t399] 38 (0, 0)) (by (with_reducible repeat (first | refine blk_drewN ?_ _ | refine blk_drew ?_ | refine blk_alloc ?_ _)); exact BK400.out) hb)
                    have n3_ := Aside0.mk (below_step (by repeat (first | (with_reducible first | exact HB.out | apply below_alloc | apply pw_below_drewN | apply below_drew1 | refine below_set ?_ GE392.out | refine below_set ?_ GE393.out | refine below_set ?_ GE400.out) | exact HB.out)) hb)
                    clear BK392
                    clear BK393
                    clear BK400
                    clear HB
                    have BK392 := n0_
                    have BK393 := n1_
                    have BK400 := n2_
                    have HB := n3_
                    clear n0_ n1_ n2_ n3_
                    (try clear hb)
                    (try clear hb2)
                    (try clear hk)
                    (try clear hi)
                    refine hK.out _ _ ⟨(blk_cell BK392.out 0).trans rfl, (blk_cell BK392.out 1).trans rfl, (blk_cell BK392.out 2).trans rfl, (blk_cell BK392.out 3).trans rfl, ((HB.out.cell (World.block_lt_of_cell? w _ hw404_0)).trans hw404_0), ((HB.out.cell (World.block_lt_of_cell? w _ hw405_0)).trans hw405_0)⟩ (fun hHeld => ?_)
                    clear hK K
                    refine norm_ (a' := ?_) ?_ ?_
                    rotate_left
                    · show Act.put _ (some 65) _ = _
                      simp only [Act.put, List.setIfInBounds_toArray, List.set_cons_zero, List.set_cons_succ, i64_w, i32_w]
                      rfl
                    refine pure_ (i := 10) (N := some 66) (v := ?_) (a' := ?_) #[true, true, true, true, true, true, true, true, true, true, true, false, false, false] rfl rfl (any_of HT_.out (by kernel_rfl)) (fun _ _ _ h => h) (Or.inl ⟨by rfl, ?_⟩) ?_ ?_
                    rotate_left
                    · intro w'
                      go_simp
                      with_reducible rfl
                    rotate_left
                    · simp only [Act.put, List.setIfInBounds_toArray, List.set_cons_zero, List.set_cons_succ, i64_w, i32_w]
                      rfl
                    refine pure_ (i := 11) (N := some 67) (v := ?_) (a' := ?_) #[true, true, true, true, true, true, true, true, true, true, true, true, false, false] rfl rfl (any_of HT_.out (by kernel_rfl)) (fun _ _ _ h => h) (Or.inl ⟨by rfl, ?_⟩) ?_ ?_
                    rotate_left
                    · intro w'
                      go_simp
                      with_reducible rfl
                    rotate_left
                    · simp only [Act.put, List.setIfInBounds_toArray, List.set_cons_zero, List.set_cons_succ, i64_w, i32_w]
                      rfl
                    refine pure_ (i := 12) (N := some 68) (v := ?_) (a' := ?_) #[true, true, true, true, true, true, true, true, true, true, true, true, true, false] rfl rfl (any_of HT_.out (by kernel_rfl)) (fun _ _ _ h => h) (Or.inl ⟨by rfl, ?_⟩) ?_ ?_
                    rotate_left
                    · intro w'
                      go_simp
                      with_reducible rfl
                    rotate_left
                    · simp only [Act.put, List.setIfInBounds_toArray, List.set_cons_zero, List.set_cons_succ, i64_w, i32_w]
                      rfl
                    refine one_ (i := 13) (N := none) #[true, true, true, true, true, true, true, true, true, true, true, true, true, true] rfl rfl (one_of HT_.out (by kernel_rfl)) (by decide) (fun K hK => ?_)
                    have hs65 : w64.cell? ⟨gb400, 3, none⟩ = some (.int .i64 0) := (blk_cell BK400.out 3).trans rfl
                    have hfs65 := blk_frozen BK400.out 3
                    have hns65_0 := NB392_400.out
                    have hns65_1 := NB393_400.out
                    have hms65_0 := NB400_392.out
                    have hms65_1 := NB400_393.out
                    refine skip_ (w1 := ?_) (by rfl) rfl ?_ ?_
                    rotate_left
                    · go_simp
                      rfl
                    refine hK.out _ _ ⟨((cell_far (p := ⟨gb400, _, none⟩) NB392_400.out _).trans (hHeld.1)), ((cell_far (p := ⟨gb400, _, none⟩) NB392_400.out _).trans (hHeld.2.1)), ((cell_far (p := ⟨gb400, _, none⟩) NB392_400.out _).trans (hHeld.2.2.1)), ((cell_far (p := ⟨gb400, _, none⟩) NB392_400.out _).trans (hHeld.2.2.2.1)), ((cell_far (p := ⟨gb400, _, none⟩) (by first | exact Nat.ne_of_lt (Nat.lt_of_lt_of_le (by have := World.block_lt_of_cell? _ _ hw404_0; first | rwa [add_block] at this | exact this) GW400.out) | (rw [add_block]; exact Nat.ne_of_lt (Nat.lt_of_lt_of_le (by have := World.block_lt_of_cell? _ _ hw404_0; first | rwa [add_block] at this | exact this) GW400.out)) | (show (Addr.add _ _).block ≠ _; rw [add_block]; exact Nat.ne_of_lt (Nat.lt_of_lt_of_le (by have := World.block_lt_of_cell? _ _ hw404_0; first | rwa [add_block] at this | exact this) GW400.out)) | (dsimp only; exact Nat.ne_of_lt (Nat.lt_of_lt_of_le (by have := World.block_lt_of_cell? _ _ hw404_0; first | rwa [add_block] at this | exact this) GW400.out))) _).trans (hHeld.2.2.2.2.1)), ((cell_far (p := ⟨gb400, _, none⟩) (by first | exact Nat.ne_of_lt (Nat.lt_of_lt_of_le (by have := World.block_lt_of_cell? _ _ hw405_0; first | rwa [add_block] at this | exact this) GW400.out) | (rw [add_block]; exact Nat.ne_of_lt (Nat.lt_of_lt_of_le (by have := World.block_lt_of_cell? _ _ hw405_0; first | rwa [add_block] at this | exact this) GW400.out)) | (show (Addr.add _ _).block ≠ _; rw [add_block]; exact Nat.ne_of_lt (Nat.lt_of_lt_of_le (by have := World.block_lt_of_cell? _ _ hw405_0; first | rwa [add_block] at this | exact this) GW400.out)) | (dsimp only; exact Nat.ne_of_lt (Nat.lt_of_lt_of_le (by have := World.block_lt_of_cell? _ _ hw405_0; first | rwa [add_block] at this | exact this) GW400.out))) _).trans (hHeld.2.2.2.2.2))⟩ (fun hHeld => ?_)
                    clear hK K
                    refine done_ (done_of HT_.out (by kernel_rfl)) ?_
                    try go_wp2
                    have n0_ : Aside0 ((w64.setCell ⟨gb400, 3, none⟩ (.int .i64 (wrap64 (a0_3 + t406)))).heap[gb392]? = some (.cells #[.int .i64 a0_0, .int .i64 a0_1, .int .i64 a0_2, .int .i64 a0_3] 25 (0, 0))) := ⟨by (with_reducible repeat (first | refine blk_drewN ?_ _ | refine blk_drew ?_ | refine blk_alloc ?_ _)); refine blk_far ?_ NB392_400.out _; (with_reducible repeat (first | refine blk_drewN ?_ _ | refine blk_drew ?_ | refine blk_alloc ?_ _)); exact BK392.out⟩
                    have n1_ : Aside0 ((w64.setCell ⟨gb400, 3, none⟩ (.int .i64 (wrap64 (a0_3 + t406)))).heap[gb393]? = some (.cells #[.int .i64 0, .int .i64 0, .int .i64 0, .int .i64 0, .int .i64 0, .int .i64 0, .int .i64 0, .int .i64 0, .int .i64 0] 38 (0, 0))) := ⟨by (with_reducible repeat (first | refine blk_drewN ?_ _ | refine blk_drew ?_ | refine blk_alloc ?_ _)); refine blk_far ?_ NB393_400.out _; (with_reducible repeat (first | refine blk_drewN ?_ _ | refine blk_drew ?_ | refine blk_alloc ?_ _)); exact BK393.out⟩
                    have n2_ : Aside0 ((w64.setCell ⟨gb400, 3, none⟩ (.int .i64 (wrap64 (a0_3 + t406)))).heap[gb400]? = some (.cells #[.int .i64 0, .int .i64 0, .int .i64 (wrap64 (a0_2 + t403)), .int .i64 (wrap64 (a0_3 + t406)), .int .i64 a0_0, .int .i64 a0_1, .int .i64 a0_2, .int .i64 a0_3, .int .i64 t399] 38 (0, 0))) := ⟨by (with_reducible repeat (first | refine blk_drewN ?_ _ | refine blk_drew ?_ | refine blk_alloc ?_ _)); refine blk_put (cs := #[.int .i64 0, .int .i64 0, .int .i64 (wrap64 (a0_2 + t403)), .int .i64 0, .int .i64 a0_0, .int .i64 a0_1, .int .i64 a0_2, .int .i64 a0_3, .int .i64 t399]) ?_ 3 _ rfl; (with_reducible repeat (first | refine blk_drewN ?_ _ | refine blk_drew ?_ | refine blk_alloc ?_ _)); exact BK400.out⟩
                    have n3_ : Aside0 (Below w.heap.size w (w64.setCell ⟨gb400, 3, none⟩ (.int .i64 (wrap64 (a0_3 + t406))))) := ⟨by repeat (first | (with_reducible first | exact HB.out | apply below_alloc | apply pw_below_drewN | apply below_drew1 | refine below_set ?_ GE392.out | refine below_set ?_ GE393.out | refine below_set ?_ GE400.out) | exact HB.out)⟩
                    (try clear BK392)
                    (try clear BK393)
                    (try clear BK400)
                    (try clear HB)
                    generalize (w64.setCell ⟨gb400, 3, none⟩ (.int .i64 (wrap64 (a0_3 + t406)))) = w66 at n0_ n1_ n2_ n3_ ⊢
                    have BK392 := n0_
                    have BK393 := n1_
                    have BK400 := n2_
                    have HB := n3_
                    clear n0_ n1_ n2_ n3_
                    have n0_ := Aside0.mk (blk_drew BK392.out)
                    have n1_ := Aside0.mk (blk_drew BK393.out)
                    have n2_ := Aside0.mk (blk_drew BK400.out)
                    have n3_ := Aside0.mk (below_drew1 HB.out)
                    clear BK392
                    clear BK393
                    clear BK400
                    clear HB
                    have BK392 := n0_
                    have BK393 := n1_
                    have BK400 := n2_
                    have HB := n3_
                    clear n0_ n1_ n2_ n3_
                    have p407 : 0 ≤ (0 : Int) := (by omega)
                    have q407 : 0 < (l1.length : Int) := of_decide_eq_true (by first | (with_reducible assumption) | assumption)
                    obtain ⟨ad407, e407, hx407_0⟩ := Kd.at_int HR1.out 0 p407 q407
                    have hw407_0 := hx407_0
                    (try rw [show ((0 : Int)).toNat = 0 from rfl] at hw407_0)
                    (try rw [show 0 * 1 = 0 from rfl] at hw407_0)
                    (try rw [Addr.add_zero'] at hw407_0)
                    cases e407
                    have qi407 : (0 < l1.length) = True := eq_true (by omega)
                    (try rw [show ((0 : Int)).toNat = 0 from rfl] at hx407_0)
                    (try rw [Addr.add_zero'] at hx407_0)
                    replace hx407_0 := (HB.out.cell (World.block_lt_of_cell? w _ hx407_0)).trans hx407_0
                    replace p407 := eq_true p407
                    replace q407 := eq_true q407
                    refine start_ (n := 15) (S := fun w' => w'.cell? ⟨gb392, 0, none⟩ = some (.int .i64 a0_0) ∧ w'.cell? ⟨gb392, 1, none⟩ = some (.int .i64 a0_1) ∧ w'.cell? ⟨gb392, 2, none⟩ = some (.int .i64 a0_2) ∧ w'.cell? ⟨gb392, 3, none⟩ = some (.int .i64 a0_3) ∧ w'.cell? ⟨gb400, 0, none⟩ = some (.int .i64 0) ∧ w'.cell? ⟨gb400, 1, none⟩ = some (.int .i64 0) ∧ w'.cell? ⟨gb400, 2, none⟩ = some (.int .i64 (wrap64 (a0_2 + t403))) ∧ w'.cell? ⟨gb400, 3, none⟩ = some (.int .i64 (wrap64 (a0_3 + t406))) ∧ w'.cell? ⟨gb400, 4, none⟩ = some (.int .i64 a0_0) ∧ w'.cell? ⟨gb400, 5, none⟩ = some (.int .i64 a0_1) ∧ w'.cell? ⟨gb400, 6, none⟩ = some (.int .i64 a0_2) ∧ w'.cell? ⟨gb400, 7, none⟩ = some (.int .i64 a0_3) ∧ w'.cell? ⟨gb400, 8, none⟩ = some (.int .i64 t399) ∧ w'.cell? ad407 = some (.int .i64 (rd l1 0))) (ds := [14]) #[false, false, false, false, false, false, false, false, false, false, false, false, false, false, false] (by kernel_rfl) rfl rfl ⟨(blk_cell BK392.out 0).trans rfl, (blk_cell BK392.out 1).trans rfl, (blk_cell BK392.out 2).trans rfl, (blk_cell BK392.out 3).trans rfl, (blk_cell BK400.out 0).trans rfl, (blk_cell BK400.out 1).trans rfl, (blk_cell BK400.out 2).trans rfl, (blk_cell BK400.out 3).trans rfl, (blk_cell BK400.out 4).trans rfl, (blk_cell BK400.out 5).trans rfl, (blk_cell BK400.out 6).trans rfl, (blk_cell BK400.out 7).trans rfl, (blk_cell BK400.out 8).trans rfl, ((HB.out.cell (World.block_lt_of_cell? w _ hw407_0)).trans hw407_0)⟩ (fun hHeld => ?_); refine with_tabW impl_MachineFrom.tab6 impl_MachineFrom.bits6 (fun HT_ HW_ => ?_)
                    generalize w66.drew = w67 at BK392 BK393 BK400 HB hx407_0 hHeld ⊢
                    refine pure_ (i := 0) (N := some 69) (v := ?_) (a' := ?_) #[true, false, false, false, false, false, false, false, false, false, false, false, false, false, false] rfl rfl (any_of HT_.out (by kernel_rfl)) (fun _ _ _ h => h) (Or.inl ⟨by rfl, ?_⟩) ?_ ?_
                    rotate_left
                    · intro w'
                      go_simp
                      with_reducible rfl
                    rotate_left
                    · simp only [Act.put, List.setIfInBounds_toArray, List.set_cons_zero, List.set_cons_succ, i64_w, i32_w]
                      rfl
                    refine pure_ (i := 2) (N := some 71) (v := ?_) (a' := ?_) #[true, false, true, false, false, false, false, false, false, false, false, false, false, false, false] rfl rfl (any_of HT_.out (by kernel_rfl)) (fun _ _ _ h => h) (Or.inl ⟨by rfl, ?_⟩) ?_ ?_
                    rotate_left
                    · intro w'
                      go_simp
                      with_reducible rfl
                    rotate_left
                    · simp only [Act.put, List.setIfInBounds_toArray, List.set_cons_zero, List.set_cons_succ, i64_w, i32_w]
                      rfl
                    refine pure_ (i := 3) (N := some 72) (v := ?_) (a' := ?_) #[true, false, true, true, false, false, false, false, false, false, false, false, false, false, false] rfl rfl (any_of HT_.out (by kernel_rfl)) (fun _ _ _ h => h) (Or.inl ⟨by rfl, ?_⟩) ?_ ?_
                    rotate_left
                    · intro w'
                      go_simp
                      with_reducible rfl
                    rotate_left
                    · simp only [Act.put, List.setIfInBounds_toArray, List.set_cons_zero, List.set_cons_succ, i64_w, i32_w]
                      rfl
                    refine pure_ (i := 7) (N := some 76) (v := ?_) (a' := ?_) #[true, false, true, true, false, false, false, true, false, false, false, false, false, false, false] rfl rfl (any_of HT_.out (by kernel_rfl)) (fun _ _ _ h => h) (Or.inl ⟨by rfl, ?_⟩) ?_ ?_
                    rotate_left
                    · intro w'
                      go_simp
                      with_reducible rfl
                    rotate_left
                    · simp only [Act.put, List.setIfInBounds_toArray, List.set_cons_zero, List.set_cons_succ, i64_w, i32_w]
                      rfl
                    refine pure_ (i := 8) (N := some 77) (v := ?_) (a' := ?_) #[true, false, true, true, false, false, false, true, true, false, false, false, false, false, false] rfl rfl (any_of HT_.out (by kernel_rfl)) (fun _ _ _ h => h) (Or.inl ⟨by rfl, ?_⟩) ?_ ?_
                    rotate_left
                    · intro w'
                      go_simp
                      with_reducible rfl
                    rotate_left
                    · simp only [Act.put, List.setIfInBounds_toArray, List.set_cons_zero, List.set_cons_succ, i64_w, i32_w]
                      rfl
                    refine take_ (i := 1) (N := some 70) (v := ?_) (a' := ?_) #[true, true, true, true, false, false, false, true, true, false, false, false, false, false, false] rfl rfl (take_ofW HT_.out HW_.out (by kernel_rfl)) (fun _ _ _ h => h) (Or.inl ⟨by rfl, ?_⟩) hHeld ?_ ?_
                    rotate_left
                    · rintro w' ⟨s0, s1, s2, s3, s4, s5, s6, s7, s8, s9, s10, s11, s12, s13⟩
                      go_simp
                      with_reducible rfl
                    rotate_left
                    · simp only [Act.put, List.setIfInBounds_toArray, List.set_cons_zero, List.set_cons_succ, i64_w, i32_w]
                      rfl
                    refine take_ (i := 4) (N := some 73) (v := ?_) (a' := ?_) #[true, true, true, true, true, false, false, true, true, false, false, false, false, false, false] rfl rfl (take_ofW HT_.out HW_.out (by kernel_rfl)) (fun _ _ _ h => h) (Or.inl ⟨by rfl, ?_⟩) hHeld ?_ ?_
                    rotate_left
                    · rintro w' ⟨s0, s1, s2, s3, s4, s5, s6, s7, s8, s9, s10, s11, s12, s13⟩
                      go_simp
                      with_reducible rfl
                    rotate_left
                    · simp only [Act.put, List.setIfInBounds_toArray, List.set_cons_zero, List.set_cons_succ, i64_w, i32_w]
                      rfl
                    refine pure_ (i := 5) (N := some 74) (v := ?_) (a' := ?_) #[true, true, true, true, true, true, false, true, true, false, false, false, false, false, false] rfl rfl (any_of HT_.out (by kernel_rfl)) (fun _ _ _ h => h) (Or.inl ⟨by rfl, ?_⟩) ?_ ?_
                    rotate_left
                    · intro w'
                      go_simp
                      with_reducible rfl
                    rotate_left
                    · simp only [Act.put, List.setIfInBounds_toArray, List.set_cons_zero, List.set_cons_succ, i64_w, i32_w]
                      rfl
                    refine pure_ (i := 6) (N := some 75) (v := ?_) (a' := ?_) #[true, true, true, true, true, true, true, true, true, false, false, false, false, false, false] rfl rfl (any_of HT_.out (by kernel_rfl)) (fun _ _ _ h => h) (Or.inl ⟨by rfl, ?_⟩) ?_ ?_
                    rotate_left
                    · intro w'
                      go_simp
                      with_reducible rfl
                    rotate_left
                    · simp only [Act.put, List.setIfInBounds_toArray, List.set_cons_zero, List.set_cons_succ, i64_w, i32_w]
                      rfl
                    refine take_ (i := 9) (N := some 78) (v := ?_) (a' := ?_) #[true, true, true, true, true, true, true, true, true, true, false, false, false, false, false] rfl rfl (take_ofW HT_.out HW_.out (by kernel_rfl)) (fun _ _ _ h => h) (Or.inl ⟨by rfl, ?_⟩) hHeld ?_ ?_
                    rotate_left
                    · rintro w' ⟨s0, s1, s2, s3, s4, s5, s6, s7, s8, s9, s10, s11, s12, s13⟩
                      go_simp
                      with_reducible rfl
                    rotate_left
                    · simp only [Act.put, List.setIfInBounds_toArray, List.set_cons_zero, List.set_cons_succ, i64_w, i32_w]
                      rfl
                    refine pure_ (i := 10) (N := some 79) (v := ?_) (a' := ?_) #[true, true, true, true, true, true, true, true, true, true, true, false, false, false, false] rfl rfl (any_of HT_.out (by kernel_rfl)) (fun _ _ _ h => h) (Or.inl ⟨by rfl, ?_⟩) ?_ ?_
                    rotate_left
                    · intro w'
                      go_simp
                      with_reducible rfl
                    rotate_left
                    · simp only [Act.put, List.setIfInBounds_toArray, List.set_cons_zero, List.set_cons_succ, i64_w, i32_w]
                      rfl
                    refine pure_ (i := 11) (N := some 80) (v := ?_) (a' := ?_) #[true, true, true, true, true, true, true, true, true, true, true, true, false, false, false] rfl rfl (any_of HT_.out (by kernel_rfl)) (fun _ _ _ h => h) (Or.inl ⟨by rfl, ?_⟩) ?_ ?_
                    rotate_left
                    · intro w'
                      go_simp
                      with_reducible rfl
                    rotate_left
                    · simp only [Act.put, List.setIfInBounds_toArray, List.set_cons_zero, List.set_cons_succ, i64_w, i32_w]
                      rfl
                    refine pure_ (i := 12) (N := some 81) (v := ?_) (a' := ?_) #[true, true, true, true, true, true, true, true, true, true, true, true, true, false, false] rfl rfl (any_of HT_.out (by kernel_rfl)) (fun _ _ _ h => h) (Or.inl ⟨by rfl, ?_⟩) ?_ ?_
                    rotate_left
                    · intro w'
                      go_simp
                      with_reducible rfl
                    rotate_left
                    · simp only [Act.put, List.setIfInBounds_toArray, List.set_cons_zero, List.set_cons_succ, i64_w, i32_w]
                      rfl
                    refine pure_ (i := 13) (N := some 82) (v := ?_) (a' := ?_) #[true, true, true, true, true, true, true, true, true, true, true, true, true, true, false] rfl rfl (any_of HT_.out (by kernel_rfl)) (fun _ _ _ h => h) (Or.inl ⟨by rfl, ?_⟩) ?_ ?_
                    rotate_left
                    · intro w'
                      go_simp
                      with_reducible rfl
                    rotate_left
                    · simp only [Act.put, List.setIfInBounds_toArray, List.set_cons_zero, List.set_cons_succ, i64_w, i32_w]
                      rfl
                    refine last_ (i := 14) (N := none) #[true, true, true, true, true, true, true, true, true, true, true, true, true, true, true] rfl rfl (one_of HT_.out (by kernel_rfl)) (by decide) (fun K hK => ?_)
                    have hs68 : w67.cell? ⟨gb400, 0, none⟩ = some (.int .i64 0) := (blk_cell BK400.out 0).trans rfl
                    have hfs68 := blk_frozen BK400.out 0
                    have hns68_0 := NB392_400.out
                    have hns68_1 := NB393_400.out
                    have hms68_0 := NB400_392.out
                    have hms68_1 := NB400_393.out
                    refine skip_ (w1 := ?_) (by rfl) rfl ?_ ?_
                    rotate_left
                    · go_simp
                      rfl
                    refine hK.out _ _ ?_
                    clear hK K
                    refine done_ (done_of HT_.out (by kernel_rfl)) ?_
                    try go_wp2
                    have n0_ : Aside0 ((w67.setCell ⟨gb400, 0, none⟩ (.int .i64 (wrap64 ((wrap64 (a0_0 + (wrap64 (2 * (wrap64 (a0_2 + t403)))))) - (wrap64 (40 - (rd l1 0))))))).heap[gb392]? = some (.cells #[.int .i64 a0_0, .int .i64 a0_1, .int .i64 a0_2, .int .i64 a0_3] 25 (0, 0))) := ⟨by (with_reducible repeat (first | refine blk_drewN ?_ _ | refine blk_drew ?_ | refine blk_alloc ?_ _)); refine blk_far ?_ NB392_400.out _; (with_reducible repeat (first | refine blk_drewN ?_ _ | refine blk_drew ?_ | refine blk_alloc ?_ _)); exact BK392.out⟩
                    have n1_ : Aside0 ((w67.setCell ⟨gb400, 0, none⟩ (.int .i64 (wrap64 ((wrap64 (a0_0 + (wrap64 (2 * (wrap64 (a0_2 + t403)))))) - (wrap64 (40 - (rd l1 0))))))).heap[gb393]? = some (.cells #[.int .i64 0, .int .i64 0, .int .i64 0, .int .i64 0, .int .i64 0, .int .i64 0, .int .i64 0, .int .i64 0, .int .i64 0] 38 (0, 0))) := ⟨by (with_reducible repeat (first | refine blk_drewN ?_ _ | refine blk_drew ?_ | refine blk_alloc ?_ _)); refine blk_far ?_ NB393_400.out _; (with_reducible repeat (first | refine blk_drewN ?_ _ | refine blk_drew ?_ | refine blk_alloc ?_ _)); exact BK393.out⟩
                    have n2_ : Aside0 ((w67.setCell ⟨gb400, 0, none⟩ (.int .i64 (wrap64 ((wrap64 (a0_0 + (wrap64 (2 * (wrap64 (a0_2 + t403)))))) - (wrap64 (40 - (rd l1 0))))))).heap[gb400]? = some (.cells #[.int .i64 (wrap64 ((wrap64 (a0_0 + (wrap64 (2 * (wrap64 (a0_2 + t403)))))) - (wrap64 (40 - (rd l1 0))))), .int .i64 0, .int .i64 (wrap64 (a0_2 + t403)), .int .i64 (wrap64 (a0_3 + t406)), .int .i64 a0_0, .int .i64 a0_1, .int .i64 a0_2, .int .i64 a0_3, .int .i64 t399] 38 (0, 0))) := ⟨by (with_reducible repeat (first | refine blk_drewN ?_ _ | refine blk_drew ?_ | refine blk_alloc ?_ _)); refine blk_put (cs := #[.int .i64 0, .int .i64 0, .int .i64 (wrap64 (a0_2 + t403)), .int .i64 (wrap64 (a0_3 + t406)), .int .i64 a0_0, .int .i64 a0_1, .int .i64 a0_2, .int .i64 a0_3, .int .i64 t399]) ?_ 0 _ rfl; (with_reducible repeat (first | refine blk_drewN ?_ _ | refine blk_drew ?_ | refine blk_alloc ?_ _)); exact BK400.out⟩
                    have n3_ : Aside0 (Below w.heap.size w (w67.setCell ⟨gb400, 0, none⟩ (.int .i64 (wrap64 ((wrap64 (a0_0 + (wrap64 (2 * (wrap64 (a0_2 + t403)))))) - (wrap64 (40 - (rd l1 0)))))))) := ⟨by repeat (first | (with_reducible first | exact HB.out | apply below_alloc | apply pw_below_drewN | apply below_drew1 | refine below_set ?_ GE392.out | refine below_set ?_ GE393.out | refine below_set ?_ GE400.out) | exact HB.out)⟩
                    (try clear BK392)
                    (try clear BK393)
                    (try clear BK400)
                    (try clear HB)
                    generalize (w67.setCell ⟨gb400, 0, none⟩ (.int .i64 (wrap64 ((wrap64 (a0_0 + (wrap64 (2 * (wrap64 (a0_2 + t403)))))) - (wrap64 (40 - (rd l1 0))))))) = w69 at n0_ n1_ n2_ n3_ ⊢
                    have BK392 := n0_
                    have BK393 := n1_
                    have BK400 := n2_
                    have HB := n3_
                    clear n0_ n1_ n2_ n3_
                    have n0_ := Aside0.mk (blk_drew BK392.out)
                    have n1_ := Aside0.mk (blk_drew BK393.out)
                    have n2_ := Aside0.mk (blk_drew BK400.out)
                    have n3_ := Aside0.mk (below_drew1 HB.out)
                    clear BK392
                    clear BK393
                    clear BK400
                    clear HB
                    have BK392 := n0_
                    have BK393 := n1_
                    have BK400 := n2_
                    have HB := n3_
                    clear n0_ n1_ n2_ n3_
                    have p408 : 0 ≤ (1 : Int) := (by omega)
                    have q408 : 1 < (l1.length : Int) := of_decide_eq_true (by first | (with_reducible assumption) | assumption)
                    obtain ⟨ad408, e408, hx408_0⟩ := Kd.at_int HR1.out 1 p408 q408
                    have hw408_0 := hx408_0
                    (try rw [show ((1 : Int)).toNat = 1 from rfl] at hw408_0)
                    (try rw [show 1 * 1 = 1 from rfl] at hw408_0)
                    (try simp only [Nat.reduceMul, Nat.reduceEqDiff, Go.Addr.add, ↓reduceIte] at hw408_0)
                    obtain rfl : ad407 = ad408 := (by injection e408)
                    (try simp only [show (1 : Int).toNat = 1 from rfl, Nat.reduceMul, Nat.reduceEqDiff, Go.Addr.add, ↓reduceIte] at hx408_0)
                    have qi408 : (1 < l1.length) = True := eq_true (by omega)
                    (try rw [show ((1 : Int)).toNat = 1 from rfl] at hx408_0)
                    replace hx408_0 := (HB.out.cell (World.block_lt_of_cell? w _ hx408_0)).trans hx408_0
                    replace p408 := eq_true p408
                    replace q408 := eq_true q408
                    refine start_ (n := 15) (S := fun w' => w'.cell? ⟨gb392, 0, none⟩ = some (.int .i64 a0_0) ∧ w'.cell? ⟨gb392, 1, none⟩ = some (.int .i64 a0_1) ∧ w'.cell? ⟨gb392, 2, none⟩ = some (.int .i64 a0_2) ∧ w'.cell? ⟨gb392, 3, none⟩ = some (.int .i64 a0_3) ∧ w'.cell? ⟨gb400, 0, none⟩ = some (.int .i64 (wrap64 ((wrap64 (a0_0 + (wrap64 (2 * (wrap64 (a0_2 + t403)))))) - (wrap64 (40 - (rd l1 0)))))) ∧ w'.cell? ⟨gb400, 1, none⟩ = some (.int .i64 0) ∧ w'.cell? ⟨gb400, 2, none⟩ = some (.int .i64 (wrap64 (a0_2 + t403))) ∧ w'.cell? ⟨gb400, 3, none⟩ = some (.int .i64 (wrap64 (a0_3 + t406))) ∧ w'.cell? ⟨gb400, 4, none⟩ = some (.int .i64 a0_0) ∧ w'.cell? ⟨gb400, 5, none⟩ = some (.int .i64 a0_1) ∧ w'.cell? ⟨gb400, 6, none⟩ = some (.int .i64 a0_2) ∧ w'.cell? ⟨gb400, 7, none⟩ = some (.int .i64 a0_3) ∧ w'.cell? ⟨gb400, 8, none⟩ = some (.int .i64 t399) ∧ w'.cell? ⟨ad407.block, ad407.off + 1, none⟩ = some (.int .i64 (rd l1 1))) (ds := [14]) #[false, false, false, false, false, false, false, false, false, false, false, false, false, false, false] (by kernel_rfl) rfl rfl ⟨(blk_cell BK392.out 0).trans rfl, (blk_cell BK392.out 1).trans rfl, (blk_cell BK392.out 2).trans rfl, (blk_cell BK392.out 3).trans rfl, (blk_cell BK400.out 0).trans rfl, (blk_cell BK400.out 1).trans rfl, (blk_cell BK400.out 2).trans rfl, (blk_cell BK400.out 3).trans rfl, (blk_cell BK400.out 4).trans rfl, (blk_cell BK400.out 5).trans rfl, (blk_cell BK400.out 6).trans rfl, (blk_cell BK400.out 7).trans rfl, (blk_cell BK400.out 8).trans rfl, ((HB.out.cell (World.block_lt_of_cell? w _ hw408_0)).trans hw408_0)⟩ (fun hHeld => ?_); refine with_tabW impl_MachineFrom.tab7 impl_MachineFrom.bits7 (fun HT_ HW_ => ?_)
                    generalize w69.drew = w70 at BK392 BK393 BK400 HB hx408_0 hHeld ⊢
                    refine pure_ (i := 0) (N := some 83) (v := ?_) (a' := ?_) #[true, false, false, false, false, false, false, false, false, false, false, false, false, false, false] rfl rfl (any_of HT_.out (by kernel_rfl)) (fun _ _ _ h => h) (Or.inl ⟨by rfl, ?_⟩) ?_ ?_
                    rotate_left
                    · intro w'
                      go_simp
                      with_reducible rfl
                    rotate_left
                    · simp only [Act.put, List.setIfInBounds_toArray, List.set_cons_zero, List.set_cons_succ, i64_w, i32_w]
                      rfl
                    refine pure_ (i := 2) (N := some 85) (v := ?_) (a' := ?_) #[true, false, true, false, false, false, false, false, false, false, false, false, false, false, false] rfl rfl (any_of HT_.out (by kernel_rfl)) (fun _ _ _ h => h) (Or.inl ⟨by rfl, ?_⟩) ?_ ?_
                    rotate_left
                    · intro w'
                      go_simp
                      with_reducible rfl
                    rotate_left
                    · simp only [Act.put, List.setIfInBounds_toArray, List.set_cons_zero, List.set_cons_succ, i64_w, i32_w]
                      rfl
                    refine pure_ (i := 3) (N := some 86) (v := ?_) (a' := ?_) #[true, false, true, true, false, false, false, false, false, false, false, false, false, false, false] rfl rfl (any_of HT_.out (by kernel_rfl)) (fun _ _ _ h => h) (Or.inl ⟨by rfl, ?_⟩) ?_ ?_
                    rotate_left
                    · intro w'
                      go_simp
                      with_reducible rfl
                    rotate_left
                    · simp only [Act.put, List.setIfInBounds_toArray, List.set_cons_zero, List.set_cons_succ, i64_w, i32_w]
                      rfl
                    refine pure_ (i := 7) (N := some 90) (v := ?_) (a' := ?_) #[true, false, true, true, false, false, false, true, false, false, false, false, false, false, false] rfl rfl (any_of HT_.out (by kernel_rfl)) (fun _ _ _ h => h) (Or.inl ⟨by rfl, ?_⟩) ?_ ?_
                    rotate_left
                    · intro w'
                      go_simp
                      with_reducible rfl
                    rotate_left
                    · simp only [Act.put, List.setIfInBounds_toArray, List.set_cons_zero, List.set_cons_succ, i64_w, i32_w]
                      rfl
                    refine pure_ (i := 8) (N := some 91) (v := ?_) (a' := ?_) #[true, false, true, true, false, false, false, true, true, false, false, false, false, false, false] rfl rfl (any_of HT_.out (by kernel_rfl)) (fun _ _ _ h => h) (Or.inl ⟨by rfl, ?_⟩) ?_ ?_
                    rotate_left
                    · intro w'
                      go_simp
                      with_reducible rfl
                    rotate_left
                    · simp only [Act.put, List.setIfInBounds_toArray, List.set_cons_zero, List.set_cons_succ, i64_w, i32_w]
                      rfl
                    refine take_ (i := 1) (N := some 84) (v := ?_) (a' := ?_) #[true, true, true, true, false, false, false, true, true, false, false, false, false, false, false] rfl rfl (take_ofW HT_.out HW_.out (by kernel_rfl)) (fun _ _ _ h => h) (Or.inl ⟨by rfl, ?_⟩) hHeld ?_ ?_
                    rotate_left
                    · rintro w' ⟨s0, s1, s2, s3, s4, s5, s6, s7, s8, s9, s10, s11, s12, s13⟩
                      go_simp
                      with_reducible rfl
                    rotate_left
                    · simp only [Act.put, List.setIfInBounds_toArray, List.set_cons_zero, List.set_cons_succ, i64_w, i32_w]
                      rfl
                    refine take_ (i := 4) (N := some 87) (v := ?_) (a' := ?_) #[true, true, true, true, true, false, false, true, true, false, false, false, false, false, false] rfl rfl (take_ofW HT_.out HW_.out (by kernel_rfl)) (fun _ _ _ h => h) (Or.inl ⟨by rfl, ?_⟩) hHeld ?_ ?_
                    rotate_left
                    · rintro w' ⟨s0, s1, s2, s3, s4, s5, s6, s7, s8, s9, s10, s11, s12, s13⟩
                      go_simp
                      with_reducible rfl
                    rotate_left
                    · simp only [Act.put, List.setIfInBounds_toArray, List.set_cons_zero, List.set_cons_succ, i64_w, i32_w]
                      rfl
                    refine pure_ (i := 5) (N := some 88) (v := ?_) (a' := ?_) #[true, true, true, true, true, true, false, true, true, false, false, false, false, false, false] rfl rfl (any_of HT_.out (by kernel_rfl)) (fun _ _ _ h => h) (Or.inl ⟨by rfl, ?_⟩) ?_ ?_
                    rotate_left
                    · intro w'
                      go_simp
                      with_reducible rfl
                    rotate_left
                    · simp only [Act.put, List.setIfInBounds_toArray, List.set_cons_zero, List.set_cons_succ, i64_w, i32_w]
                      rfl
                    refine pure_ (i := 6) (N := some 89) (v := ?_) (a' := ?_) #[true, true, true, true, true, true, true, true, true, false, false, false, false, false, false] rfl rfl (any_of HT_.out (by kernel_rfl)) (fun _ _ _ h => h) (Or.inl ⟨by rfl, ?_⟩) ?_ ?_
                    rotate_left
                    · intro w'
                      go_simp
                      with_reducible rfl
                    rotate_left
                    · simp only [Act.put, List.setIfInBounds_toArray, List.set_cons_zero, List.set_cons_succ, i64_w, i32_w]
                      rfl
                    refine take_ (i := 9) (N := some 92) (v := ?_) (a' := ?_) #[true, true, true, true, true, true, true, true, true, true, false, false, false, false, false] rfl rfl (take_ofW HT_.out HW_.out (by kernel_rfl)) (fun _ _ _ h => h) (Or.inl ⟨by rfl, ?_⟩) hHeld ?_ ?_
                    rotate_left
                    · rintro w' ⟨s0, s1, s2, s3, s4, s5, s6, s7, s8, s9, s10, s11, s12, s13⟩
                      go_simp
                      with_reducible rfl
                    rotate_left
                    · simp only [Act.put, List.setIfInBounds_toArray, List.set_cons_zero, List.set_cons_succ, i64_w, i32_w]
                      rfl
                    refine pure_ (i := 10) (N := some 93) (v := ?_) (a' := ?_) #[true, true, true, true, true, true, true, true, true, true, true, false, false, false, false] rfl rfl (any_of HT_.out (by kernel_rfl)) (fun _ _ _ h => h) (Or.inl ⟨by rfl, ?_⟩) ?_ ?_
                    rotate_left
                    · intro w'
                      go_simp
                      with_reducible rfl
                    rotate_left
                    · simp only [Act.put, List.setIfInBounds_toArray, List.set_cons_zero, List.set_cons_succ, i64_w, i32_w]
                      rfl
                    refine pure_ (i := 11) (N := some 94) (v := ?_) (a' := ?_) #[true, true, true, true, true, true, true, true, true, true, true, true, false, false, false] rfl rfl (any_of HT_.out (by kernel_rfl)) (fun _ _ _ h => h) (Or.inl ⟨by rfl, ?_⟩) ?_ ?_
                    rotate_left
                    · intro w'
                      go_simp
                      with_reducible rfl
                    rotate_left
                    · simp only [Act.put, List.setIfInBounds_toArray, List.set_cons_zero, List.set_cons_succ, i64_w, i32_w]
                      rfl
                    refine pure_ (i := 12) (N := some 95) (v := ?_) (a' := ?_) #[true, true, true, true, true, true, true, true, true, true, true, true, true, false, false] rfl rfl (any_of HT_.out (by kernel_rfl)) (fun _ _ _ h => h) (Or.inl ⟨by rfl, ?_⟩) ?_ ?_
                    rotate_left
                    · intro w'
                      go_simp
                      with_reducible rfl
                    rotate_left
                    · simp only [Act.put, List.setIfInBounds_toArray, List.set_cons_zero, List.set_cons_succ, i64_w, i32_w]
                      rfl
                    refine pure_ (i := 13) (N := some 96) (v := ?_) (a' := ?_) #[true, true, true, true, true, true, true, true, true, true, true, true, true, true, false] rfl rfl (any_of HT_.out (by kernel_rfl)) (fun _ _ _ h => h) (Or.inl ⟨by rfl, ?_⟩) ?_ ?_
                    rotate_left
                    · intro w'
                      go_simp
                      with_reducible rfl
                    rotate_left
                    · simp only [Act.put, List.setIfInBounds_toArray, List.set_cons_zero, List.set_cons_succ, i64_w, i32_w]
                      rfl
                    refine last_ (i := 14) (N := none) #[true, true, true, true, true, true, true, true, true, true, true, true, true, true, true] rfl rfl (one_of HT_.out (by kernel_rfl)) (by decide) (fun K hK => ?_)
                    have hs71 : w70.cell? ⟨gb400, 1, none⟩ = some (.int .i64 0) := (blk_cell BK400.out 1).trans rfl
                    have hfs71 := blk_frozen BK400.out 1
                    have hns71_0 := NB392_400.out
                    have hns71_1 := NB393_400.out
                    have hms71_0 := NB400_392.out
                    have hms71_1 := NB400_393.out
                    refine skip_ (w1 := ?_) (by rfl) rfl ?_ ?_
                    rotate_left
                    · go_simp
                      rfl
                    refine hK.out _ _ ?_
                    clear hK K
                    refine done_ (done_of HT_.out (by kernel_rfl)) ?_
                    go_upto_region 8 with (fail)
                    go_cut [113] (fun v113 wc => ∃ (kq : Nat) (x113_43 : Bool), v113 = .bool x113_43 ∧ Aside0 (impl_MachineFrom.j1 kq x113_43 (wrap64 ((wrap64 (a0_0 + (wrap64 (2 * (wrap64 (a0_2 + t403)))))) - (wrap64 (40 - (rd l1 0))))) (wrap64 ((wrap64 (a0_1 + (wrap64 (2 * (wrap64 (a0_3 + t406)))))) - (wrap64 (40 - (rd l1 1))))) (wrap64 (a0_2 + t403)) (wrap64 (a0_3 + t406)) a0_0 a0_1 a0_2 a0_3 t399 = some (r1, r2, r3, r4, r5, r6, r7, r8, r9, r10)) ∧ Aside0 (kq ≤ kj3) ∧ Aside0 (wc.heap[gb392]? = some (.cells #[.int .i64 a0_0, .int .i64 a0_1, .int .i64 a0_2, .int .i64 a0_3] 25 (0, 0))) ∧ Aside0 (wc.heap[gb393]? = some (.cells #[.int .i64 0, .int .i64 0, .int .i64 0, .int .i64 0, .int .i64 0, .int .i64 0, .int .i64 0, .int .i64 0, .int .i64 0] 38 (0, 0))) ∧ Aside0 (wc.heap[gb400]? = some (.cells #[.int .i64 (wrap64 ((wrap64 (a0_0 + (wrap64 (2 * (wrap64 (a0_2 + t403)))))) - (wrap64 (40 - (rd l1 0))))), .int .i64 (wrap64 ((wrap64 (a0_1 + (wrap64 (2 * (wrap64 (a0_3 + t406)))))) - (wrap64 (40 - (rd l1 1))))), .int .i64 (wrap64 (a0_2 + t403)), .int .i64 (wrap64 (a0_3 + t406)), .int .i64 a0_0, .int .i64 a0_1, .int .i64 a0_2, .int .i64 a0_3, .int .i64 t399] 38 (0, 0))) ∧ Aside0 (Below w.heap.size w wc))
                    case first =>
                      have H := HC44.out
                      clear HC44
                      replace H := Option.bind_eq_some_iff.mp H
                      obtain ⟨t409, A720, H⟩ := H
                      replace H : (if t409 = true then ((impl_Machine_gaps.f (wrap64 ((wrap64 (a0_0 + (wrap64 (2 * (wrap64 (a0_2 + t403)))))) - (wrap64 (40 - (rd l1 0))))) (wrap64 ((wrap64 (a0_1 + (wrap64 (2 * (wrap64 (a0_3 + t406)))))) - (wrap64 (40 - (rd l1 1))))) (wrap64 (a0_2 + t403)) (wrap64 (a0_3 + t406)) a0_0 a0_1 a0_2 a0_3 t399).bind fun t410 => ((slices_Equal_int64_int64.f kj3 t410 l1).bind fun t413 => (if t413 = true then ((impl_Machine_strokes.f (wrap64 ((wrap64 (a0_0 + (wrap64 (2 * (wrap64 (a0_2 + t403)))))) - (wrap64 (40 - (rd l1 0))))) (wrap64 ((wrap64 (a0_1 + (wrap64 (2 * (wrap64 (a0_3 + t406)))))) - (wrap64 (40 - (rd l1 1))))) (wrap64 (a0_2 + t403)) (wrap64 (a0_3 + t406)) a0_0 a0_1 a0_2 a0_3 t399).bind fun t414 => ((slices_Equal_int64_int64.f kj3 t414 l2).bind fun t417 => (impl_MachineFrom.j1 kj3 (!t417) (wrap64 ((wrap64 (a0_0 + (wrap64 (2 * (wrap64 (a0_2 + t403)))))) - (wrap64 (40 - (rd l1 0))))) (wrap64 ((wrap64 (a0_1 + (wrap64 (2 * (wrap64 (a0_3 + t406)))))) - (wrap64 (40 - (rd l1 1))))) (wrap64 (a0_2 + t403)) (wrap64 (a0_3 + t406)) a0_0 a0_1 a0_2 a0_3 t399))) else (impl_MachineFrom.j1 kj3 true (wrap64 ((wrap64 (a0_0 + (wrap64 (2 * (wrap64 (a0_2 + t403)))))) - (wrap64 (40 - (rd l1 0))))) (wrap64 ((wrap64 (a0_1 + (wrap64 (2 * (wrap64 (a0_3 + t406)))))) - (wrap64 (40 - (rd l1 1))))) (wrap64 (a0_2 + t403)) (wrap64 (a0_3 + t406)) a0_0 a0_1 a0_2 a0_3 t399)))) else (impl_MachineFrom.j1 kj3 true (wrap64 ((wrap64 (a0_0 + (wrap64 (2 * (wrap64 (a0_2 + t403)))))) - (wrap64 (40 - (rd l1 0))))) (wrap64 ((wrap64 (a0_1 + (wrap64 (2 * (wrap64 (a0_3 + t406)))))) - (wrap64 (40 - (rd l1 1))))) (wrap64 (a0_2 + t403)) (wrap64 (a0_3 + t406)) a0_0 a0_1 a0_2 a0_3 t399)) = some (r1, r2, r3, r4, r5, r6, r7, r8, r9, r10) := H
                      have A72 := Aside0.mk A720
                      clear A720
                      by_cases c73 : t409 = true
                      · subst c73
                        have H1 : ((impl_Machine_gaps.f (wrap64 ((wrap64 (a0_0 + (wrap64 (2 * (wrap64 (a0_2 + t403)))))) - (wrap64 (40 - (rd l1 0))))) (wrap64 ((wrap64 (a0_1 + (wrap64 (2 * (wrap64 (a0_3 + t406)))))) - (wrap64 (40 - (rd l1 1))))) (wrap64 (a0_2 + t403)) (wrap64 (a0_3 + t406)) a0_0 a0_1 a0_2 a0_3 t399).bind fun t410 => ((slices_Equal_int64_int64.f kj3 t410 l1).bind fun t413 => (if t413 = true then ((impl_Machine_strokes.f (wrap64 ((wrap64 (a0_0 + (wrap64 (2 * (wrap64 (a0_2 + t403)))))) - (wrap64 (40 - (rd l1 0))))) (wrap64 ((wrap64 (a0_1 + (wrap64 (2 * (wrap64 (a0_3 + t406)))))) - (wrap64 (40 - (rd l1 1))))) (wrap64 (a0_2 + t403)) (wrap64 (a0_3 + t406)) a0_0 a0_1 a0_2 a0_3 t399).bind fun t414 => ((slices_Equal_int64_int64.f kj3 t414 l2).bind fun t417 => (impl_MachineFrom.j1 kj3 (!t417) (wrap64 ((wrap64 (a0_0 + (wrap64 (2 * (wrap64 (a0_2 + t403)))))) - (wrap64 (40 - (rd l1 0))))) (wrap64 ((wrap64 (a0_1 + (wrap64 (2 * (wrap64 (a0_3 + t406)))))) - (wrap64 (40 - (rd l1 1))))) (wrap64 (a0_2 + t403)) (wrap64 (a0_3 + t406)) a0_0 a0_1 a0_2 a0_3 t399))) else (impl_MachineFrom.j1 kj3 true (wrap64 ((wrap64 (a0_0 + (wrap64 (2 * (wrap64 (a0_2 + t403)))))) - (wrap64 (40 - (rd l1 0))))) (wrap64 ((wrap64 (a0_1 + (wrap64 (2 * (wrap64 (a0_3 + t406)))))) - (wrap64 (40 - (rd l1 1))))) (wrap64 (a0_2 + t403)) (wrap64 (a0_3 + t406)) a0_0 a0_1 a0_2 a0_3 t399)))) = some (r1, r2, r3, r4, r5, r6, r7, r8, r9, r10) := by rw [if_pos rfl] at H; exact H
                        clear H
                        have H := H1
                        clear H1
                        replace H := Option.bind_eq_some_iff.mp H
                        obtain ⟨t410, A740, H⟩ := H
                        replace H : ((slices_Equal_int64_int64.f kj3 t410 l1).bind fun t413 => (if t413 = true then ((impl_Machine_strokes.f (wrap64 ((wrap64 (a0_0 + (wrap64 (2 * (wrap64 (a0_2 + t403)))))) - (wrap64 (40 - (rd l1 0))))) (wrap64 ((wrap64 (a0_1 + (wrap64 (2 * (wrap64 (a0_3 + t406)))))) - (wrap64 (40 - (rd l1 1))))) (wrap64 (a0_2 + t403)) (wrap64 (a0_3 + t406)) a0_0 a0_1 a0_2 a0_3 t399).bind fun t414 => ((slices_Equal_int64_int64.f kj3 t414 l2).bind fun t417 => (impl_MachineFrom.j1 kj3 (!t417) (wrap64 ((wrap64 (a0_0 + (wrap64 (2 * (wrap64 (a0_2 + t403)))))) - (wrap64 (40 - (rd l1 0))))) (wrap64 ((wrap64 (a0_1 + (wrap64 (2 * (wrap64 (a0_3 + t406)))))) - (wrap64 (40 - (rd l1 1))))) (wrap64 (a0_2 + t403)) (wrap64 (a0_3 + t406)) a0_0 a0_1 a0_2 a0_3 t399))) else (impl_MachineFrom.j1 kj3 true (wrap64 ((wrap64 (a0_0 + (wrap64 (2 * (wrap64 (a0_2 + t403)))))) - (wrap64 (40 - (rd l1 0))))) (wrap64 ((wrap64 (a0_1 + (wrap64 (2 * (wrap64 (a0_3 + t406)))))) - (wrap64 (40 - (rd l1 1))))) (wrap64 (a0_2 + t403)) (wrap64 (a0_3 + t406)) a0_0 a0_1 a0_2 a0_3 t399))) = some (r1, r2, r3, r4, r5, r6, r7, r8, r9, r10) := H
                        have A74 := Aside0.mk A740
                        clear A740
                        replace H := Option.bind_eq_some_iff.mp H
                        obtain ⟨t413, A750, H⟩ := H
                        replace H : (if t413 = true then ((impl_Machine_strokes.f (wrap64 ((wrap64 (a0_0 + (wrap64 (2 * (wrap64 (a0_2 + t403)))))) - (wrap64 (40 - (rd l1 0))))) (wrap64 ((wrap64 (a0_1 + (wrap64 (2 * (wrap64 (a0_3 + t406)))))) - (wrap64 (40 - (rd l1 1))))) (wrap64 (a0_2 + t403)) (wrap64 (a0_3 + t406)) a0_0 a0_1 a0_2 a0_3 t399).bind fun t414 => ((slices_Equal_int64_int64.f kj3 t414 l2).bind fun t417 => (impl_MachineFrom.j1 kj3 (!t417) (wrap64 ((wrap64 (a0_0 + (wrap64 (2 * (wrap64 (a0_2 + t403)))))) - (wrap64 (40 - (rd l1 0))))) (wrap64 ((wrap64 (a0_1 + (wrap64 (2 * (wrap64 (a0_3 + t406)))))) - (wrap64 (40 - (rd l1 1))))) (wrap64 (a0_2 + t403)) (wrap64 (a0_3 + t406)) a0_0 a0_1 a0_2 a0_3 t399))) else (impl_MachineFrom.j1 kj3 true (wrap64 ((wrap64 (a0_0 + (wrap64 (2 * (wrap64 (a0_2 + t403)))))) - (wrap64 (40 - (rd l1 0))))) (wrap64 ((wrap64 (a0_1 + (wrap64 (2 * (wrap64 (a0_3 + t406)))))) - (wrap64 (40 - (rd l1 1))))) (wrap64 (a0_2 + t403)) (wrap64 (a0_3 + t406)) a0_0 a0_1 a0_2 a0_3 t399)) = some (r1, r2, r3, r4, r5, r6, r7, r8, r9, r10) := H
                        have A75 := Aside0.mk A750
                        clear A750
                        by_cases c76 : t413 = true
                        · subst c76
                          have H1 : ((impl_Machine_strokes.f (wrap64 ((wrap64 (a0_0 + (wrap64 (2 * (wrap64 (a0_2 + t403)))))) - (wrap64 (40 - (rd l1 0))))) (wrap64 ((wrap64 (a0_1 + (wrap64 (2 * (wrap64 (a0_3 + t406)))))) - (wrap64 (40 - (rd l1 1))))) (wrap64 (a0_2 + t403)) (wrap64 (a0_3 + t406)) a0_0 a0_1 a0_2 a0_3 t399).bind fun t414 => ((slices_Equal_int64_int64.f kj3 t414 l2).bind fun t417 => (impl_MachineFrom.j1 kj3 (!t417) (wrap64 ((wrap64 (a0_0 + (wrap64 (2 * (wrap64 (a0_2 + t403)))))) - (wrap64 (40 - (rd l1 0))))) (wrap64 ((wrap64 (a0_1 + (wrap64 (2 * (wrap64 (a0_3 + t406)))))) - (wrap64 (40 - (rd l1 1))))) (wrap64 (a0_2 + t403)) (wrap64 (a0_3 + t406)) a0_0 a0_1 a0_2 a0_3 t399))) = some (r1, r2, r3, r4, r5, r6, r7, r8, r9, r10) := by rw [if_pos rfl] at H; exact H
                          clear H
                          have H := H1
                          clear H1
                          replace H := Option.bind_eq_some_iff.mp H
                          obtain ⟨t414, A770, H⟩ := H
                          replace H : ((slices_Equal_int64_int64.f kj3 t414 l2).bind fun t417 => (impl_MachineFrom.j1 kj3 (!t417) (wrap64 ((wrap64 (a0_0 + (wrap64 (2 * (wrap64 (a0_2 + t403)))))) - (wrap64 (40 - (rd l1 0))))) (wrap64 ((wrap64 (a0_1 + (wrap64 (2 * (wrap64 (a0_3 + t406)))))) - (wrap64 (40 - (rd l1 1))))) (wrap64 (a0_2 + t403)) (wrap64 (a0_3 + t406)) a0_0 a0_1 a0_2 a0_3 t399)) = some (r1, r2, r3, r4, r5, r6, r7, r8, r9, r10) := H
                          have A77 := Aside0.mk A770
                          clear A770
                          replace H := Option.bind_eq_some_iff.mp H
                          obtain ⟨t417, A780, H⟩ := H
                          replace H : (impl_MachineFrom.j1 kj3 (!t417) (wrap64 ((wrap64 (a0_0 + (wrap64 (2 * (wrap64 (a0_2 + t403)))))) - (wrap64 (40 - (rd l1 0))))) (wrap64 ((wrap64 (a0_1 + (wrap64 (2 * (wrap64 (a0_3 + t406)))))) - (wrap64 (40 - (rd l1 1))))) (wrap64 (a0_2 + t403)) (wrap64 (a0_3 + t406)) a0_0 a0_1 a0_2 a0_3 t399) = some (r1, r2, r3, r4, r5, r6, r7, r8, r9, r10) := H
                          have A78 := Aside0.mk A780
                          clear A780
                          have H' := Aside0.mk H
                          clear H
                          have hnb79 := NB400_392.out
                          have hnc79 := NB392_400.out
                          have hnb80 := NB400_393.out
                          have hnc80 := NB393_400.out
                          have hcz81_0 : w70.cell? ⟨gb400, 0, none⟩ = some (.int .i64 (wrap64 ((wrap64 (a0_0 + (wrap64 (2 * (wrap64 (a0_2 + t403)))))) - (wrap64 (40 - (rd l1 0)))))) := (blk_cell BK400.out 0).trans rfl
                          have hcz81_1 : w70.cell? ⟨gb400, 1, none⟩ = some (.int .i64 0) := (blk_cell BK400.out 1).trans rfl
                          have hcz81_2 : w70.cell? ⟨gb400, 2, none⟩ = some (.int .i64 (wrap64 (a0_2 + t403))) := (blk_cell BK400.out 2).trans rfl
                          have hcz81_3 : w70.cell? ⟨gb400, 3, none⟩ = some (.int .i64 (wrap64 (a0_3 + t406))) := (blk_cell BK400.out 3).trans rfl
                          have hcz81_4 : w70.cell? ⟨gb400, 4, none⟩ = some (.int .i64 a0_0) := (blk_cell BK400.out 4).trans rfl
                          have hcz81_5 : w70.cell? ⟨gb400, 5, none⟩ = some (.int .i64 a0_1) := (blk_cell BK400.out 5).trans rfl
                          have hcz81_6 : w70.cell? ⟨gb400, 6, none⟩ = some (.int .i64 a0_2) := (blk_cell BK400.out 6).trans rfl
                          have hcz81_7 : w70.cell? ⟨gb400, 7, none⟩ = some (.int .i64 a0_3) := (blk_cell BK400.out 7).trans rfl
                          have hcz81_8 : w70.cell? ⟨gb400, 8, none⟩ = some (.int .i64 t399) := (blk_cell BK400.out 8).trans rfl
                          have hfz81_0 := blk_frozen BK400.out 0
                          have hfz81_1 := blk_frozen BK400.out 1
                          have hfz81_2 := blk_frozen BK400.out 2
                          have hfz81_3 := blk_frozen BK400.out 3
                          have hfz81_4 := blk_frozen BK400.out 4
                          have hfz81_5 := blk_frozen BK400.out 5
                          have hfz81_6 := blk_frozen BK400.out 6
                          have hfz81_7 := blk_frozen BK400.out 7
                          have hfz81_8 := blk_frozen BK400.out 8
                          go_wp2_with (first | ((with_reducible refine gate_callee (f := 27) rfl ?_); refine goesL_ (some 98) rfl rfl Try.func27 (by kernel_rfl) rfl #[.agg #[.int .i64 (wrap64 ((wrap64 (a0_0 + (wrap64 (2 * (wrap64 (a0_2 + t403)))))) - (wrap64 (40 - (rd l1 0))))), .int .i64 (wrap64 ((wrap64 (a0_1 + (wrap64 (2 * (wrap64 (a0_3 + t406)))))) - (wrap64 (40 - (rd l1 1))))), .int .i64 (wrap64 (a0_2 + t403)), .int .i64 (wrap64 (a0_3 + t406)), .int .i64 a0_0, .int .i64 a0_1, .int .i64 a0_2, .int .i64 a0_3, .int .i64 t399]] rfl (by (try simp only [List.map_toArray, List.map_cons, List.map_nil]); first | done | rfl | (simp only [List.length_drop, List.length_take]; rfl)) ?_; (with_reducible refine (impl_ValidMachine.calls (wrap64 ((wrap64 (a0_0 + (wrap64 (2 * (wrap64 (a0_2 + t403)))))) - (wrap64 (40 - (rd l1 0))))) (wrap64 ((wrap64 (a0_1 + (wrap64 (2 * (wrap64 (a0_3 + t406)))))) - (wrap64 (40 - (rd l1 1))))) (wrap64 (a0_2 + t403)) (wrap64 (a0_3 + t406)) a0_0 a0_1 a0_2 a0_3 t399 true _ A72.out).mono ?_); rintro e w82 ⟨rfl, hb⟩; refine ⟨_, rfl, ?_⟩; have n0_ := Aside0.mk (blk_below (g := gb392) (o := .cells #[.int .i64 a0_0, .int .i64 a0_1, .int .i64 a0_2, .int .i64 a0_3] 25 (0, 0)) (by (with_reducible repeat (first | refine blk_drewN ?_ _ | refine blk_drew ?_ | refine blk_alloc ?_ _)); refine blk_far ?_ NB392_400.out _; (with_reducible repeat (first | refine blk_drewN ?_ _ | refine blk_drew ?_ | refine blk_alloc ?_ _)); exact BK392.out) hb); have n1_ := Aside0.mk (blk_below (g := gb393) (o := .cells #[.int .i64 0, .int .i64 0, .int .i64 0, .int .i64 0, .int .i64 0, .int .i64 0, .int .i64 0, .int .i64 0, .int .i64 0] 38 (0, 0)) (by (with_reducible repeat (first | refine blk_drewN ?_ _ | refine blk_drew ?_ | refine blk_alloc ?_ _)); refine blk_far ?_ NB393_400.out _; (with_reducible repeat (first | refine blk_drewN ?_ _ | refine blk_drew ?_ | refine blk_alloc ?_ _)); exact BK393.out) hb); have n2_ := Aside0.mk (blk_below (g := gb400) (o := .cells #[.int .i64 (wrap64 ((wrap64 (a0_0 + (wrap64 (2 * (wrap64 (a0_2 + t403)))))) - (wrap64 (40 - (rd l1 0))))), .int .i64 (wrap64 ((wrap64 (a0_1 + (wrap64 (2 * (wrap64 (a0_3 + t406)))))) - (wrap64 (40 - (rd l1 1))))), .int .i64 (wrap64 (a0_2 + t403)), .int .i64 (wrap64 (a0_3 + t406)), .int .i64 a0_0, .int .i64 a0_1, .int .i64 a0_2, .int .i64 a0_3, .int .i64 t399] 38 (0, 0)) (by (with_reducible repeat (first | refine blk_drewN ?_ _ | refine blk_drew ?_ | refine blk_alloc ?_ _)); refine blk_put (cs := #[.int .i64 (wrap64 ((wrap64 (a0_0 + (wrap64 (2 * (wrap64 (a0_2 + t403)))))) - (wrap64 (40 - (rd l1 0))))), .int .i64 0, .int .i64 (wrap64 (a0_2 + t403)), .int .i64 (wrap64 (a0_3 + t406)), .int .i64 a0_0, .int .i64 a0_1, .int .i64 a0_2, .int .i64 a0_3, .int .i64 t399]) ?_ 1 _ rfl; (with_reducible repeat (first | refine blk_drewN ?_ _ | refine blk_drew ?_ | refine blk_alloc ?_ _)); exact BK400.out) hb); have n3_ := Aside0.mk (below_step (by repeat (first | (with_reducible first | exact HB.out | apply below_alloc | apply pw_below_drewN | apply below_drew1 | refine below_set ?_ GE392.out | refine below_set ?_ GE393.out | refine below_set ?_ GE400.out) | exact HB.out)) hb); clear BK392; clear BK393; clear BK400; clear HB; have BK392 := n0_; have BK393 := n1_; have BK400 := n2_; have HB := n3_; clear n0_ n1_ n2_ n3_; (try clear hb); (try clear hb2); (try clear hk); (try clear hi); have hcz83_0 : w82.cell? ⟨gb400, 0, none⟩ = some (.int .i64 (wrap64 ((wrap64 (a0_0 + (wrap64 (2 * (wrap64 (a0_2 + t403)))))) - (wrap64 (40 - (rd l1 0)))))) := (blk_cell BK400.out 0).trans rfl; have hcz83_1 : w82.cell? ⟨gb400, 1, none⟩ = some (.int .i64 (wrap64 ((wrap64 (a0_1 + (wrap64 (2 * (wrap64 (a0_3 + t406)))))) - (wrap64 (40 - (rd l1 1)))))) := (blk_cell BK400.out 1).trans rfl; have hcz83_2 : w82.cell? ⟨gb400, 2, none⟩ = some (.int .i64 (wrap64 (a0_2 + t403))) := (blk_cell BK400.out 2).trans rfl; have hcz83_3 : w82.cell? ⟨gb400, 3, none⟩ = some (.int .i64 (wrap64 (a0_3 + t406))) := (blk_cell BK400.out 3).trans rfl; have hcz83_4 : w82.cell? ⟨gb400, 4, none⟩ = some (.int .i64 a0_0) := (blk_cell BK400.out 4).trans rfl; have hcz83_5 : w82.cell? ⟨gb400, 5, none⟩ = some (.int .i64 a0_1) := (blk_cell BK400.out 5).trans rfl; have hcz83_6 : w82.cell? ⟨gb400, 6, none⟩ = some (.int .i64 a0_2) := (blk_cell BK400.out 6).trans rfl; have hcz83_7 : w82.cell? ⟨gb400, 7, none⟩ = some (.int .i64 a0_3) := (blk_cell BK400.out 7).trans rfl; have hcz83_8 : w82.cell? ⟨gb400, 8, none⟩ = some (.int .i64 t399) := (blk_cell BK400.out 8).trans rfl; have hfz83_0 := blk_frozen BK400.out 0; have hfz83_1 := blk_frozen BK400.out 1; have hfz83_2 := blk_frozen BK400.out 2; have hfz83_3 := blk_frozen BK400.out 3; have hfz83_4 := blk_frozen BK400.out 4; have hfz83_5 := blk_frozen BK400.out 5; have hfz83_6 := blk_frozen BK400.out 6; have hfz83_7 := blk_frozen BK400.out 7; have hfz83_8 := blk_frozen BK400.out 8) | (go_at_call 29; (with_reducible refine (impl_Machine_gaps.calls (wrap64 ((wrap64 (a0_0 + (wrap64 (2 * (wrap64 (a0_2 + t403)))))) - (wrap64 (40 - (rd l1 0))))) (wrap64 ((wrap64 (a0_1 + (wrap64 (2 * (wrap64 (a0_3 + t406)))))) - (wrap64 (40 - (rd l1 1))))) (wrap64 (a0_2 + t403)) (wrap64 (a0_3 + t406)) a0_0 a0_1 a0_2 a0_3 t399 t410 _ A74.out).mono ?_); rintro e w84 ⟨v411, rfl, ho0, hb⟩; have n0_ := Aside0.mk (Kd.R_lower ho0 (below_size (by repeat (first | (with_reducible first | exact HB.out | apply below_alloc | apply pw_below_drewN | apply below_drew1 | refine below_set ?_ GE392.out | refine below_set ?_ GE393.out | refine below_set ?_ GE400.out) | exact HB.out)))); have n1_ := Aside0.mk (blk_below (g := gb392) (o := .cells #[.int .i64 a0_0, .int .i64 a0_1, .int .i64 a0_2, .int .i64 a0_3] 25 (0, 0)) (by (with_reducible repeat (first | refine blk_drewN ?_ _ | refine blk_drew ?_ | refine blk_alloc ?_ _)); exact BK392.out) hb); have n2_ := Aside0.mk (blk_below (g := gb393) (o := .cells #[.int .i64 0, .int .i64 0, .int .i64 0, .int .i64 0, .int .i64 0, .int .i64 0, .int .i64 0, .int .i64 0, .int .i64 0] 38 (0, 0)) (by (with_reducible repeat (first | refine blk_drewN ?_ _ | refine blk_drew ?_ | refine blk_alloc ?_ _)); exact BK393.out) hb); have n3_ := Aside0.mk (blk_below (g := gb400) (o := .cells #[.int .i64 (wrap64 ((wrap64 (a0_0 + (wrap64 (2 * (wrap64 (a0_2 + t403)))))) - (wrap64 (40 - (rd l1 0))))), .int .i64 (wrap64 ((wrap64 (a0_1 + (wrap64 (2 * (wrap64 (a0_3 + t406)))))) - (wrap64 (40 - (rd l1 1))))), .int .i64 (wrap64 (a0_2 + t403)), .int .i64 (wrap64 (a0_3 + t406)), .int .i64 a0_0, .int .i64 a0_1, .int .i64 a0_2, .int .i64 a0_3, .int .i64 t399] 38 (0, 0)) (by (with_reducible repeat (first | refine blk_drewN ?_ _ | refine blk_drew ?_ | refine blk_alloc ?_ _)); exact BK400.out) hb); have n4_ := Aside0.mk (below_step (by repeat (first | (with_reducible first | exact HB.out | apply below_alloc | apply pw_below_drewN | apply below_drew1 | refine below_set ?_ GE392.out | refine below_set ?_ GE393.out | refine below_set ?_ GE400.out) | exact HB.out)) hb); clear BK392; clear BK393; clear BK400; clear HB; have HO412 := n0_; have BK392 := n1_; have BK393 := n2_; have BK400 := n3_; have HB := n4_; clear n0_ n1_ n2_ n3_ n4_; (try clear hb); (try clear hb2); (try clear hk); (try clear hi); (try clear ho0); obtain ⟨Ao85, co85, eo85⟩ := Kd.R_slice HO412.out; subst eo85) | (go_at_call 28; (with_reducible refine (slices_Equal_int64_int64.calls kj3 _ _ t410 _ _ l1 true _ ?side1 ?side2 ?side3 ?side4 A75.out).mono ?_); (case side1 => repeat (first | exact (Kd.R_reads' HO412.out).2.2 | (with_reducible refine Kd.C_alloc ?_ _) | (with_reducible refine Kd.C_drewN ?_ _) | (with_reducible refine Kd.C_drew ?_))); (case side2 => exact (Kd.R_reads' HO412.out).2.1); (case side3 => repeat (first | exact (Kd.C_below HR1.out HB.out) | (with_reducible refine Kd.C_alloc ?_ _) | (with_reducible refine Kd.C_drewN ?_ _) | (with_reducible refine Kd.C_drew ?_))); (case side4 => exact HC1.out); rintro e w' ⟨rfl, ⟨nd, rfl⟩⟩; have hcz86_0 : w84.cell? ⟨gb400, 0, none⟩ = some (.int .i64 (wrap64 ((wrap64 (a0_0 + (wrap64 (2 * (wrap64 (a0_2 + t403)))))) - (wrap64 (40 - (rd l1 0)))))) := (blk_cell BK400.out 0).trans rfl; have hcz86_1 : w84.cell? ⟨gb400, 1, none⟩ = some (.int .i64 (wrap64 ((wrap64 (a0_1 + (wrap64 (2 * (wrap64 (a0_3 + t406)))))) - (wrap64 (40 - (rd l1 1)))))) := (blk_cell BK400.out 1).trans rfl; have hcz86_2 : w84.cell? ⟨gb400, 2, none⟩ = some (.int .i64 (wrap64 (a0_2 + t403))) := (blk_cell BK400.out 2).trans rfl; have hcz86_3 : w84.cell? ⟨gb400, 3, none⟩ = some (.int .i64 (wrap64 (a0_3 + t406))) := (blk_cell BK400.out 3).trans rfl; have hcz86_4 : w84.cell? ⟨gb400, 4, none⟩ = some (.int .i64 a0_0) := (blk_cell BK400.out 4).trans rfl; have hcz86_5 : w84.cell? ⟨gb400, 5, none⟩ = some (.int .i64 a0_1) := (blk_cell BK400.out 5).trans rfl; have hcz86_6 : w84.cell? ⟨gb400, 6, none⟩ = some (.int .i64 a0_2) := (blk_cell BK400.out 6).trans rfl; have hcz86_7 : w84.cell? ⟨gb400, 7, none⟩ = some (.int .i64 a0_3) := (blk_cell BK400.out 7).trans rfl; have hcz86_8 : w84.cell? ⟨gb400, 8, none⟩ = some (.int .i64 t399) := (blk_cell BK400.out 8).trans rfl; have hfz86_0 := blk_frozen BK400.out 0; have hfz86_1 := blk_frozen BK400.out 1; have hfz86_2 := blk_frozen BK400.out 2; have hfz86_3 := blk_frozen BK400.out 3; have hfz86_4 := blk_frozen BK400.out 4; have hfz86_5 := blk_frozen BK400.out 5; have hfz86_6 := blk_frozen BK400.out 6; have hfz86_7 := blk_frozen BK400.out 7; have hfz86_8 := blk_frozen BK400.out 8) | (go_at_call 30; (with_reducible refine (impl_Machine_strokes.calls (wrap64 ((wrap64 (a0_0 + (wrap64 (2 * (wrap64 (a0_2 + t403)))))) - (wrap64 (40 - (rd l1 0))))) (wrap64 ((wrap64 (a0_1 + (wrap64 (2 * (wrap64 (a0_3 + t406)))))) - (wrap64 (40 - (rd l1 1))))) (wrap64 (a0_2 + t403)) (wrap64 (a0_3 + t406)) a0_0 a0_1 a0_2 a0_3 t399 t414 _ A77.out).mono ?_); rintro e w87 ⟨v415, rfl, ho0, hb⟩; have n0_ := Aside0.mk (Kd.R_elder' (by (with_reducible repeat (first | apply Kd.R_alloc | apply Kd.R_drewN | apply Kd.R_drew)); exact HO412.out) (Kd.R_base ho0) hb); have n1_ := Aside0.mk (Kd.R_lower (Kd.R_new' ho0 (Kd.R_lt (by (with_reducible repeat (first | apply Kd.R_alloc | apply Kd.R_drewN | apply Kd.R_drew)); exact HO412.out))) (below_size (by repeat (first | (with_reducible first | exact HB.out | apply below_alloc | apply pw_below_drewN | apply below_drew1 | refine below_set ?_ GE392.out | refine below_set ?_ GE393.out | refine below_set ?_ GE400.out) | exact HB.out)))); have n2_ := Aside0.mk (blk_below (g := gb392) (o := .cells #[.int .i64 a0_0, .int .i64 a0_1, .int .i64 a0_2, .int .i64 a0_3] 25 (0, 0)) (by (with_reducible repeat (first | refine blk_drewN ?_ _ | refine blk_drew ?_ | refine blk_alloc ?_ _)); exact BK392.out) hb); have n3_ := Aside0.mk (blk_below (g := gb393) (o := .cells #[.int .i64 0, .int .i64 0, .int .i64 0, .int .i64 0, .int .i64 0, .int .i64 0, .int .i64 0, .int .i64 0, .int .i64 0] 38 (0, 0)) (by (with_reducible repeat (first | refine blk_drewN ?_ _ | refine blk_drew ?_ | refine blk_alloc ?_ _)); exact BK393.out) hb); have n4_ := Aside0.mk (blk_below (g := gb400) (o := .cells #[.int .i64 (wrap64 ((wrap64 (a0_0 + (wrap64 (2 * (wrap64 (a0_2 + t403)))))) - (wrap64 (40 - (rd l1 0))))), .int .i64 (wrap64 ((wrap64 (a0_1 + (wrap64 (2 * (wrap64 (a0_3 + t406)))))) - (wrap64 (40 - (rd l1 1))))), .int .i64 (wrap64 (a0_2 + t403)), .int .i64 (wrap64 (a0_3 + t406)), .int .i64 a0_0, .int .i64 a0_1, .int .i64 a0_2, .int .i64 a0_3, .int .i64 t399] 38 (0, 0)) (by (with_reducible repeat (first | refine blk_drewN ?_ _ | refine blk_drew ?_ | refine blk_alloc ?_ _)); exact BK400.out) hb); have n5_ := Aside0.mk (below_step (by repeat (first | (with_reducible first | exact HB.out | apply below_alloc | apply pw_below_drewN | apply below_drew1 | refine below_set ?_ GE392.out | refine below_set ?_ GE393.out | refine below_set ?_ GE400.out) | exact HB.out)) hb); clear HO412; clear BK392; clear BK393; clear BK400; clear HB; have HO412 := n0_; have HO416 := n1_; have BK392 := n2_; have BK393 := n3_; have BK400 := n4_; have HB := n5_; clear n0_ n1_ n2_ n3_ n4_ n5_; (try clear hb); (try clear hb2); (try clear hk); (try clear hi); (try clear ho0); obtain ⟨Ao88, co88, eo88⟩ := Kd.R_slice HO416.out; subst eo88) | (go_at_call 28; (with_reducible refine (slices_Equal_int64_int64.calls kj3 _ _ t414 _ _ l2 t417 _ ?side1 ?side2 ?side3 ?side4 A78.out).mono ?_); (case side1 => repeat (first | exact (Kd.R_reads' HO416.out).2.2 | (with_reducible refine Kd.C_alloc ?_ _) | (with_reducible refine Kd.C_drewN ?_ _) | (with_reducible refine Kd.C_drew ?_))); (case side2 => exact (Kd.R_reads' HO416.out).2.1); (case side3 => repeat (first | exact (Kd.C_below HR2.out HB.out) | (with_reducible refine Kd.C_alloc ?_ _) | (with_reducible refine Kd.C_drewN ?_ _) | (with_reducible refine Kd.C_drew ?_))); (case side4 => exact HC2.out); rintro e w' ⟨rfl, ⟨nd, rfl⟩⟩))
                          go_meet
                          case rel => exact ⟨_, (!t417), (by first | rfl | (simp; done) | (simp [*]; done)), H', ⟨by have := HJ3.out; first | omega | exact Nat.le_refl _⟩, ⟨by (with_reducible repeat (first | refine blk_drewN ?_ _ | refine blk_drew ?_ | refine blk_alloc ?_ _)); exact BK392.out⟩, ⟨by (with_reducible repeat (first | refine blk_drewN ?_ _ | refine blk_drew ?_ | refine blk_alloc ?_ _)); exact BK393.out⟩, ⟨by (with_reducible repeat (first | refine blk_drewN ?_ _ | refine blk_drew ?_ | refine blk_alloc ?_ _)); exact BK400.out⟩, ⟨by repeat (first | (with_reducible first | exact HB.out | apply below_alloc | apply pw_below_drewN | apply below_drew1 | refine below_set ?_ GE392.out | refine below_set ?_ GE393.out | refine below_set ?_ GE400.out) | exact HB.out)⟩⟩
                        · replace c76 := Bool.eq_false_iff.mpr c76
                          subst c76
                          have H1 : (impl_MachineFrom.j1 kj3 true (wrap64 ((wrap64 (a0_0 + (wrap64 (2 * (wrap64 (a0_2 + t403)))))) - (wrap64 (40 - (rd l1 0))))) (wrap64 ((wrap64 (a0_1 + (wrap64 (2 * (wrap64 (a0_3 + t406)))))) - (wrap64 (40 - (rd l1 1))))) (wrap64 (a0_2 + t403)) (wrap64 (a0_3 + t406)) a0_0 a0_1 a0_2 a0_3 t399) = some (r1, r2, r3, r4, r5, r6, r7, r8, r9, r10) := by rw [if_neg (show ¬ (false = true) by decide)] at H; exact H
                          clear H
                          have H := H1
                          clear H1
                          have H' := Aside0.mk H
                          clear H
                          have hnb89 := NB400_392.out
                          have hnc89 := NB392_400.out
                          have hnb90 := NB400_393.out
                          have hnc90 := NB393_400.out
                          have hcz91_0 : w70.cell? ⟨gb400, 0, none⟩ = some (.int .i64 (wrap64 ((wrap64 (a0_0 + (wrap64 (2 * (wrap64 (a0_2 + t403)))))) - (wrap64 (40 - (rd l1 0)))))) := (blk_cell BK400.out 0).trans rfl
                          have hcz91_1 : w70.cell? ⟨gb400, 1, none⟩ = some (.int .i64 0) := (blk_cell BK400.out 1).trans rfl
                          have hcz91_2 : w70.cell? ⟨gb400, 2, none⟩ = some (.int .i64 (wrap64 (a0_2 + t403))) := (blk_cell BK400.out 2).trans rfl
                          have hcz91_3 : w70.cell? ⟨gb400, 3, none⟩ = some (.int .i64 (wrap64 (a0_3 + t406))) := (blk_cell BK400.out 3).trans rfl
                          have hcz91_4 : w70.cell? ⟨gb400, 4, none⟩ = some (.int .i64 a0_0) := (blk_cell BK400.out 4).trans rfl
                          have hcz91_5 : w70.cell? ⟨gb400, 5, none⟩ = some (.int .i64 a0_1) := (blk_cell BK400.out 5).trans rfl
                          have hcz91_6 : w70.cell? ⟨gb400, 6, none⟩ = some (.int .i64 a0_2) := (blk_cell BK400.out 6).trans rfl
                          have hcz91_7 : w70.cell? ⟨gb400, 7, none⟩ = some (.int .i64 a0_3) := (blk_cell BK400.out 7).trans rfl
                          have hcz91_8 : w70.cell? ⟨gb400, 8, none⟩ = some (.int .i64 t399) := (blk_cell BK400.out 8).trans rfl
                          have hfz91_0 := blk_frozen BK400.out 0
                          have hfz91_1 := blk_frozen BK400.out 1
                          have hfz91_2 := blk_frozen BK400.out 2
                          have hfz91_3 := blk_frozen BK400.out 3
                          have hfz91_4 := blk_frozen BK400.out 4
                          have hfz91_5 := blk_frozen BK400.out 5
                          have hfz91_6 := blk_frozen BK400.out 6
                          have hfz91_7 := blk_frozen BK400.out 7
                          have hfz91_8 := blk_frozen BK400.out 8
                          go_wp2_with (first | ((with_reducible refine gate_callee (f := 27) rfl ?_); refine goesL_ (some 98) rfl rfl Try.func27 (by kernel_rfl) rfl #[.agg #[.int .i64 (wrap64 ((wrap64 (a0_0 + (wrap64 (2 * (wrap64 (a0_2 + t403)))))) - (wrap64 (40 - (rd l1 0))))), .int .i64 (wrap64 ((wrap64 (a0_1 + (wrap64 (2 * (wrap64 (a0_3 + t406)))))) - (wrap64 (40 - (rd l1 1))))), .int .i64 (wrap64 (a0_2 + t403)), .int .i64 (wrap64 (a0_3 + t406)), .int .i64 a0_0, .int .i64 a0_1, .int .i64 a0_2, .int .i64 a0_3, .int .i64 t399]] rfl (by (try simp only [List.map_toArray, List.map_cons, List.map_nil]); first | done | rfl | (simp only [List.length_drop, List.length_take]; rfl)) ?_; (with_reducible refine (impl_ValidMachine.calls (wrap64 ((wrap64 (a0_0 + (wrap64 (2 * (wrap64 (a0_2 + t403)))))) - (wrap64 (40 - (rd l1 0))))) (wrap64 ((wrap64 (a0_1 + (wrap64 (2 * (wrap64 (a0_3 + t406)))))) - (wrap64 (40 - (rd l1 1))))) (wrap64 (a0_2 + t403)) (wrap64 (a0_3 + t406)) a0_0 a0_1 a0_2 a0_3 t399 true _ A72.out).mono ?_); rintro e w92 ⟨rfl, hb⟩; refine ⟨_, rfl, ?_⟩; have n0_ := Aside0.mk (blk_below (g := gb392) (o := .cells #[.int .i64 a0_0, .int .i64 a0_1, .int .i64 a0_2, .int .i64 a0_3] 25 (0, 0)) (by (with_reducible repeat (first | refine blk_drewN ?_ _ | refine blk_drew ?_ | refine blk_alloc ?_ _)); refine blk_far ?_ NB392_400.out _; (with_reducible repeat (first | refine blk_drewN ?_ _ | refine blk_drew ?_ | refine blk_alloc ?_ _)); exact BK392.out) hb); have n1_ := Aside0.mk (blk_below (g := gb393) (o := .cells #[.int .i64 0, .int .i64 0, .int .i64 0, .int .i64 0, .int .i64 0, .int .i64 0, .int .i64 0, .int .i64 0, .int .i64 0] 38 (0, 0)) (by (with_reducible repeat (first | refine blk_drewN ?_ _ | refine blk_drew ?_ | refine blk_alloc ?_ _)); refine blk_far ?_ NB393_400.out _; (with_reducible repeat (first | refine blk_drewN ?_ _ | refine blk_drew ?_ | refine blk_alloc ?_ _)); exact BK393.out) hb); have n2_ := Aside0.mk (blk_below (g := gb400) (o := .cells #[.int .i64 (wrap64 ((wrap64 (a0_0 + (wrap64 (2 * (wrap64 (a0_2 + t403)))))) - (wrap64 (40 - (rd l1 0))))), .int .i64 (wrap64 ((wrap64 (a0_1 + (wrap64 (2 * (wrap64 (a0_3 + t406)))))) - (wrap64 (40 - (rd l1 1))))), .int .i64 (wrap64 (a0_2 + t403)), .int .i64 (wrap64 (a0_3 + t406)), .int .i64 a0_0, .int .i64 a0_1, .int .i64 a0_2, .int .i64 a0_3, .int .i64 t399] 38 (0, 0)) (by (with_reducible repeat (first | refine blk_drewN ?_ _ | refine blk_drew ?_ | refine blk_alloc ?_ _)); refine blk_put (cs := #[.int .i64 (wrap64 ((wrap64 (a0_0 + (wrap64 (2 * (wrap64 (a0_2 + t403)))))) - (wrap64 (40 - (rd l1 0))))), .int .i64 0, .int .i64 (wrap64 (a0_2 + t403)), .int .i64 (wrap64 (a0_3 + t406)), .int .i64 a0_0, .int .i64 a0_1, .int .i64 a0_2, .int .i64 a0_3, .int .i64 t399]) ?_ 1 _ rfl; (with_reducible repeat (first | refine blk_drewN ?_ _ | refine blk_drew ?_ | refine blk_alloc ?_ _)); exact BK400.out) hb); have n3_ := Aside0.mk (below_step (by repeat (first | (with_reducible first | exact HB.out | apply below_alloc | apply pw_below_drewN | apply below_drew1 | refine below_set ?_ GE392.out | refine below_set ?_ GE393.out | refine below_set ?_ GE400.out) | exact HB.out)) hb); clear BK392; clear BK393; clear BK400; clear HB; have BK392 := n0_; have BK393 := n1_; have BK400 := n2_; have HB := n3_; clear n0_ n1_ n2_ n3_; (try clear hb); (try clear hb2); (try clear hk); (try clear hi); have hcz93_0 : w92.cell? ⟨gb400, 0, none⟩ = some (.int .i64 (wrap64 ((wrap64 (a0_0 + (wrap64 (2 * (wrap64 (a0_2 + t403)))))) - (wrap64 (40 - (rd l1 0)))))) := (blk_cell BK400.out 0).trans rfl; have hcz93_1 : w92.cell? ⟨gb400, 1, none⟩ = some (.int .i64 (wrap64 ((wrap64 (a0_1 + (wrap64 (2 * (wrap64 (a0_3 + t406)))))) - (wrap64 (40 - (rd l1 1)))))) := (blk_cell BK400.out 1).trans rfl; have hcz93_2 : w92.cell? ⟨gb400, 2, none⟩ = some (.int .i64 (wrap64 (a0_2 + t403))) := (blk_cell BK400.out 2).trans rfl; have hcz93_3 : w92.cell? ⟨gb400, 3, none⟩ = some (.int .i64 (wrap64 (a0_3 + t406))) := (blk_cell BK400.out 3).trans rfl; have hcz93_4 : w92.cell? ⟨gb400, 4, none⟩ = some (.int .i64 a0_0) := (blk_cell BK400.out 4).trans rfl; have hcz93_5 : w92.cell? ⟨gb400, 5, none⟩ = some (.int .i64 a0_1) := (blk_cell BK400.out 5).trans rfl; have hcz93_6 : w92.cell? ⟨gb400, 6, none⟩ = some (.int .i64 a0_2) := (blk_cell BK400.out 6).trans rfl; have hcz93_7 : w92.cell? ⟨gb400, 7, none⟩ = some (.int .i64 a0_3) := (blk_cell BK400.out 7).trans rfl; have hcz93_8 : w92.cell? ⟨gb400, 8, none⟩ = some (.int .i64 t399) := (blk_cell BK400.out 8).trans rfl; have hfz93_0 := blk_frozen BK400.out 0; have hfz93_1 := blk_frozen BK400.out 1; have hfz93_2 := blk_frozen BK400.out 2; have hfz93_3 := blk_frozen BK400.out 3; have hfz93_4 := blk_frozen BK400.out 4; have hfz93_5 := blk_frozen BK400.out 5; have hfz93_6 := blk_frozen BK400.out 6; have hfz93_7 := blk_frozen BK400.out 7; have hfz93_8 := blk_frozen BK400.out 8) | (go_at_call 29; (with_reducible refine (impl_Machine_gaps.calls (wrap64 ((wrap64 (a0_0 + (wrap64 (2 * (wrap64 (a0_2 + t403)))))) - (wrap64 (40 - (rd l1 0))))) (wrap64 ((wrap64 (a0_1 + (wrap64 (2 * (wrap64 (a0_3 + t406)))))) - (wrap64 (40 - (rd l1 1))))) (wrap64 (a0_2 + t403)) (wrap64 (a0_3 + t406)) a0_0 a0_1 a0_2 a0_3 t399 t410 _ A74.out).mono ?_); rintro e w94 ⟨v411, rfl, ho0, hb⟩; have n0_ := Aside0.mk (Kd.R_lower ho0 (below_size (by repeat (first | (with_reducible first | exact HB.out | apply below_alloc | apply pw_below_drewN | apply below_drew1 | refine below_set ?_ GE392.out | refine below_set ?_ GE393.out | refine below_set ?_ GE400.out) | exact HB.out)))); have n1_ := Aside0.mk (blk_below (g := gb392) (o := .cells #[.int .i64 a0_0, .int .i64 a0_1, .int .i64 a0_2, .int .i64 a0_3] 25 (0, 0)) (by (with_reducible repeat (first | refine blk_drewN ?_ _ | refine blk_drew ?_ | refine blk_alloc ?_ _)); exact BK392.out) hb); have n2_ := Aside0.mk (blk_below (g := gb393) (o := .cells #[.int .i64 0, .int .i64 0, .int .i64 0, .int .i64 0, .int .i64 0, .int .i64 0, .int .i64 0, .int .i64 0, .int .i64 0] 38 (0, 0)) (by (with_reducible repeat (first | refine blk_drewN ?_ _ | refine blk_drew ?_ | refine blk_alloc ?_ _)); exact BK393.out) hb); have n3_ := Aside0.mk (blk_below (g := gb400) (o := .cells #[.int .i64 (wrap64 ((wrap64 (a0_0 + (wrap64 (2 * (wrap64 (a0_2 + t403)))))) - (wrap64 (40 - (rd l1 0))))), .int .i64 (wrap64 ((wrap64 (a0_1 + (wrap64 (2 * (wrap64 (a0_3 + t406)))))) - (wrap64 (40 - (rd l1 1))))), .int .i64 (wrap64 (a0_2 + t403)), .int .i64 (wrap64 (a0_3 + t406)), .int .i64 a0_0, .int .i64 a0_1, .int .i64 a0_2, .int .i64 a0_3, .int .i64 t399] 38 (0, 0)) (by (with_reducible repeat (first | refine blk_drewN ?_ _ | refine blk_drew ?_ | refine blk_alloc ?_ _)); exact BK400.out) hb); have n4_ := Aside0.mk (below_step (by repeat (first | (with_reducible first | exact HB.out | apply below_alloc | apply pw_below_drewN | apply below_drew1 | refine below_set ?_ GE392.out | refine below_set ?_ GE393.out | refine below_set ?_ GE400.out) | exact HB.out)) hb); clear BK392; clear BK393; clear BK400; clear HB; have HO412 := n0_; have BK392 := n1_; have BK393 := n2_; have BK400 := n3_; have HB := n4_; clear n0_ n1_ n2_ n3_ n4_; (try clear hb); (try clear hb2); (try clear hk); (try clear hi); (try clear ho0); obtain ⟨Ao95, co95, eo95⟩ := Kd.R_slice HO412.out; subst eo95) | (go_at_call 28; (with_reducible refine (slices_Equal_int64_int64.calls kj3 _ _ t410 _ _ l1 false _ ?side1 ?side2 ?side3 ?side4 A75.out).mono ?_); (case side1 => repeat (first | exact (Kd.R_reads' HO412.out).2.2 | (with_reducible refine Kd.C_alloc ?_ _) | (with_reducible refine Kd.C_drewN ?_ _) | (with_reducible refine Kd.C_drew ?_))); (case side2 => exact (Kd.R_reads' HO412.out).2.1); (case side3 => repeat (first | exact (Kd.C_below HR1.out HB.out) | (with_reducible refine Kd.C_alloc ?_ _) | (with_reducible refine Kd.C_drewN ?_ _) | (with_reducible refine Kd.C_drew ?_))); (case side4 => exact HC1.out); rintro e w' ⟨rfl, ⟨nd, rfl⟩⟩))
                          go_meet
                          case rel => exact ⟨_, (true), (by first | rfl | (simp; done) | (simp [*]; done)), H', ⟨by have := HJ3.out; first | omega | exact Nat.le_refl _⟩, ⟨by (with_reducible repeat (first | refine blk_drewN ?_ _ | refine blk_drew ?_ | refine blk_alloc ?_ _)); exact BK392.out⟩, ⟨by (with_reducible repeat (first | refine blk_drewN ?_ _ | refine blk_drew ?_ | refine blk_alloc ?_ _)); exact BK393.out⟩, ⟨by (with_reducible repeat (first | refine blk_drewN ?_ _ | refine blk_drew ?_ | refine blk_alloc ?_ _)); exact BK400.out⟩, ⟨by repeat (first | (with_reducible first | exact HB.out | apply below_alloc | apply pw_below_drewN | apply below_drew1 | refine below_set ?_ GE392.out | refine below_set ?_ GE393.out | refine below_set ?_ GE400.out) | exact HB.out)⟩⟩
                      · replace c73 := Bool.eq_false_iff.mpr c73
                        subst c73
                        have H1 : (impl_MachineFrom.j1 kj3 true (wrap64 ((wrap64 (a0_0 + (wrap64 (2 * (wrap64 (a0_2 + t403)))))) - (wrap64 (40 - (rd l1 0))))) (wrap64 ((wrap64 (a0_1 + (wrap64 (2 * (wrap64 (a0_3 + t406)))))) - (wrap64 (40 - (rd l1 1))))) (wrap64 (a0_2 + t403)) (wrap64 (a0_3 + t406)) a0_0 a0_1 a0_2 a0_3 t399) = some (r1, r2, r3, r4, r5, r6, r7, r8, r9, r10) := by rw [if_neg (show ¬ (false = true) by decide)] at H; exact H
                        clear H
                        have H := H1
                        clear H1
                        have H' := Aside0.mk H
                        clear H
                        have hnb96 := NB400_392.out
                        have hnc96 := NB392_400.out
                        have hnb97 := NB400_393.out
                        have hnc97 := NB393_400.out
                        have hcz98_0 : w70.cell? ⟨gb400, 0, none⟩ = some (.int .i64 (wrap64 ((wrap64 (a0_0 + (wrap64 (2 * (wrap64 (a0_2 + t403)))))) - (wrap64 (40 - (rd l1 0)))))) := (blk_cell BK400.out 0).trans rfl
                        have hcz98_1 : w70.cell? ⟨gb400, 1, none⟩ = some (.int .i64 0) := (blk_cell BK400.out 1).trans rfl
                        have hcz98_2 : w70.cell? ⟨gb400, 2, none⟩ = some (.int .i64 (wrap64 (a0_2 + t403))) := (blk_cell BK400.out 2).trans rfl
                        have hcz98_3 : w70.cell? ⟨gb400, 3, none⟩ = some (.int .i64 (wrap64 (a0_3 + t406))) := (blk_cell BK400.out 3).trans rfl
                        have hcz98_4 : w70.cell? ⟨gb400, 4, none⟩ = some (.int .i64 a0_0) := (blk_cell BK400.out 4).trans rfl
                        have hcz98_5 : w70.cell? ⟨gb400, 5, none⟩ = some (.int .i64 a0_1) := (blk_cell BK400.out 5).trans rfl
                        have hcz98_6 : w70.cell? ⟨gb400, 6, none⟩ = some (.int .i64 a0_2) := (blk_cell BK400.out 6).trans rfl
                        have hcz98_7 : w70.cell? ⟨gb400, 7, none⟩ = some (.int .i64 a0_3) := (blk_cell BK400.out 7).trans rfl
                        have hcz98_8 : w70.cell? ⟨gb400, 8, none⟩ = some (.int .i64 t399) := (blk_cell BK400.out 8).trans rfl
                        have hfz98_0 := blk_frozen BK400.out 0
                        have hfz98_1 := blk_frozen BK400.out 1
                        have hfz98_2 := blk_frozen BK400.out 2
                        have hfz98_3 := blk_frozen BK400.out 3
                        have hfz98_4 := blk_frozen BK400.out 4
                        have hfz98_5 := blk_frozen BK400.out 5
                        have hfz98_6 := blk_frozen BK400.out 6
                        have hfz98_7 := blk_frozen BK400.out 7
                        have hfz98_8 := blk_frozen BK400.out 8
                        go_wp2_with (first | ((with_reducible refine gate_callee (f := 27) rfl ?_); refine goesL_ (some 98) rfl rfl Try.func27 (by kernel_rfl) rfl #[.agg #[.int .i64 (wrap64 ((wrap64 (a0_0 + (wrap64 (2 * (wrap64 (a0_2 + t403)))))) - (wrap64 (40 - (rd l1 0))))), .int .i64 (wrap64 ((wrap64 (a0_1 + (wrap64 (2 * (wrap64 (a0_3 + t406)))))) - (wrap64 (40 - (rd l1 1))))), .int .i64 (wrap64 (a0_2 + t403)), .int .i64 (wrap64 (a0_3 + t406)), .int .i64 a0_0, .int .i64 a0_1, .int .i64 a0_2, .int .i64 a0_3, .int .i64 t399]] rfl (by (try simp only [List.map_toArray, List.map_cons, List.map_nil]); first | done | rfl | (simp only [List.length_drop, List.length_take]; rfl)) ?_; (with_reducible refine (impl_ValidMachine.calls (wrap64 ((wrap64 (a0_0 + (wrap64 (2 * (wrap64 (a0_2 + t403)))))) - (wrap64 (40 - (rd l1 0))))) (wrap64 ((wrap64 (a0_1 + (wrap64 (2 * (wrap64 (a0_3 + t406)))))) - (wrap64 (40 - (rd l1 1))))) (wrap64 (a0_2 + t403)) (wrap64 (a0_3 + t406)) a0_0 a0_1 a0_2 a0_3 t399 false _ A72.out).mono ?_); rintro e w99 ⟨rfl, hb⟩; refine ⟨_, rfl, ?_⟩; have n0_ := Aside0.mk (blk_below (g := gb392) (o := .cells #[.int .i64 a0_0, .int .i64 a0_1, .int .i64 a0_2, .int .i64 a0_3] 25 (0, 0)) (by (with_reducible repeat (first | refine blk_drewN ?_ _ | refine blk_drew ?_ | refine blk_alloc ?_ _)); refine blk_far ?_ NB392_400.out _; (with_reducible repeat (first | refine blk_drewN ?_ _ | refine blk_drew ?_ | refine blk_alloc ?_ _)); exact BK392.out) hb); have n1_ := Aside0.mk (blk_below (g := gb393) (o := .cells #[.int .i64 0, .int .i64 0, .int .i64 0, .int .i64 0, .int .i64 0, .int .i64 0, .int .i64 0, .int .i64 0, .int .i64 0] 38 (0, 0)) (by (with_reducible repeat (first | refine blk_drewN ?_ _ | refine blk_drew ?_ | refine blk_alloc ?_ _)); refine blk_far ?_ NB393_400.out _; (with_reducible repeat (first | refine blk_drewN ?_ _ | refine blk_drew ?_ | refine blk_alloc ?_ _)); exact BK393.out) hb); have n2_ := Aside0.mk (blk_below (g := gb400) (o := .cells #[.int .i64 (wrap64 ((wrap64 (a0_0 + (wrap64 (2 * (wrap64 (a0_2 + t403)))))) - (wrap64 (40 - (rd l1 0))))), .int .i64 (wrap64 ((wrap64 (a0_1 + (wrap64 (2 * (wrap64 (a0_3 + t406)))))) - (wrap64 (40 - (rd l1 1))))), .int .i64 (wrap64 (a0_2 + t403)), .int .i64 (wrap64 (a0_3 + t406)), .int .i64 a0_0, .int .i64 a0_1, .int .i64 a0_2, .int .i64 a0_3, .int .i64 t399] 38 (0, 0)) (by (with_reducible repeat (first | refine blk_drewN ?_ _ | refine blk_drew ?_ | refine blk_alloc ?_ _)); refine blk_put (cs := #[.int .i64 (wrap64 ((wrap64 (a0_0 + (wrap64 (2 * (wrap64 (a0_2 + t403)))))) - (wrap64 (40 - (rd l1 0))))), .int .i64 0, .int .i64 (wrap64 (a0_2 + t403)), .int .i64 (wrap64 (a0_3 + t406)), .int .i64 a0_0, .int .i64 a0_1, .int .i64 a0_2, .int .i64 a0_3, .int .i64 t399]) ?_ 1 _ rfl; (with_reducible repeat (first | refine blk_drewN ?_ _ | refine blk_drew ?_ | refine blk_alloc ?_ _)); exact BK400.out) hb); have n3_ := Aside0.mk (below_step (by repeat (first | (with_reducible first | exact HB.out | apply below_alloc | apply pw_below_drewN | apply below_drew1 | refine below_set ?_ GE392.out | refine below_set ?_ GE393.out | refine below_set ?_ GE400.out) | exact HB.out)) hb); clear BK392; clear BK393; clear BK400; clear HB; have BK392 := n0_; have BK393 := n1_; have BK400 := n2_; have HB := n3_; clear n0_ n1_ n2_ n3_; (try clear hb); (try clear hb2); (try clear hk); (try clear hi)))
                        go_meet
                        case rel => exact ⟨_, (true), (by first | rfl | (simp; done) | (simp [*]; done)), H', ⟨by have := HJ3.out; first | omega | exact Nat.le_refl _⟩, ⟨by (with_reducible repeat (first | refine blk_drewN ?_ _ | refine blk_drew ?_ | refine blk_alloc ?_ _)); exact BK392.out⟩, ⟨by (with_reducible repeat (first | refine blk_drewN ?_ _ | refine blk_drew ?_ | refine blk_alloc ?_ _)); exact BK393.out⟩, ⟨by (with_reducible repeat (first | refine blk_drewN ?_ _ | refine blk_drew ?_ | refine blk_alloc ?_ _)); exact BK400.out⟩, ⟨by repeat (first | (with_reducible first | exact HB.out | apply below_alloc | apply pw_below_drewN | apply below_drew1 | refine below_set ?_ GE392.out | refine below_set ?_ GE393.out | refine below_set ?_ GE400.out) | exact HB.out)⟩⟩
                    case rest =>
                      clear HC44
                      try clear c2
                      try clear p2
                      try clear p4
                      try clear q4
                      try clear hx4
                      try clear qi4
                      try clear p6
                      try clear c7
                      try clear c8
                      try clear c9
                      try clear c26
                      try clear c27
                      try clear p40
                      try clear q40
                      try clear hx40
                      try clear qi40
                      try clear p64
                      try clear c73
                      try clear c76
                      try clear c79
                      try clear c80
                      try clear c89
                      try clear c90
                      try clear c96
                      try clear c97
                      try clear hcz81_0
                      try clear hcz81_1
                      try clear hcz81_2
                      try clear hcz81_3
                      try clear hcz81_4
                      try clear hcz81_5
                      try clear hcz81_6
                      try clear hcz81_7
                      try clear hcz81_8
                      try clear hcz83_0
                      try clear hcz83_1
                      try clear hcz83_2
                      try clear hcz83_3
                      try clear hcz83_4
                      try clear hcz83_5
                      try clear hcz83_6
                      try clear hcz83_7
                      try clear hcz83_8
                      try clear hcz86_0
                      try clear hcz86_1
                      try clear hcz86_2
                      try clear hcz86_3
                      try clear hcz86_4
                      try clear hcz86_5
                      try clear hcz86_6
                      try clear hcz86_7
                      try clear hcz86_8
                      try clear hcz91_0
                      try clear hcz91_1
                      try clear hcz91_2
                      try clear hcz91_3
                      try clear hcz91_4
                      try clear hcz91_5
                      try clear hcz91_6
                      try clear hcz91_7
                      try clear hcz91_8
                      try clear hcz93_0
                      try clear hcz93_1
                      try clear hcz93_2
                      try clear hcz93_3
                      try clear hcz93_4
                      try clear hcz93_5
                      try clear hcz93_6
                      try clear hcz93_7
                      try clear hcz93_8
                      try clear hcz98_0
                      try clear hcz98_1
                      try clear hcz98_2
                      try clear hcz98_3
                      try clear hcz98_4
                      try clear hcz98_5
                      try clear hcz98_6
                      try clear hcz98_7
                      try clear hcz98_8
                      try clear hfz81_0
                      try clear hfz81_1
                      try clear hfz81_2
                      try clear hfz81_3
                      try clear hfz81_4
                      try clear hfz81_5
                      try clear hfz81_6
                      try clear hfz81_7
                      try clear hfz81_8
                      try clear hfz83_0
                      try clear hfz83_1
                      try clear hfz83_2
                      try clear hfz83_3
                      try clear hfz83_4
                      try clear hfz83_5
                      try clear hfz83_6
                      try clear hfz83_7
                      try clear hfz83_8
                      try clear hfz86_0
                      try clear hfz86_1
                      try clear hfz86_2
                      try clear hfz86_3
                      try clear hfz86_4
                      try clear hfz86_5
                      try clear hfz86_6
                      try clear hfz86_7
                      try clear hfz86_8
                      try clear hfz91_0
                      try clear hfz91_1
                      try clear hfz91_2
                      try clear hfz91_3
                      try clear hfz91_4
                      try clear hfz91_5
                      try clear hfz91_6
                      try clear hfz91_7
                      try clear hfz91_8
                      try clear hfz93_0
                      try clear hfz93_1
                      try clear hfz93_2
                      try clear hfz93_3
                      try clear hfz93_4
                      try clear hfz93_5
                      try clear hfz93_6
                      try clear hfz93_7
                      try clear hfz93_8
                      try clear hfz98_0
                      try clear hfz98_1
                      try clear hfz98_2
                      try clear hfz98_3
                      try clear hfz98_4
                      try clear hfz98_5
                      try clear hfz98_6
                      try clear hfz98_7
                      try clear hfz98_8
                      try clear hx407_0
                      try clear hx408_0
                      try clear p407
                      try clear p408
                      try clear q407
                      try clear q408
                      obtain ⟨kq, x113_43, rfl, HA, HJ43, BK392, BK393, BK400, HB⟩ := hcut
                      cases kq with
                      | zero => exact absurd HA.out (by simp [impl_MachineFrom.j1])
                      | succ kj43 =>
                        have H := HA.out
                        clear HA
                        simp only [impl_MachineFrom.j1] at H
                        by_cases c100 : x113_43 = true
                        · subst c100
                          have H1 : (some (0, 0, 0, 0, 0, 0, 0, 0, 0, false)) = some (r1, r2, r3, r4, r5, r6, r7, r8, r9, r10) := by rw [if_pos rfl] at H; exact H
                          clear H
                          have H := H1
                          clear H1
                          simp only [Option.some.injEq, Prod.mk.injEq] at H
                          obtain ⟨rfl, rfl, rfl, rfl, rfl, rfl, rfl, rfl, rfl, rfl⟩ := H
                          have hnb101 := NB393_392.out
                          have hnc101 := NB392_393.out
                          have hnb102 := NB393_400.out
                          have hnc102 := NB400_393.out
                          have hcz103_0 : wc.cell? ⟨gb393, 0, none⟩ = some (.int .i64 0) := (blk_cell BK393.out 0).trans rfl
                          have hcz103_1 : wc.cell? ⟨gb393, 1, none⟩ = some (.int .i64 0) := (blk_cell BK393.out 1).trans rfl
                          have hcz103_2 : wc.cell? ⟨gb393, 2, none⟩ = some (.int .i64 0) := (blk_cell BK393.out 2).trans rfl
                          have hcz103_3 : wc.cell? ⟨gb393, 3, none⟩ = some (.int .i64 0) := (blk_cell BK393.out 3).trans rfl
                          have hcz103_4 : wc.cell? ⟨gb393, 4, none⟩ = some (.int .i64 0) := (blk_cell BK393.out 4).trans rfl
                          have hcz103_5 : wc.cell? ⟨gb393, 5, none⟩ = some (.int .i64 0) := (blk_cell BK393.out 5).trans rfl
                          have hcz103_6 : wc.cell? ⟨gb393, 6, none⟩ = some (.int .i64 0) := (blk_cell BK393.out 6).trans rfl
                          have hcz103_7 : wc.cell? ⟨gb393, 7, none⟩ = some (.int .i64 0) := (blk_cell BK393.out 7).trans rfl
                          have hcz103_8 : wc.cell? ⟨gb393, 8, none⟩ = some (.int .i64 0) := (blk_cell BK393.out 8).trans rfl
                          have hfz103_0 := blk_frozen BK393.out 0
                          have hfz103_1 := blk_frozen BK393.out 1
                          have hfz103_2 := blk_frozen BK393.out 2
                          have hfz103_3 := blk_frozen BK393.out 3
                          have hfz103_4 := blk_frozen BK393.out 4
                          have hfz103_5 := blk_frozen BK393.out 5
                          have hfz103_6 := blk_frozen BK393.out 6
                          have hfz103_7 := blk_frozen BK393.out 7
                          have hfz103_8 := blk_frozen BK393.out 8
                          go_wp2
                          refine bodyPost_ret (results_ct rfl _ _ gb393 38 #[.int .i64 0, .int .i64 0, .int .i64 0, .int .i64 0, .int .i64 0, .int .i64 0, .int .i64 0, .int .i64 0, .int .i64 0] (0, 0) _ rfl (by (with_reducible repeat (first | refine blk_drewN ?_ _ | refine blk_drew ?_ | refine blk_alloc ?_ _)); refine blk_put (cs := #[.int .i64 0, .int .i64 0, .int .i64 0, .int .i64 0, .int .i64 0, .int .i64 0, .int .i64 0, .int .i64 0, .int .i64 0]) ?_ 8 _ rfl; (with_reducible repeat (first | refine blk_drewN ?_ _ | refine blk_drew ?_ | refine blk_alloc ?_ _)); refine blk_put (cs := #[.int .i64 0, .int .i64 0, .int .i64 0, .int .i64 0, .int .i64 0, .int .i64 0, .int .i64 0, .int .i64 0, .int .i64 0]) ?_ 7 _ rfl; (with_reducible repeat (first | refine blk_drewN ?_ _ | refine blk_drew ?_ | refine blk_alloc ?_ _)); refine blk_put (cs := #[.int .i64 0, .int .i64 0, .int .i64 0, .int .i64 0, .int .i64 0, .int .i64 0, .int .i64 0, .int .i64 0, .int .i64 0]) ?_ 6 _ rfl; (with_reducible repeat (first | refine blk_drewN ?_ _ | refine blk_drew ?_ | refine blk_alloc ?_ _)); refine blk_put (cs := #[.int .i64 0, .int .i64 0, .int .i64 0, .int .i64 0, .int .i64 0, .int .i64 0, .int .i64 0, .int .i64 0, .int .i64 0]) ?_ 5 _ rfl; (with_reducible repeat (first | refine blk_drewN ?_ _ | refine blk_drew ?_ | refine blk_alloc ?_ _)); refine blk_put (cs := #[.int .i64 0, .int .i64 0, .int .i64 0, .int .i64 0, .int .i64 0, .int .i64 0, .int .i64 0, .int .i64 0, .int .i64 0]) ?_ 4 _ rfl; (with_reducible repeat (first | refine blk_drewN ?_ _ | refine blk_drew ?_ | refine blk_alloc ?_ _)); refine blk_put (cs := #[.int .i64 0, .int .i64 0, .int .i64 0, .int .i64 0, .int .i64 0, .int .i64 0, .int .i64 0, .int .i64 0, .int .i64 0]) ?_ 3 _ rfl; (with_reducible repeat (first | refine blk_drewN ?_ _ | refine blk_drew ?_ | refine blk_alloc ?_ _)); refine blk_put (cs := #[.int .i64 0, .int .i64 0, .int .i64 0, .int .i64 0, .int .i64 0, .int .i64 0, .int .i64 0, .int .i64 0, .int .i64 0]) ?_ 2 _ rfl; (with_reducible repeat (first | refine blk_drewN ?_ _ | refine blk_drew ?_ | refine blk_alloc ?_ _)); refine blk_put (cs := #[.int .i64 0, .int .i64 0, .int .i64 0, .int .i64 0, .int .i64 0, .int .i64 0, .int .i64 0, .int .i64 0, .int .i64 0]) ?_ 1 _ rfl; (with_reducible repeat (first | refine blk_drewN ?_ _ | refine blk_drew ?_ | refine blk_alloc ?_ _)); refine blk_put (cs := #[.int .i64 0, .int .i64 0, .int .i64 0, .int .i64 0, .int .i64 0, .int .i64 0, .int .i64 0, .int .i64 0, .int .i64 0]) ?_ 0 _ rfl; (with_reducible repeat (first | refine blk_drewN ?_ _ | refine blk_drew ?_ | refine blk_alloc ?_ _)); exact BK393.out) Try.underlying38 rfl (by kernel_rfl)) rfl ?_
                          exact ⟨by first | rfl | (simp [errW_none, errW_some] <;> rfl) | (simp [*, errW_none, errW_some] <;> rfl), by repeat (first | (with_reducible first | exact HB.out | apply below_alloc | apply pw_below_drewN | apply below_drew1 | refine below_set ?_ GE392.out | refine below_set ?_ GE393.out | refine below_set ?_ GE400.out) | exact HB.out)⟩
                        · replace c100 := Bool.eq_false_iff.mpr c100
                          subst c100
                          have H1 : (some ((wrap64 ((wrap64 (a0_0 + (wrap64 (2 * (wrap64 (a0_2 + t403)))))) - (wrap64 (40 - (rd l1 0))))), (wrap64 ((wrap64 (a0_1 + (wrap64 (2 * (wrap64 (a0_3 + t406)))))) - (wrap64 (40 - (rd l1 1))))), (wrap64 (a0_2 + t403)), (wrap64 (a0_3 + t406)), a0_0, a0_1, a0_2, a0_3, t399, true)) = some (r1, r2, r3, r4, r5, r6, r7, r8, r9, r10) := by rw [if_neg (show ¬ (false = true) by decide)] at H; exact H
                          clear H
                          have H := H1
                          clear H1
                          simp only [Option.some.injEq, Prod.mk.injEq] at H
                          obtain ⟨rfl, rfl, rfl, rfl, rfl, rfl, rfl, rfl, rfl, rfl⟩ := H
                          have hnb104 := NB400_392.out
                          have hnc104 := NB392_400.out
                          have hnb105 := NB400_393.out
                          have hnc105 := NB393_400.out
                          have hcz106_0 : wc.cell? ⟨gb400, 0, none⟩ = some (.int .i64 (wrap64 ((wrap64 (a0_0 + (wrap64 (2 * (wrap64 (a0_2 + t403)))))) - (wrap64 (40 - (rd l1 0)))))) := (blk_cell BK400.out 0).trans rfl
                          have hcz106_1 : wc.cell? ⟨gb400, 1, none⟩ = some (.int .i64 (wrap64 ((wrap64 (a0_1 + (wrap64 (2 * (wrap64 (a0_3 + t406)))))) - (wrap64 (40 - (rd l1 1)))))) := (blk_cell BK400.out 1).trans rfl
                          have hcz106_2 : wc.cell? ⟨gb400, 2, none⟩ = some (.int .i64 (wrap64 (a0_2 + t403))) := (blk_cell BK400.out 2).trans rfl
                          have hcz106_3 : wc.cell? ⟨gb400, 3, none⟩ = some (.int .i64 (wrap64 (a0_3 + t406))) := (blk_cell BK400.out 3).trans rfl
                          have hcz106_4 : wc.cell? ⟨gb400, 4, none⟩ = some (.int .i64 a0_0) := (blk_cell BK400.out 4).trans rfl
                          have hcz106_5 : wc.cell? ⟨gb400, 5, none⟩ = some (.int .i64 a0_1) := (blk_cell BK400.out 5).trans rfl
                          have hcz106_6 : wc.cell? ⟨gb400, 6, none⟩ = some (.int .i64 a0_2) := (blk_cell BK400.out 6).trans rfl
                          have hcz106_7 : wc.cell? ⟨gb400, 7, none⟩ = some (.int .i64 a0_3) := (blk_cell BK400.out 7).trans rfl
                          have hcz106_8 : wc.cell? ⟨gb400, 8, none⟩ = some (.int .i64 t399) := (blk_cell BK400.out 8).trans rfl
                          have hfz106_0 := blk_frozen BK400.out 0
                          have hfz106_1 := blk_frozen BK400.out 1
                          have hfz106_2 := blk_frozen BK400.out 2
                          have hfz106_3 := blk_frozen BK400.out 3
                          have hfz106_4 := blk_frozen BK400.out 4
                          have hfz106_5 := blk_frozen BK400.out 5
                          have hfz106_6 := blk_frozen BK400.out 6
                          have hfz106_7 := blk_frozen BK400.out 7
                          have hfz106_8 := blk_frozen BK400.out 8
                          have hnb107 := NB393_392.out
                          have hnc107 := NB392_393.out
                          have hcz108_0 : wc.cell? ⟨gb393, 0, none⟩ = some (.int .i64 0) := (blk_cell BK393.out 0).trans rfl
                          have hcz108_1 : wc.cell? ⟨gb393, 1, none⟩ = some (.int .i64 0) := (blk_cell BK393.out 1).trans rfl
                          have hcz108_2 : wc.cell? ⟨gb393, 2, none⟩ = some (.int .i64 0) := (blk_cell BK393.out 2).trans rfl
                          have hcz108_3 : wc.cell? ⟨gb393, 3, none⟩ = some (.int .i64 0) := (blk_cell BK393.out 3).trans rfl
                          have hcz108_4 : wc.cell? ⟨gb393, 4, none⟩ = some (.int .i64 0) := (blk_cell BK393.out 4).trans rfl
                          have hcz108_5 : wc.cell? ⟨gb393, 5, none⟩ = some (.int .i64 0) := (blk_cell BK393.out 5).trans rfl
                          have hcz108_6 : wc.cell? ⟨gb393, 6, none⟩ = some (.int .i64 0) := (blk_cell BK393.out 6).trans rfl
                          have hcz108_7 : wc.cell? ⟨gb393, 7, none⟩ = some (.int .i64 0) := (blk_cell BK393.out 7).trans rfl
                          have hcz108_8 : wc.cell? ⟨gb393, 8, none⟩ = some (.int .i64 0) := (blk_cell BK393.out 8).trans rfl
                          have hfz108_0 := blk_frozen BK393.out 0
                          have hfz108_1 := blk_frozen BK393.out 1
                          have hfz108_2 := blk_frozen BK393.out 2
                          have hfz108_3 := blk_frozen BK393.out 3
                          have hfz108_4 := blk_frozen BK393.out 4
                          have hfz108_5 := blk_frozen BK393.out 5
                          have hfz108_6 := blk_frozen BK393.out 6
                          have hfz108_7 := blk_frozen BK393.out 7
                          have hfz108_8 := blk_frozen BK393.out 8
                          go_wp2
                          refine bodyPost_ret (results_ct rfl _ _ gb393 38 #[.int .i64 (wrap64 ((wrap64 (a0_0 + (wrap64 (2 * (wrap64 (a0_2 + t403)))))) - (wrap64 (40 - (rd l1 0))))), .int .i64 (wrap64 ((wrap64 (a0_1 + (wrap64 (2 * (wrap64 (a0_3 + t406)))))) - (wrap64 (40 - (rd l1 1))))), .int .i64 (wrap64 (a0_2 + t403)), .int .i64 (wrap64 (a0_3 + t406)), .int .i64 a0_0, .int .i64 a0_1, .int .i64 a0_2, .int .i64 a0_3, .int .i64 t399] (0, 0) _ rfl (by (with_reducible repeat (first | refine blk_drewN ?_ _ | refine blk_drew ?_ | refine blk_alloc ?_ _)); refine blk_put (cs := #[.int .i64 (wrap64 ((wrap64 (a0_0 + (wrap64 (2 * (wrap64 (a0_2 + t403)))))) - (wrap64 (40 - (rd l1 0))))), .int .i64 (wrap64 ((wrap64 (a0_1 + (wrap64 (2 * (wrap64 (a0_3 + t406)))))) - (wrap64 (40 - (rd l1 1))))), .int .i64 (wrap64 (a0_2 + t403)), .int .i64 (wrap64 (a0_3 + t406)), .int .i64 a0_0, .int .i64 a0_1, .int .i64 a0_2, .int .i64 a0_3, .int .i64 0]) ?_ 8 _ rfl; (with_reducible repeat (first | refine blk_drewN ?_ _ | refine blk_drew ?_ | refine blk_alloc ?_ _)); refine blk_put (cs := #[.int .i64 (wrap64 ((wrap64 (a0_0 + (wrap64 (2 * (wrap64 (a0_2 + t403)))))) - (wrap64 (40 - (rd l1 0))))), .int .i64 (wrap64 ((wrap64 (a0_1 + (wrap64 (2 * (wrap64 (a0_3 + t406)))))) - (wrap64 (40 - (rd l1 1))))), .int .i64 (wrap64 (a0_2 + t403)), .int .i64 (wrap64 (a0_3 + t406)), .int .i64 a0_0, .int .i64 a0_1, .int .i64 a0_2, .int .i64 0, .int .i64 0]) ?_ 7 _ rfl; (with_reducible repeat (first | refine blk_drewN ?_ _ | refine blk_drew ?_ | refine blk_alloc ?_ _)); refine blk_put (cs := #[.int .i64 (wrap64 ((wrap64 (a0_0 + (wrap64 (2 * (wrap64 (a0_2 + t403)))))) - (wrap64 (40 - (rd l1 0))))), .int .i64 (wrap64 ((wrap64 (a0_1 + (wrap64 (2 * (wrap64 (a0_3 + t406)))))) - (wrap64 (40 - (rd l1 1))))), .int .i64 (wrap64 (a0_2 + t403)), .int .i64 (wrap64 (a0_3 + t406)), .int .i64 a0_0, .int .i64 a0_1, .int .i64 0, .int .i64 0, .int .i64 0]) ?_ 6 _ rfl; (with_reducible repeat (first | refine blk_drewN ?_ _ | refine blk_drew ?_ | refine blk_alloc ?_ _)); refine blk_put (cs := #[.int .i64 (wrap64 ((wrap64 (a0_0 + (wrap64 (2 * (wrap64 (a0_2 + t403)))))) - (wrap64 (40 - (rd l1 0))))), .int .i64 (wrap64 ((wrap64 (a0_1 + (wrap64 (2 * (wrap64 (a0_3 + t406)))))) - (wrap64 (40 - (rd l1 1))))), .int .i64 (wrap64 (a0_2 + t403)), .int .i64 (wrap64 (a0_3 + t406)), .int .i64 a0_0, .int .i64 0, .int .i64 0, .int .i64 0, .int .i64 0]) ?_ 5 _ rfl; (with_reducible repeat (first | refine blk_drewN ?_ _ | refine blk_drew ?_ | refine blk_alloc ?_ _)); refine blk_put (cs := #[.int .i64 (wrap64 ((wrap64 (a0_0 + (wrap64 (2 * (wrap64 (a0_2 + t403)))))) - (wrap64 (40 - (rd l1 0))))), .int .i64 (wrap64 ((wrap64 (a0_1 + (wrap64 (2 * (wrap64 (a0_3 + t406)))))) - (wrap64 (40 - (rd l1 1))))), .int .i64 (wrap64 (a0_2 + t403)), .int .i64 (wrap64 (a0_3 + t406)), .int .i64 0, .int .i64 0, .int .i64 0, .int .i64 0, .int .i64 0]) ?_ 4 _ rfl; (with_reducible repeat (first | refine blk_drewN ?_ _ | refine blk_drew ?_ | refine blk_alloc ?_ _)); refine blk_put (cs := #[.int .i64 (wrap64 ((wrap64 (a0_0 + (wrap64 (2 * (wrap64 (a0_2 + t403)))))) - (wrap64 (40 - (rd l1 0))))), .int .i64 (wrap64 ((wrap64 (a0_1 + (wrap64 (2 * (wrap64 (a0_3 + t406)))))) - (wrap64 (40 - (rd l1 1))))), .int .i64 (wrap64 (a0_2 + t403)), .int .i64 0, .int .i64 0, .int .i64 0, .int .i64 0, .int .i64 0, .int .i64 0]) ?_ 3 _ rfl; (with_reducible repeat (first | refine blk_drewN ?_ _ | refine blk_drew ?_ | refine blk_alloc ?_ _)); refine blk_put (cs := #[.int .i64 (wrap64 ((wrap64 (a0_0 + (wrap64 (2 * (wrap64 (a0_2 + t403)))))) - (wrap64 (40 - (rd l1 0))))), .int .i64 (wrap64 ((wrap64 (a0_1 + (wrap64 (2 * (wrap64 (a0_3 + t406)))))) - (wrap64 (40 - (rd l1 1))))), .int .i64 0, .int .i64 0, .int .i64 0, .int .i64 0, .int .i64 0, .int .i64 0, .int .i64 0]) ?_ 2 _ rfl; (with_reducible repeat (first | refine blk_drewN ?_ _ | refine blk_drew ?_ | refine blk_alloc ?_ _)); refine blk_put (cs := #[.int .i64 (wrap64 ((wrap64 (a0_0 + (wrap64 (2 * (wrap64 (a0_2 + t403)))))) - (wrap64 (40 - (rd l1 0))))), .int .i64 0, .int .i64 0, .int .i64 0, .int .i64 0, .int .i64 0, .int .i64 0, .int .i64 0, .int .i64 0]) ?_ 1 _ rfl; (with_reducible repeat (first | refine blk_drewN ?_ _ | refine blk_drew ?_ | refine blk_alloc ?_ _)); refine blk_put (cs := #[.int .i64 0, .int .i64 0, .int .i64 0, .int .i64 0, .int .i64 0, .int .i64 0, .int .i64 0, .int .i64 0, .int .i64 0]) ?_ 0 _ rfl; (with_reducible repeat (first | refine blk_drewN ?_ _ | refine blk_drew ?_ | refine blk_alloc ?_ _)); exact BK393.out) Try.underlying38 rfl (by kernel_rfl)) rfl ?_
                          exact ⟨by first | rfl | (simp [errW_none, errW_some] <;> rfl) | (simp [*, errW_none, errW_some] <;> rfl), by repeat (first | (with_reducible first | exact HB.out | apply below_alloc | apply pw_below_drewN | apply below_drew1 | refine below_set ?_ GE392.out | refine below_set ?_ GE393.out | refine below_set ?_ GE400.out) | exact HB.out)⟩
                  · rw [if_neg c43] at H
                    exact absurd H (by simp)
                · rw [if_neg c42] at H
                  exact absurd H (by simp)
              · rw [if_neg c40] at H
                exact absurd H (by simp)
            · rw [if_neg c39] at H
              exact absurd H (by simp)
          · rw [if_neg c36] at H
            exact absurd H (by simp)
        · rw [if_neg c35] at H
          exact absurd H (by simp)

/-! ### laws_eqPose: function 31 -/
def laws_eqPose.f (a0_0 : Int) (a0_1 : Int) (a0_2 : Int) (a0_3 : Int) (a1_0 : Int) (a1_1 : Int) (a1_2 : Int) (a1_3 : Int) : Option (Bool) := if a0_0 = a1_0 then (if a0_1 = a1_1 then (if a0_2 = a1_2 then (if a0_3 = a1_3 then (some true) else (some false)) else (some false)) else (some false)) else (some false)
set_option maxHeartbeats 8000000 in
set_option maxRecDepth 100000 in
theorem laws_eqPose.calls (a0_0 : Int) (a0_1 : Int) (a0_2 : Int) (a0_3 : Int) (a1_0 : Int) (a1_1 : Int) (a1_2 : Int) (a1_3 : Int) (r : Bool) (w : World) (h : laws_eqPose.f a0_0 a0_1 a0_2 a0_3 a1_0 a1_1 a1_2 a1_3 = some r) :
    Calls Try.prog 31 #[.agg #[.int .i64 a0_0, .int .i64 a0_1, .int .i64 a0_2, .int .i64 a0_3], .agg #[.int .i64 a1_0, .int .i64 a1_1, .int .i64 a1_2, .int .i64 a1_3]] w fun e w' => e = .returned (.bool r) ∧ Below w.heap.size w w' := by
  have hu25 := Try.underlying25
  have HB := Aside0.mk (Below.refl w.heap.size w)
  have H : (if a0_0 = a1_0 then (if a0_1 = a1_1 then (if a0_2 = a1_2 then (if a0_3 = a1_3 then (some true) else (some false)) else (some false)) else (some false)) else (some false)) = some r := h
  clear h
  by_cases c3 : a0_0 = a1_0
  · rw [if_pos c3] at H
    have c3b0 : (a0_0 == a1_0) = true := beq_iff_eq.mpr c3
    have c3b1 : (a0_0 != a1_0) = false := bne_eq_false_iff_eq.mpr c3
    clear c3
    by_cases c4 : a0_1 = a1_1
    · rw [if_pos c4] at H
      have c4b0 : (a0_1 == a1_1) = true := beq_iff_eq.mpr c4
      have c4b1 : (a0_1 != a1_1) = false := bne_eq_false_iff_eq.mpr c4
      clear c4
      by_cases c5 : a0_2 = a1_2
      · rw [if_pos c5] at H
        have c5b0 : (a0_2 == a1_2) = true := beq_iff_eq.mpr c5
        have c5b1 : (a0_2 != a1_2) = false := bne_eq_false_iff_eq.mpr c5
        clear c5
        by_cases c6 : a0_3 = a1_3
        · rw [if_pos c6] at H
          have c6b0 : (a0_3 == a1_3) = true := beq_iff_eq.mpr c6
          have c6b1 : (a0_3 != a1_3) = false := bne_eq_false_iff_eq.mpr c6
          clear c6
          obtain rfl := Option.some.inj H
          go_enter Try.func31, Try.ntmps31
          go_wp2_with (first | ((with_reducible refine gate_dst (N := 2) rfl ?_); refine box_event ?hg (N := 2) ?hd (cs := #[.int .i64 a0_0, .int .i64 a0_1, .int .i64 a0_2, .int .i64 a0_3]) (t := 25) ?hr ?_; (case hd => rfl); (case hg => rfl); (case hr => first | (go_simp; done) | (go_simp; rfl)); intro gb418 hg w7 hbox hb; have n0_ := Aside0.mk (below_step (by repeat (first | (with_reducible first | exact HB.out | apply below_alloc | apply pw_below_drewN | apply below_drew1) | exact HB.out)) hb); have n1_ := Aside0.mk (hbox); have n2_ := Aside0.mk ((by rw [hg]; exact (below_size (by repeat (first | (with_reducible first | exact HB.out | apply below_alloc | apply pw_below_drewN | apply below_drew1) | exact HB.out))) : w.heap.size ≤ gb418)); have n3_ := Aside0.mk ((by rw [hg]; exact (below_size (by repeat (first | (with_reducible first | exact HB.out | apply below_alloc | apply pw_below_drewN | apply below_drew1) | exact HB.out))) : w.heap.size ≤ gb418)); clear HB; have HB := n0_; have BK418 := n1_; have GW418 := n2_; have GE418 := n3_; clear n0_ n1_ n2_ n3_; clear hb hbox hg) | ((with_reducible refine gate_dst (N := 3) rfl ?_); refine box_event ?hg (N := 3) ?hd (cs := #[.int .i64 a1_0, .int .i64 a1_1, .int .i64 a1_2, .int .i64 a1_3]) (t := 25) ?hr ?_; (case hd => rfl); (case hg => rfl); (case hr => first | (go_simp; done) | (go_simp; rfl)); intro gb419 hg w8 hbox hb; have n0_ := Aside0.mk (blk_below (g := gb418) (o := .cells #[.int .i64 a0_0, .int .i64 a0_1, .int .i64 a0_2, .int .i64 a0_3] 25 (0, 0)) (by (with_reducible repeat (first | refine blk_drewN ?_ _ | refine blk_drew ?_ | refine blk_alloc ?_ _)); exact BK418.out) hb); have n1_ := Aside0.mk (below_step (by repeat (first | (with_reducible first | exact HB.out | apply below_alloc | apply pw_below_drewN | apply below_drew1 | refine below_set ?_ GE418.out) | exact HB.out)) hb); have n2_ := Aside0.mk (hbox); have n3_ := Aside0.mk ((by rw [hg]; exact (below_size (by repeat (first | (with_reducible first | exact HB.out | apply below_alloc | apply pw_below_drewN | apply below_drew1 | refine below_set ?_ GE418.out) | exact HB.out))) : w.heap.size ≤ gb419)); have n4_ := Aside0.mk ((by rw [hg]; exact (below_size (by repeat (first | (with_reducible first | exact HB.out | apply below_alloc | apply pw_below_drewN | apply below_drew1 | refine below_set ?_ GE418.out) | exact HB.out))) : w.heap.size ≤ gb419)); have n5_ := Aside0.mk ((by rw [hg]; exact Nat.ne_of_lt (blk_lt (g := gb418) (o := .cells #[.int .i64 a0_0, .int .i64 a0_1, .int .i64 a0_2, .int .i64 a0_3] 25 (0, 0)) (by (with_reducible repeat (first | refine blk_drewN ?_ _ | refine blk_drew ?_ | refine blk_alloc ?_ _)); exact BK418.out)) : gb418 ≠ gb419)); have n6_ := Aside0.mk ((by rw [hg]; exact Nat.ne_of_gt (blk_lt (g := gb418) (o := .cells #[.int .i64 a0_0, .int .i64 a0_1, .int .i64 a0_2, .int .i64 a0_3] 25 (0, 0)) (by (with_reducible repeat (first | refine blk_drewN ?_ _ | refine blk_drew ?_ | refine blk_alloc ?_ _)); exact BK418.out)) : gb419 ≠ gb418)); clear BK418; clear HB; have BK418 := n0_; have HB := n1_; have BK419 := n2_; have GW419 := n3_; have GE419 := n4_; have NB418_419 := n5_; have NB419_418 := n6_; clear n0_ n1_ n2_ n3_ n4_ n5_ n6_; clear hb hbox hg; have hnb9 := NB418_419.out; have hnc9 := NB419_418.out; have hcz10_0 : w8.cell? ⟨gb418, 0, none⟩ = some (.int .i64 a0_0) := (blk_cell BK418.out 0).trans rfl; have hcz10_1 : w8.cell? ⟨gb418, 1, none⟩ = some (.int .i64 a0_1) := (blk_cell BK418.out 1).trans rfl; have hcz10_2 : w8.cell? ⟨gb418, 2, none⟩ = some (.int .i64 a0_2) := (blk_cell BK418.out 2).trans rfl; have hcz10_3 : w8.cell? ⟨gb418, 3, none⟩ = some (.int .i64 a0_3) := (blk_cell BK418.out 3).trans rfl; have hfz10_0 := blk_frozen BK418.out 0; have hfz10_1 := blk_frozen BK418.out 1; have hfz10_2 := blk_frozen BK418.out 2; have hfz10_3 := blk_frozen BK418.out 3; have hcz11_0 : w8.cell? ⟨gb419, 0, none⟩ = some (.int .i64 a1_0) := (blk_cell BK419.out 0).trans rfl; have hcz11_1 : w8.cell? ⟨gb419, 1, none⟩ = some (.int .i64 a1_1) := (blk_cell BK419.out 1).trans rfl; have hcz11_2 : w8.cell? ⟨gb419, 2, none⟩ = some (.int .i64 a1_2) := (blk_cell BK419.out 2).trans rfl; have hcz11_3 : w8.cell? ⟨gb419, 3, none⟩ = some (.int .i64 a1_3) := (blk_cell BK419.out 3).trans rfl; have hfz11_0 := blk_frozen BK419.out 0; have hfz11_1 := blk_frozen BK419.out 1; have hfz11_2 := blk_frozen BK419.out 2; have hfz11_3 := blk_frozen BK419.out 3))
          go_ret
          exact ⟨by first | rfl | (simp [errW_none, errW_some] <;> rfl) | (simp [*, errW_none, errW_some] <;> rfl), by repeat (first | (with_reducible first | exact HB.out | apply below_alloc | apply pw_below_drewN | apply below_drew1 | refine below_set ?_ GE418.out | refine below_set ?_ GE419.out) | exact HB.out)⟩
        · rw [if_neg c6] at H
          have c6b0 : (a0_3 == a1_3) = false := beq_eq_false_iff_ne.mpr c6
          have c6b1 : (a0_3 != a1_3) = true := bne_iff_ne.mpr c6
          obtain rfl := Option.some.inj H
          go_enter Try.func31, Try.ntmps31
          go_wp2_with (first | ((with_reducible refine gate_dst (N := 2) rfl ?_); refine box_event ?hg (N := 2) ?hd (cs := #[.int .i64 a0_0, .int .i64 a0_1, .int .i64 a0_2, .int .i64 a0_3]) (t := 25) ?hr ?_; (case hd => rfl); (case hg => rfl); (case hr => first | (go_simp; done) | (go_simp; rfl)); intro gb418 hg w12 hbox hb; have n0_ := Aside0.mk (below_step (by repeat (first | (with_reducible first | exact HB.out | apply below_alloc | apply pw_below_drewN | apply below_drew1) | exact HB.out)) hb); have n1_ := Aside0.mk (hbox); have n2_ := Aside0.mk ((by rw [hg]; exact (below_size (by repeat (first | (with_reducible first | exact HB.out | apply below_alloc | apply pw_below_drewN | apply below_drew1) | exact HB.out))) : w.heap.size ≤ gb418)); have n3_ := Aside0.mk ((by rw [hg]; exact (below_size (by repeat (first | (with_reducible first | exact HB.out | apply below_alloc | apply pw_below_drewN | apply below_drew1) | exact HB.out))) : w.heap.size ≤ gb418)); clear HB; have HB := n0_; have BK418 := n1_; have GW418 := n2_; have GE418 := n3_; clear n0_ n1_ n2_ n3_; clear hb hbox hg) | ((with_reducible refine gate_dst (N := 3) rfl ?_); refine box_event ?hg (N := 3) ?hd (cs := #[.int .i64 a1_0, .int .i64 a1_1, .int .i64 a1_2, .int .i64 a1_3]) (t := 25) ?hr ?_; (case hd => rfl); (case hg => rfl); (case hr => first | (go_simp; done) | (go_simp; rfl)); intro gb419 hg w13 hbox hb; have n0_ := Aside0.mk (blk_below (g := gb418) (o := .cells #[.int .i64 a0_0, .int .i64 a0_1, .int .i64 a0_2, .int .i64 a0_3] 25 (0, 0)) (by (with_reducible repeat (first | refine blk_drewN ?_ _ | refine blk_drew ?_ | refine blk_alloc ?_ _)); exact BK418.out) hb); have n1_ := Aside0.mk (below_step (by repeat (first | (with_reducible first | exact HB.out | apply below_alloc | apply pw_below_drewN | apply below_drew1 | refine below_set ?_ GE418.out) | exact HB.out)) hb); have n2_ := Aside0.mk (hbox); have n3_ := Aside0.mk ((by rw [hg]; exact (below_size (by repeat (first | (with_reducible first | exact HB.out | apply below_alloc | apply pw_below_drewN | apply below_drew1 | refine below_set ?_ GE418.out) | exact HB.out))) : w.heap.size ≤ gb419)); have n4_ := Aside0.mk ((by rw [hg]; exact (below_size (by repeat (first | (with_reducible first | exact HB.out | apply below_alloc | apply pw_below_drewN | apply below_drew1 | refine below_set ?_ GE418.out) | exact HB.out))) : w.heap.size ≤ gb419)); have n5_ := Aside0.mk ((by rw [hg]; exact Nat.ne_of_lt (blk_lt (g := gb418) (o := .cells #[.int .i64 a0_0, .int .i64 a0_1, .int .i64 a0_2, .int .i64 a0_3] 25 (0, 0)) (by (with_reducible repeat (first | refine blk_drewN ?_ _ | refine blk_drew ?_ | refine blk_alloc ?_ _)); exact BK418.out)) : gb418 ≠ gb419)); have n6_ := Aside0.mk ((by rw [hg]; exact Nat.ne_of_gt (blk_lt (g := gb418) (o := .cells #[.int .i64 a0_0, .int .i64 a0_1, .int .i64 a0_2, .int .i64 a0_3] 25 (0, 0)) (by (with_reducible repeat (first | refine blk_drewN ?_ _ | refine blk_drew ?_ | refine blk_alloc ?_ _)); exact BK418.out)) : gb419 ≠ gb418)); clear BK418; clear HB; have BK418 := n0_; have HB := n1_; have BK419 := n2_; have GW419 := n3_; have GE419 := n4_; have NB418_419 := n5_; have NB419_418 := n6_; clear n0_ n1_ n2_ n3_ n4_ n5_ n6_; clear hb hbox hg; have hnb14 := NB418_419.out; have hnc14 := NB419_418.out; have hcz15_0 : w13.cell? ⟨gb418, 0, none⟩ = some (.int .i64 a0_0) := (blk_cell BK418.out 0).trans rfl; have hcz15_1 : w13.cell? ⟨gb418, 1, none⟩ = some (.int .i64 a0_1) := (blk_cell BK418.out 1).trans rfl; have hcz15_2 : w13.cell? ⟨gb418, 2, none⟩ = some (.int .i64 a0_2) := (blk_cell BK418.out 2).trans rfl; have hcz15_3 : w13.cell? ⟨gb418, 3, none⟩ = some (.int .i64 a0_3) := (blk_cell BK418.out 3).trans rfl; have hfz15_0 := blk_frozen BK418.out 0; have hfz15_1 := blk_frozen BK418.out 1; have hfz15_2 := blk_frozen BK418.out 2; have hfz15_3 := blk_frozen BK418.out 3; have hcz16_0 : w13.cell? ⟨gb419, 0, none⟩ = some (.int .i64 a1_0) := (blk_cell BK419.out 0).trans rfl; have hcz16_1 : w13.cell? ⟨gb419, 1, none⟩ = some (.int .i64 a1_1) := (blk_cell BK419.out 1).trans rfl; have hcz16_2 : w13.cell? ⟨gb419, 2, none⟩ = some (.int .i64 a1_2) := (blk_cell BK419.out 2).trans rfl; have hcz16_3 : w13.cell? ⟨gb419, 3, none⟩ = some (.int .i64 a1_3) := (blk_cell BK419.out 3).trans rfl; have hfz16_0 := blk_frozen BK419.out 0; have hfz16_1 := blk_frozen BK419.out 1; have hfz16_2 := blk_frozen BK419.out 2; have hfz16_3 := blk_frozen BK419.out 3))
          go_ret
          exact ⟨by first | rfl | (simp [errW_none, errW_some] <;> rfl) | (simp [*, errW_none, errW_some] <;> rfl), by repeat (first | (with_reducible first | exact HB.out | apply below_alloc | apply pw_below_drewN | apply below_drew1 | refine below_set ?_ GE418.out | refine below_set ?_ GE419.out) | exact HB.out)⟩
      · rw [if_neg c5] at H
        have c5b0 : (a0_2 == a1_2) = false := beq_eq_false_iff_ne.mpr c5
        have c5b1 : (a0_2 != a1_2) = true := bne_iff_ne.mpr c5
        obtain rfl := Option.some.inj H
        go_enter Try.func31, Try.ntmps31
        go_wp2_with (first | ((with_reducible refine gate_dst (N := 2) rfl ?_); refine box_event ?hg (N := 2) ?hd (cs := #[.int .i64 a0_0, .int .i64 a0_1, .int .i64 a0_2, .int .i64 a0_3]) (t := 25) ?hr ?_; (case hd => rfl); (case hg => rfl); (case hr => first | (go_simp; done) | (go_simp; rfl)); intro gb418 hg w17 hbox hb; have n0_ := Aside0.mk (below_step (by repeat (first | (with_reducible first | exact HB.out | apply below_alloc | apply pw_below_drewN | apply below_drew1) | exact HB.out)) hb); have n1_ := Aside0.mk (hbox); have n2_ := Aside0.mk ((by rw [hg]; exact (below_size (by repeat (first | (with_reducible first | exact HB.out | apply below_alloc | apply pw_below_drewN | apply below_drew1) | exact HB.out))) : w.heap.size ≤ gb418)); have n3_ := Aside0.mk ((by rw [hg]; exact (below_size (by repeat (first | (with_reducible first | exact HB.out | apply below_alloc | apply pw_below_drewN | apply below_drew1) | exact HB.out))) : w.heap.size ≤ gb418)); clear HB; have HB := n0_; have BK418 := n1_; have GW418 := n2_; have GE418 := n3_; clear n0_ n1_ n2_ n3_; clear hb hbox hg) | ((with_reducible refine gate_dst (N := 3) rfl ?_); refine box_event ?hg (N := 3) ?hd (cs := #[.int .i64 a1_0, .int .i64 a1_1, .int .i64 a1_2, .int .i64 a1_3]) (t := 25) ?hr ?_; (case hd => rfl); (case hg => rfl); (case hr => first | (go_simp; done) | (go_simp; rfl)); intro gb419 hg w18 hbox hb; have n0_ := Aside0.mk (blk_below (g := gb418) (o := .cells #[.int .i64 a0_0, .int .i64 a0_1, .int .i64 a0_2, .int .i64 a0_3] 25 (0, 0)) (by (with_reducible repeat (first | refine blk_drewN ?_ _ | refine blk_drew ?_ | refine blk_alloc ?_ _)); exact BK418.out) hb); have n1_ := Aside0.mk (below_step (by repeat (first | (with_reducible first | exact HB.out | apply below_alloc | apply pw_below_drewN | apply below_drew1 | refine below_set ?_ GE418.out) | exact HB.out)) hb); have n2_ := Aside0.mk (hbox); have n3_ := Aside0.mk ((by rw [hg]; exact (below_size (by repeat (first | (with_reducible first | exact HB.out | apply below_alloc | apply pw_below_drewN | apply below_drew1 | refine below_set ?_ GE418.out) | exact HB.out))) : w.heap.size ≤ gb419)); have n4_ := Aside0.mk ((by rw [hg]; exact (below_size (by repeat (first | (with_reducible first | exact HB.out | apply below_alloc | apply pw_below_drewN | apply below_drew1 | refine below_set ?_ GE418.out) | exact HB.out))) : w.heap.size ≤ gb419)); have n5_ := Aside0.mk ((by rw [hg]; exact Nat.ne_of_lt (blk_lt (g := gb418) (o := .cells #[.int .i64 a0_0, .int .i64 a0_1, .int .i64 a0_2, .int .i64 a0_3] 25 (0, 0)) (by (with_reducible repeat (first | refine blk_drewN ?_ _ | refine blk_drew ?_ | refine blk_alloc ?_ _)); exact BK418.out)) : gb418 ≠ gb419)); have n6_ := Aside0.mk ((by rw [hg]; exact Nat.ne_of_gt (blk_lt (g := gb418) (o := .cells #[.int .i64 a0_0, .int .i64 a0_1, .int .i64 a0_2, .int .i64 a0_3] 25 (0, 0)) (by (with_reducible repeat (first | refine blk_drewN ?_ _ | refine blk_drew ?_ | refine blk_alloc ?_ _)); exact BK418.out)) : gb419 ≠ gb418)); clear BK418; clear HB; have BK418 := n0_; have HB := n1_; have BK419 := n2_; have GW419 := n3_; have GE419 := n4_; have NB418_419 := n5_; have NB419_418 := n6_; clear n0_ n1_ n2_ n3_ n4_ n5_ n6_; clear hb hbox hg; have hnb19 := NB418_419.out; have hnc19 := NB419_418.out; have hcz20_0 : w18.cell? ⟨gb418, 0, none⟩ = some (.int .i64 a0_0) := (blk_cell BK418.out 0).trans rfl; have hcz20_1 : w18.cell? ⟨gb418, 1, none⟩ = some (.int .i64 a0_1) := (blk_cell BK418.out 1).trans rfl; have hcz20_2 : w18.cell? ⟨gb418, 2, none⟩ = some (.int .i64 a0_2) := (blk_cell BK418.out 2).trans rfl; have hcz20_3 : w18.cell? ⟨gb418, 3, none⟩ = some (.int .i64 a0_3) := (blk_cell BK418.out 3).trans rfl; have hfz20_0 := blk_frozen BK418.out 0; have hfz20_1 := blk_frozen BK418.out 1; have hfz20_2 := blk_frozen BK418.out 2; have hfz20_3 := blk_frozen BK418.out 3; have hcz21_0 : w18.cell? ⟨gb419, 0, none⟩ = some (.int .i64 a1_0) := (blk_cell BK419.out 0).trans rfl; have hcz21_1 : w18.cell? ⟨gb419, 1, none⟩ = some (.int .i64 a1_1) := (blk_cell BK419.out 1).trans rfl; have hcz21_2 : w18.cell? ⟨gb419, 2, none⟩ = some (.int .i64 a1_2) := (blk_cell BK419.out 2).trans rfl; have hcz21_3 : w18.cell? ⟨gb419, 3, none⟩ = some (.int .i64 a1_3) := (blk_cell BK419.out 3).trans rfl; have hfz21_0 := blk_frozen BK419.out 0; have hfz21_1 := blk_frozen BK419.out 1; have hfz21_2 := blk_frozen BK419.out 2; have hfz21_3 := blk_frozen BK419.out 3))
        go_ret
        exact ⟨by first | rfl | (simp [errW_none, errW_some] <;> rfl) | (simp [*, errW_none, errW_some] <;> rfl), by repeat (first | (with_reducible first | exact HB.out | apply below_alloc | apply pw_below_drewN | apply below_drew1 | refine below_set ?_ GE418.out | refine below_set ?_ GE419.out) | exact HB.out)⟩
    · rw [if_neg c4] at H
      have c4b0 : (a0_1 == a1_1) = false := beq_eq_false_iff_ne.mpr c4
      have c4b1 : (a0_1 != a1_1) = true := bne_iff_ne.mpr c4
      obtain rfl := Option.some.inj H
      go_enter Try.func31, Try.ntmps31
      go_wp2_with (first | ((with_reducible refine gate_dst (N := 2) rfl ?_); refine box_event ?hg (N := 2) ?hd (cs := #[.int .i64 a0_0, .int .i64 a0_1, .int .i64 a0_2, .int .i64 a0_3]) (t := 25) ?hr ?_; (case hd => rfl); (case hg => rfl); (case hr => first | (go_simp; done) | (go_simp; rfl)); intro gb418 hg w22 hbox hb; have n0_ := Aside0.mk (below_step (by repeat (first | (with_reducible first | exact HB.out | apply below_alloc | apply pw_below_drewN | apply below_drew1) | exact HB.out)) hb); have n1_ := Aside0.mk (hbox); have n2_ := Aside0.mk ((by rw [hg]; exact (below_size (by repeat (first | (with_reducible first | exact HB.out | apply below_alloc | apply pw_below_drewN | apply below_drew1) | exact HB.out))) : w.heap.size ≤ gb418)); have n3_ := Aside0.mk ((by rw [hg]; exact (below_size (by repeat (first | (with_reducible first | exact HB.out | apply below_alloc | apply pw_below_drewN | apply below_drew1) | exact HB.out))) : w.heap.size ≤ gb418)); clear HB; have HB := n0_; have BK418 := n1_; have GW418 := n2_; have GE418 := n3_; clear n0_ n1_ n2_ n3_; clear hb hbox hg) | ((with_reducible refine gate_dst (N := 3) rfl ?_); refine box_event ?hg (N := 3) ?hd (cs := #[.int .i64 a1_0, .int .i64 a1_1, .int .i64 a1_2, .int .i64 a1_3]) (t := 25) ?hr ?_; (case hd => rfl); (case hg => rfl); (case hr => first | (go_simp; done) | (go_simp; rfl)); intro gb419 hg w23 hbox hb; have n0_ := Aside0.mk (blk_below (g := gb418) (o := .cells #[.int .i64 a0_0, .int .i64 a0_1, .int .i64 a0_2, .int .i64 a0_3] 25 (0, 0)) (by (with_reducible repeat (first | refine blk_drewN ?_ _ | refine blk_drew ?_ | refine blk_alloc ?_ _)); exact BK418.out) hb); have n1_ := Aside0.mk (below_step (by repeat (first | (with_reducible first | exact HB.out | apply below_alloc | apply pw_below_drewN | apply below_drew1 | refine below_set ?_ GE418.out) | exact HB.out)) hb); have n2_ := Aside0.mk (hbox); have n3_ := Aside0.mk ((by rw [hg]; exact (below_size (by repeat (first | (with_reducible first | exact HB.out | apply below_alloc | apply pw_below_drewN | apply below_drew1 | refine below_set ?_ GE418.out) | exact HB.out))) : w.heap.size ≤ gb419)); have n4_ := Aside0.mk ((by rw [hg]; exact (below_size (by repeat (first | (with_reducible first | exact HB.out | apply below_alloc | apply pw_below_drewN | apply below_drew1 | refine below_set ?_ GE418.out) | exact HB.out))) : w.heap.size ≤ gb419)); have n5_ := Aside0.mk ((by rw [hg]; exact Nat.ne_of_lt (blk_lt (g := gb418) (o := .cells #[.int .i64 a0_0, .int .i64 a0_1, .int .i64 a0_2, .int .i64 a0_3] 25 (0, 0)) (by (with_reducible repeat (first | refine blk_drewN ?_ _ | refine blk_drew ?_ | refine blk_alloc ?_ _)); exact BK418.out)) : gb418 ≠ gb419)); have n6_ := Aside0.mk ((by rw [hg]; exact Nat.ne_of_gt (blk_lt (g := gb418) (o := .cells #[.int .i64 a0_0, .int .i64 a0_1, .int .i64 a0_2, .int .i64 a0_3] 25 (0, 0)) (by (with_reducible repeat (first | refine blk_drewN ?_ _ | refine blk_drew ?_ | refine blk_alloc ?_ _)); exact BK418.out)) : gb419 ≠ gb418)); clear BK418; clear HB; have BK418 := n0_; have HB := n1_; have BK419 := n2_; have GW419 := n3_; have GE419 := n4_; have NB418_419 := n5_; have NB419_418 := n6_; clear n0_ n1_ n2_ n3_ n4_ n5_ n6_; clear hb hbox hg; have hnb24 := NB418_419.out; have hnc24 := NB419_418.out; have hcz25_0 : w23.cell? ⟨gb418, 0, none⟩ = some (.int .i64 a0_0) := (blk_cell BK418.out 0).trans rfl; have hcz25_1 : w23.cell? ⟨gb418, 1, none⟩ = some (.int .i64 a0_1) := (blk_cell BK418.out 1).trans rfl; have hcz25_2 : w23.cell? ⟨gb418, 2, none⟩ = some (.int .i64 a0_2) := (blk_cell BK418.out 2).trans rfl; have hcz25_3 : w23.cell? ⟨gb418, 3, none⟩ = some (.int .i64 a0_3) := (blk_cell BK418.out 3).trans rfl; have hfz25_0 := blk_frozen BK418.out 0; have hfz25_1 := blk_frozen BK418.out 1; have hfz25_2 := blk_frozen BK418.out 2; have hfz25_3 := blk_frozen BK418.out 3; have hcz26_0 : w23.cell? ⟨gb419, 0, none⟩ = some (.int .i64 a1_0) := (blk_cell BK419.out 0).trans rfl; have hcz26_1 : w23.cell? ⟨gb419, 1, none⟩ = some (.int .i64 a1_1) := (blk_cell BK419.out 1).trans rfl; have hcz26_2 : w23.cell? ⟨gb419, 2, none⟩ = some (.int .i64 a1_2) := (blk_cell BK419.out 2).trans rfl; have hcz26_3 : w23.cell? ⟨gb419, 3, none⟩ = some (.int .i64 a1_3) := (blk_cell BK419.out 3).trans rfl; have hfz26_0 := blk_frozen BK419.out 0; have hfz26_1 := blk_frozen BK419.out 1; have hfz26_2 := blk_frozen BK419.out 2; have hfz26_3 := blk_frozen BK419.out 3))
      go_ret
      exact ⟨by first | rfl | (simp [errW_none, errW_some] <;> rfl) | (simp [*, errW_none, errW_some] <;> rfl), by repeat (first | (with_reducible first | exact HB.out | apply below_alloc | apply pw_below_drewN | apply below_drew1 | refine below_set ?_ GE418.out | refine below_set ?_ GE419.out) | exact HB.out)⟩
  · rw [if_neg c3] at H
    have c3b0 : (a0_0 == a1_0) = false := beq_eq_false_iff_ne.mpr c3
    have c3b1 : (a0_0 != a1_0) = true := bne_iff_ne.mpr c3
    obtain rfl := Option.some.inj H
    go_enter Try.func31, Try.ntmps31
    go_wp2_with (first | ((with_reducible refine gate_dst (N := 2) rfl ?_); refine box_event ?hg (N := 2) ?hd (cs := #[.int .i64 a0_0, .int .i64 a0_1, .int .i64 a0_2, .int .i64 a0_3]) (t := 25) ?hr ?_; (case hd => rfl); (case hg => rfl); (case hr => first | (go_simp; done) | (go_simp; rfl)); intro gb418 hg w27 hbox hb; have n0_ := Aside0.mk (below_step (by repeat (first | (with_reducible first | exact HB.out | apply below_alloc | apply pw_below_drewN | apply below_drew1) | exact HB.out)) hb); have n1_ := Aside0.mk (hbox); have n2_ := Aside0.mk ((by rw [hg]; exact (below_size (by repeat (first | (with_reducible first | exact HB.out | apply below_alloc | apply pw_below_drewN | apply below_drew1) | exact HB.out))) : w.heap.size ≤ gb418)); have n3_ := Aside0.mk ((by rw [hg]; exact (below_size (by repeat (first | (with_reducible first | exact HB.out | apply below_alloc | apply pw_below_drewN | apply below_drew1) | exact HB.out))) : w.heap.size ≤ gb418)); clear HB; have HB := n0_; have BK418 := n1_; have GW418 := n2_; have GE418 := n3_; clear n0_ n1_ n2_ n3_; clear hb hbox hg) | ((with_reducible refine gate_dst (N := 3) rfl ?_); refine box_event ?hg (N := 3) ?hd (cs := #[.int .i64 a1_0, .int .i64 a1_1, .int .i64 a1_2, .int .i64 a1_3]) (t := 25) ?hr ?_; (case hd => rfl); (case hg => rfl); (case hr => first | (go_simp; done) | (go_simp; rfl)); intro gb419 hg w28 hbox hb; have n0_ := Aside0.mk (blk_below (g := gb418) (o := .cells #[.int .i64 a0_0, .int .i64 a0_1, .int .i64 a0_2, .int .i64 a0_3] 25 (0, 0)) (by (with_reducible repeat (first | refine blk_drewN ?_ _ | refine blk_drew ?_ | refine blk_alloc ?_ _)); exact BK418.out) hb); have n1_ := Aside0.mk (below_step (by repeat (first | (with_reducible first | exact HB.out | apply below_alloc | apply pw_below_drewN | apply below_drew1 | refine below_set ?_ GE418.out) | exact HB.out)) hb); have n2_ := Aside0.mk (hbox); have n3_ := Aside0.mk ((by rw [hg]; exact (below_size (by repeat (first | (with_reducible first | exact HB.out | apply below_alloc | apply pw_below_drewN | apply below_drew1 | refine below_set ?_ GE418.out) | exact HB.out))) : w.heap.size ≤ gb419)); have n4_ := Aside0.mk ((by rw [hg]; exact (below_size (by repeat (first | (with_reducible first | exact HB.out | apply below_alloc | apply pw_below_drewN | apply below_drew1 | refine below_set ?_ GE418.out) | exact HB.out))) : w.heap.size ≤ gb419)); have n5_ := Aside0.mk ((by rw [hg]; exact Nat.ne_of_lt (blk_lt (g := gb418) (o := .cells #[.int .i64 a0_0, .int .i64 a0_1, .int .i64 a0_2, .int .i64 a0_3] 25 (0, 0)) (by (with_reducible repeat (first | refine blk_drewN ?_ _ | refine blk_drew ?_ | refine blk_alloc ?_ _)); exact BK418.out)) : gb418 ≠ gb419)); have n6_ := Aside0.mk ((by rw [hg]; exact Nat.ne_of_gt (blk_lt (g := gb418) (o := .cells #[.int .i64 a0_0, .int .i64 a0_1, .int .i64 a0_2, .int .i64 a0_3] 25 (0, 0)) (by (with_reducible repeat (first | refine blk_drewN ?_ _ | refine blk_drew ?_ | refine blk_alloc ?_ _)); exact BK418.out)) : gb419 ≠ gb418)); clear BK418; clear HB; have BK418 := n0_; have HB := n1_; have BK419 := n2_; have GW419 := n3_; have GE419 := n4_; have NB418_419 := n5_; have NB419_418 := n6_; clear n0_ n1_ n2_ n3_ n4_ n5_ n6_; clear hb hbox hg; have hnb29 := NB418_419.out; have hnc29 := NB419_418.out; have hcz30_0 : w28.cell? ⟨gb418, 0, none⟩ = some (.int .i64 a0_0) := (blk_cell BK418.out 0).trans rfl; have hcz30_1 : w28.cell? ⟨gb418, 1, none⟩ = some (.int .i64 a0_1) := (blk_cell BK418.out 1).trans rfl; have hcz30_2 : w28.cell? ⟨gb418, 2, none⟩ = some (.int .i64 a0_2) := (blk_cell BK418.out 2).trans rfl; have hcz30_3 : w28.cell? ⟨gb418, 3, none⟩ = some (.int .i64 a0_3) := (blk_cell BK418.out 3).trans rfl; have hfz30_0 := blk_frozen BK418.out 0; have hfz30_1 := blk_frozen BK418.out 1; have hfz30_2 := blk_frozen BK418.out 2; have hfz30_3 := blk_frozen BK418.out 3; have hcz31_0 : w28.cell? ⟨gb419, 0, none⟩ = some (.int .i64 a1_0) := (blk_cell BK419.out 0).trans rfl; have hcz31_1 : w28.cell? ⟨gb419, 1, none⟩ = some (.int .i64 a1_1) := (blk_cell BK419.out 1).trans rfl; have hcz31_2 : w28.cell? ⟨gb419, 2, none⟩ = some (.int .i64 a1_2) := (blk_cell BK419.out 2).trans rfl; have hcz31_3 : w28.cell? ⟨gb419, 3, none⟩ = some (.int .i64 a1_3) := (blk_cell BK419.out 3).trans rfl; have hfz31_0 := blk_frozen BK419.out 0; have hfz31_1 := blk_frozen BK419.out 1; have hfz31_2 := blk_frozen BK419.out 2; have hfz31_3 := blk_frozen BK419.out 3))
    go_ret
    exact ⟨by first | rfl | (simp [errW_none, errW_some] <;> rfl) | (simp [*, errW_none, errW_some] <;> rfl), by repeat (first | (with_reducible first | exact HB.out | apply below_alloc | apply pw_below_drewN | apply below_drew1 | refine below_set ?_ GE418.out | refine below_set ?_ GE419.out) | exact HB.out)⟩

end Go.Proofs.Ythjcoobgibdpcaa.Q
