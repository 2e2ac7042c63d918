-- Written by a program of this claim's session (gprint.py over the kit's print); not typed by hand; Lean checks it.
import Derived.Test.YthlbcjoogcanmaaQ0
import Derived.Test.YthlbcjoogcanmaaQ6
namespace Go.Proofs.Ythlbcjoogcanmaa.Q
open Go.RowKit Go.Proofs.YthlbcjoogcanmaaW.PrintWords Go.Proofs.YthlbcjoogcanmaaW.PrintLast Go.Proofs.YthlbcjoogcanmaaW.PrintMore
attribute [local go_sem] max2_int min2_int max_two min_two max_three min_three max_four min_four   -- for this text's walks alone
set_option linter.unusedVariables false
set_option linter.unusedSimpArgs false

/-! ### impl_Pose_mirrored: function 89 -/
def impl_Pose_mirrored.f (a0_0 : Int) (a0_1 : Int) (a0_2 : Int) (a0_3 : Int) : Option (Int × Int × Int × Int) := some (wrap64 (-a0_0), a0_1, wrap64 (-a0_2), a0_3)
set_option maxHeartbeats 8000000 in
set_option maxRecDepth 100000 in
theorem impl_Pose_mirrored.calls (a0_0 : Int) (a0_1 : Int) (a0_2 : Int) (a0_3 : Int) (r1 : Int) (r2 : Int) (r3 : Int) (r4 : Int) (w : World) (h : impl_Pose_mirrored.f a0_0 a0_1 a0_2 a0_3 = some (r1, r2, r3, r4)) :
    Calls Try.prog 89 #[.agg #[.int .i64 a0_0, .int .i64 a0_1, .int .i64 a0_2, .int .i64 a0_3]] w fun e w' => e = .returned (.agg #[.int .i64 r1, .int .i64 r2, .int .i64 r3, .int .i64 r4]) ∧ Below w.heap.size w w' := by
  have hu25 := Try.underlying25
  have HB := Aside0.mk (Below.refl w.heap.size w)
  have H : (some (wrap64 (-a0_0), a0_1, wrap64 (-a0_2), a0_3)) = some (r1, r2, r3, r4) := h
  clear h
  simp only [Option.some.injEq, Prod.mk.injEq] at H
  obtain ⟨rfl, rfl, rfl, rfl⟩ := H
  go_enter Try.func89, Try.ntmps89
  go_wp2_with (first | ((with_reducible refine gate_dst (N := 1) rfl ?_); refine box_event ?hg (N := 1) ?hd (cs := #[.int .i64 a0_0, .int .i64 a0_1, .int .i64 a0_2, .int .i64 a0_3]) (t := 25) ?hr ?_; (case hd => rfl); (case hg => rfl); (case hr => first | (go_simp; done) | (go_simp; rfl)); intro gb661 hg w2 hbox hb; have n0_ := Aside0.mk (below_step (by repeat (first | (with_reducible first | exact HB.out | apply below_alloc | apply pw_below_drewN | apply below_drew1) | exact HB.out)) hb); have n1_ := Aside0.mk (hbox); have n2_ := Aside0.mk ((by rw [hg]; exact (below_size (by repeat (first | (with_reducible first | exact HB.out | apply below_alloc | apply pw_below_drewN | apply below_drew1) | exact HB.out))) : w.heap.size ≤ gb661)); have n3_ := Aside0.mk ((by rw [hg]; exact (below_size (by repeat (first | (with_reducible first | exact HB.out | apply below_alloc | apply pw_below_drewN | apply below_drew1) | exact HB.out))) : w.heap.size ≤ gb661)); clear HB; have HB := n0_; have BK661 := n1_; have GW661 := n2_; have GE661 := n3_; clear n0_ n1_ n2_ n3_; clear hb hbox hg) | ((with_reducible refine gate_dst (N := 2) rfl ?_); refine box_event ?hg (N := 2) ?hd (cs := #[.int .i64 0, .int .i64 0, .int .i64 0, .int .i64 0]) (t := 25) ?hr ?_; (case hd => rfl); (case hg => rfl); (case hr => first | (go_simp; done) | (go_simp; rfl)); intro gb662 hg w3 hbox hb; have n0_ := Aside0.mk (blk_below (g := gb661) (o := .cells #[.int .i64 a0_0, .int .i64 a0_1, .int .i64 a0_2, .int .i64 a0_3] 25 (0, 0)) (by (with_reducible repeat (first | refine blk_drewN ?_ _ | refine blk_drew ?_ | refine blk_alloc ?_ _)); exact BK661.out) hb); have n1_ := Aside0.mk (below_step (by repeat (first | (with_reducible first | exact HB.out | apply below_alloc | apply pw_below_drewN | apply below_drew1 | refine below_set ?_ GE661.out) | exact HB.out)) hb); have n2_ := Aside0.mk (hbox); have n3_ := Aside0.mk ((by rw [hg]; exact (below_size (by repeat (first | (with_reducible first | exact HB.out | apply below_alloc | apply pw_below_drewN | apply below_drew1 | refine below_set ?_ GE661.out) | exact HB.out))) : w.heap.size ≤ gb662)); have n4_ := Aside0.mk ((by rw [hg]; exact (below_size (by repeat (first | (with_reducible first | exact HB.out | apply below_alloc | apply pw_below_drewN | apply below_drew1 | refine below_set ?_ GE661.out) | exact HB.out))) : w.heap.size ≤ gb662)); have n5_ := Aside0.mk ((by rw [hg]; exact Nat.ne_of_lt (blk_lt (g := gb661) (o := .cells #[.int .i64 a0_0, .int .i64 a0_1, .int .i64 a0_2, .int .i64 a0_3] 25 (0, 0)) (by (with_reducible repeat (first | refine blk_drewN ?_ _ | refine blk_drew ?_ | refine blk_alloc ?_ _)); exact BK661.out)) : gb661 ≠ gb662)); have n6_ := Aside0.mk ((by rw [hg]; exact Nat.ne_of_gt (blk_lt (g := gb661) (o := .cells #[.int .i64 a0_0, .int .i64 a0_1, .int .i64 a0_2, .int .i64 a0_3] 25 (0, 0)) (by (with_reducible repeat (first | refine blk_drewN ?_ _ | refine blk_drew ?_ | refine blk_alloc ?_ _)); exact BK661.out)) : gb662 ≠ gb661)); clear BK661; clear HB; have BK661 := n0_; have HB := n1_; have BK662 := n2_; have GW662 := n3_; have GE662 := n4_; have NB661_662 := n5_; have NB662_661 := n6_; clear n0_ n1_ n2_ n3_ n4_ n5_ n6_; clear hb hbox hg; have hnb4 := NB661_662.out; have hnc4 := NB662_661.out; have hcz5_0 : w3.cell? ⟨gb661, 0, none⟩ = some (.int .i64 a0_0) := (blk_cell BK661.out 0).trans rfl; have hcz5_1 : w3.cell? ⟨gb661, 1, none⟩ = some (.int .i64 a0_1) := (blk_cell BK661.out 1).trans rfl; have hcz5_2 : w3.cell? ⟨gb661, 2, none⟩ = some (.int .i64 a0_2) := (blk_cell BK661.out 2).trans rfl; have hcz5_3 : w3.cell? ⟨gb661, 3, none⟩ = some (.int .i64 a0_3) := (blk_cell BK661.out 3).trans rfl; have hfz5_0 := blk_frozen BK661.out 0; have hfz5_1 := blk_frozen BK661.out 1; have hfz5_2 := blk_frozen BK661.out 2; have hfz5_3 := blk_frozen BK661.out 3; have hcz6_0 : w3.cell? ⟨gb662, 0, none⟩ = some (.int .i64 0) := (blk_cell BK662.out 0).trans rfl; have hcz6_1 : w3.cell? ⟨gb662, 1, none⟩ = some (.int .i64 0) := (blk_cell BK662.out 1).trans rfl; have hcz6_2 : w3.cell? ⟨gb662, 2, none⟩ = some (.int .i64 0) := (blk_cell BK662.out 2).trans rfl; have hcz6_3 : w3.cell? ⟨gb662, 3, none⟩ = some (.int .i64 0) := (blk_cell BK662.out 3).trans rfl; have hfz6_0 := blk_frozen BK662.out 0; have hfz6_1 := blk_frozen BK662.out 1; have hfz6_2 := blk_frozen BK662.out 2; have hfz6_3 := blk_frozen BK662.out 3))
  refine bodyPost_ret (results_cell_row rfl _ _ gb662 25 #[.int .i64 (wrap64 (-a0_0)), .int .i64 a0_1, .int .i64 (wrap64 (-a0_2)), .int .i64 a0_3] (0, 0) _ rfl (by (with_reducible repeat (first | refine blk_drewN ?_ _ | refine blk_drew ?_ | refine blk_alloc ?_ _)); refine blk_put (cs := #[.int .i64 (wrap64 (-a0_0)), .int .i64 a0_1, .int .i64 (wrap64 (-a0_2)), .int .i64 0]) ?_ 3 _ rfl; (with_reducible repeat (first | refine blk_drewN ?_ _ | refine blk_drew ?_ | refine blk_alloc ?_ _)); refine blk_put (cs := #[.int .i64 (wrap64 (-a0_0)), .int .i64 a0_1, .int .i64 0, .int .i64 0]) ?_ 2 _ rfl; (with_reducible repeat (first | refine blk_drewN ?_ _ | refine blk_drew ?_ | refine blk_alloc ?_ _)); refine blk_put (cs := #[.int .i64 (wrap64 (-a0_0)), .int .i64 0, .int .i64 0, .int .i64 0]) ?_ 1 _ rfl; (with_reducible repeat (first | refine blk_drewN ?_ _ | refine blk_drew ?_ | refine blk_alloc ?_ _)); refine blk_put (cs := #[.int .i64 0, .int .i64 0, .int .i64 0, .int .i64 0]) ?_ 0 _ rfl; (with_reducible repeat (first | refine blk_drewN ?_ _ | refine blk_drew ?_ | refine blk_alloc ?_ _)); exact BK662.out) Try.underlying25 rfl (by kernel_rfl)) rfl ?_
  exact ⟨by first | rfl | (simp [errW_none, errW_some] <;> rfl) | (simp [*, errW_none, errW_some] <;> rfl), by repeat (first | (with_reducible first | exact HB.out | apply below_alloc | apply pw_below_drewN | apply below_drew1 | refine below_set ?_ GE661.out | refine below_set ?_ GE662.out) | exact HB.out)⟩

/-! ### impl_MirrorMachine: function 50 -/
def impl_MirrorMachine.f (a0_0 : Int) (a0_1 : Int) (a0_2 : Int) (a0_3 : Int) (a0_4 : Int) (a0_5 : Int) (a0_6 : Int) (a0_7 : Int) (a0_8 : Int) : Option (Int × Int × Int × Int × Int × Int × Int × Int × Int × Bool) := (impl_ValidMachine.f a0_0 a0_1 a0_2 a0_3 a0_4 a0_5 a0_6 a0_7 a0_8).bind fun t665 => (if t665 = true then ((impl_Pose_mirrored.f a0_0 a0_1 a0_2 a0_3).bind fun bt666 => ((impl_Pose_mirrored.f a0_4 a0_5 a0_6 a0_7).bind fun bt670 => (some (bt666.1, bt666.2.1, bt666.2.2.1, bt666.2.2.2, bt670.1, bt670.2.1, bt670.2.2.1, bt670.2.2.2, a0_8, true)))) else (some (0, 0, 0, 0, 0, 0, 0, 0, 0, false)))
def impl_MirrorMachine.T3 : Bool × List (List Nat × List Nat) := (true, [([], []), ([0], [0]), ([1], [1]), ([], []), ([3], [3]), ([4, 2], [4]), ([], []), ([6], [6]), ([2, 5, 7], [2, 5, 7]), ([8, 5, 0, 1, 2, 3, 4, 5, 6, 7, 8], [8]), ([9, 0, 1, 2, 3, 4, 5, 6, 7, 8, 9], [])])
def impl_MirrorMachine.B3 : List Nat := [0, 1, 3, 0, 8, 31, 0, 64, 255, 511, 1023]
theorem impl_MirrorMachine.tab3 : rtab .any (opsOf Try.f50 3) = impl_MirrorMachine.T3 := by kernel_rfl
theorem impl_MirrorMachine.bits3 : waitsOk impl_MirrorMachine.T3.2 impl_MirrorMachine.B3 = true := by kernel_rfl
set_option maxHeartbeats 8000000 in
set_option maxRecDepth 100000 in
theorem impl_MirrorMachine.calls (a0_0 : Int) (a0_1 : Int) (a0_2 : Int) (a0_3 : Int) (a0_4 : Int) (a0_5 : Int) (a0_6 : Int) (a0_7 : Int) (a0_8 : Int) (r1 : Int) (r2 : Int) (r3 : Int) (r4 : Int) (r5 : Int) (r6 : Int) (r7 : Int) (r8 : Int) (r9 : Int) (r10 : Bool) (w : World) (h : impl_MirrorMachine.f a0_0 a0_1 a0_2 a0_3 a0_4 a0_5 a0_6 a0_7 a0_8 = some (r1, r2, r3, r4, r5, r6, r7, r8, r9, r10)) :
    Calls Try.prog 50 #[.agg #[.int .i64 a0_0, .int .i64 a0_1, .int .i64 a0_2, .int .i64 a0_3, .int .i64 a0_4, .int .i64 a0_5, .int .i64 a0_6, .int .i64 a0_7, .int .i64 a0_8]] w fun e w' => e = .returned (.tuple #[.agg #[.int .i64 r1, .int .i64 r2, .int .i64 r3, .int .i64 r4, .int .i64 r5, .int .i64 r6, .int .i64 r7, .int .i64 r8, .int .i64 r9], .bool r10]) ∧ Below w.heap.size w w' := by
  have hu58 := Try.underlying58
  have hu25 := Try.underlying25
  have HB := Aside0.mk (Below.refl w.heap.size w)
  have H : ((impl_ValidMachine.f a0_0 a0_1 a0_2 a0_3 a0_4 a0_5 a0_6 a0_7 a0_8).bind fun t665 => (if t665 = true then ((impl_Pose_mirrored.f a0_0 a0_1 a0_2 a0_3).bind fun bt666 => ((impl_Pose_mirrored.f a0_4 a0_5 a0_6 a0_7).bind fun bt670 => (some (bt666.1, bt666.2.1, bt666.2.2.1, bt666.2.2.2, bt670.1, bt670.2.1, bt670.2.2.1, bt670.2.2.2, a0_8, true)))) else (some (0, 0, 0, 0, 0, 0, 0, 0, 0, false)))) = some (r1, r2, r3, r4, r5, r6, r7, r8, r9, r10) := h
  clear h
  replace H := Option.bind_eq_some_iff.mp H
  obtain ⟨t665, A20, H⟩ := H
  replace H : (if t665 = true then ((impl_Pose_mirrored.f a0_0 a0_1 a0_2 a0_3).bind fun bt666 => ((impl_Pose_mirrored.f a0_4 a0_5 a0_6 a0_7).bind fun bt670 => (some (bt666.1, bt666.2.1, bt666.2.2.1, bt666.2.2.2, bt670.1, bt670.2.1, bt670.2.2.1, bt670.2.2.2, a0_8, true)))) else (some (0, 0, 0, 0, 0, 0, 0, 0, 0, false))) = some (r1, r2, r3, r4, r5, r6, r7, r8, r9, r10) := H
  have A2 := Aside0.mk A20
  clear A20
  by_cases c3 : t665 = true
  · subst c3
    have H1 : ((impl_Pose_mirrored.f a0_0 a0_1 a0_2 a0_3).bind fun bt666 => ((impl_Pose_mirrored.f a0_4 a0_5 a0_6 a0_7).bind fun bt670 => (some (bt666.1, bt666.2.1, bt666.2.2.1, bt666.2.2.2, bt670.1, bt670.2.1, bt670.2.2.1, bt670.2.2.2, a0_8, true)))) = some (r1, r2, r3, r4, r5, r6, r7, r8, r9, r10) := by rw [if_pos rfl] at H; exact H
    clear H
    have H := H1
    clear H1
    replace H := Option.bind_eq_some_iff.mp H
    obtain ⟨⟨t666, t667, t668, t669⟩, A40, H⟩ := H
    replace H : ((impl_Pose_mirrored.f a0_4 a0_5 a0_6 a0_7).bind fun bt670 => (some (t666, t667, t668, t669, bt670.1, bt670.2.1, bt670.2.2.1, bt670.2.2.2, a0_8, true))) = some (r1, r2, r3, r4, r5, r6, r7, r8, r9, r10) := H
    have A4 := Aside0.mk A40
    clear A40
    replace H := Option.bind_eq_some_iff.mp H
    obtain ⟨⟨t670, t671, t672, t673⟩, A50, H⟩ := H
    replace H : (some (t666, t667, t668, t669, t670, t671, t672, t673, a0_8, true)) = some (r1, r2, r3, r4, r5, r6, r7, r8, r9, r10) := H
    have A5 := Aside0.mk A50
    clear A50
    simp only [Option.some.injEq, Prod.mk.injEq] at H
    obtain ⟨rfl, rfl, rfl, rfl, rfl, rfl, rfl, rfl, rfl, rfl⟩ := H
    go_enter Try.func50, Try.ntmps50
    try go_wp2_with (first | ((with_reducible refine gate_dst (N := 1) rfl ?_); refine box_event ?hg (N := 1) ?hd (cs := #[.int .i64 a0_0, .int .i64 a0_1, .int .i64 a0_2, .int .i64 a0_3, .int .i64 a0_4, .int .i64 a0_5, .int .i64 a0_6, .int .i64 a0_7, .int .i64 a0_8]) (t := 58) ?hr ?_; (case hd => rfl); (case hg => rfl); (case hr => first | (go_simp; done) | (go_simp; rfl)); intro gb663 hg w6 hbox hb; have n0_ := Aside0.mk (below_step (by repeat (first | (with_reducible first | exact HB.out | apply below_alloc | apply pw_below_drewN | apply below_drew1) | exact HB.out)) hb); have n1_ := Aside0.mk (hbox); have n2_ := Aside0.mk ((by rw [hg]; exact (below_size (by repeat (first | (with_reducible first | exact HB.out | apply below_alloc | apply pw_below_drewN | apply below_drew1) | exact HB.out))) : w.heap.size ≤ gb663)); have n3_ := Aside0.mk ((by rw [hg]; exact (below_size (by repeat (first | (with_reducible first | exact HB.out | apply below_alloc | apply pw_below_drewN | apply below_drew1) | exact HB.out))) : w.heap.size ≤ gb663)); clear HB; have HB := n0_; have BK663 := n1_; have GW663 := n2_; have GE663 := n3_; clear n0_ n1_ n2_ n3_; clear hb hbox hg) | ((with_reducible refine gate_dst (N := 2) rfl ?_); refine box_event ?hg (N := 2) ?hd (cs := #[.int .i64 0, .int .i64 0, .int .i64 0, .int .i64 0, .int .i64 0, .int .i64 0, .int .i64 0, .int .i64 0, .int .i64 0]) (t := 58) ?hr ?_; (case hd => rfl); (case hg => rfl); (case hr => first | (go_simp; done) | (go_simp; rfl)); intro gb664 hg w7 hbox hb; have n0_ := Aside0.mk (blk_below (g := gb663) (o := .cells #[.int .i64 a0_0, .int .i64 a0_1, .int .i64 a0_2, .int .i64 a0_3, .int .i64 a0_4, .int .i64 a0_5, .int .i64 a0_6, .int .i64 a0_7, .int .i64 a0_8] 58 (0, 0)) (by (with_reducible repeat (first | refine blk_drewN ?_ _ | refine blk_drew ?_ | refine blk_alloc ?_ _)); exact BK663.out) hb); have n1_ := Aside0.mk (below_step (by repeat (first | (with_reducible first | exact HB.out | apply below_alloc | apply pw_below_drewN | apply below_drew1 | refine below_set ?_ GE663.out) | exact HB.out)) hb); have n2_ := Aside0.mk (hbox); have n3_ := Aside0.mk ((by rw [hg]; exact (below_size (by repeat (first | (with_reducible first | exact HB.out | apply below_alloc | apply pw_below_drewN | apply below_drew1 | refine below_set ?_ GE663.out) | exact HB.out))) : w.heap.size ≤ gb664)); have n4_ := Aside0.mk ((by rw [hg]; exact (below_size (by repeat (first | (with_reducible first | exact HB.out | apply below_alloc | apply pw_below_drewN | apply below_drew1 | refine below_set ?_ GE663.out) | exact HB.out))) : w.heap.size ≤ gb664)); have n5_ := Aside0.mk ((by rw [hg]; exact Nat.ne_of_lt (blk_lt (g := gb663) (o := .cells #[.int .i64 a0_0, .int .i64 a0_1, .int .i64 a0_2, .int .i64 a0_3, .int .i64 a0_4, .int .i64 a0_5, .int .i64 a0_6, .int .i64 a0_7, .int .i64 a0_8] 58 (0, 0)) (by (with_reducible repeat (first | refine blk_drewN ?_ _ | refine blk_drew ?_ | refine blk_alloc ?_ _)); exact BK663.out)) : gb663 ≠ gb664)); have n6_ := Aside0.mk ((by rw [hg]; exact Nat.ne_of_gt (blk_lt (g := gb663) (o := .cells #[.int .i64 a0_0, .int .i64 a0_1, .int .i64 a0_2, .int .i64 a0_3, .int .i64 a0_4, .int .i64 a0_5, .int .i64 a0_6, .int .i64 a0_7, .int .i64 a0_8] 58 (0, 0)) (by (with_reducible repeat (first | refine blk_drewN ?_ _ | refine blk_drew ?_ | refine blk_alloc ?_ _)); exact BK663.out)) : gb664 ≠ gb663)); clear BK663; clear HB; have BK663 := n0_; have HB := n1_; have BK664 := n2_; have GW664 := n3_; have GE664 := n4_; have NB663_664 := n5_; have NB664_663 := n6_; clear n0_ n1_ n2_ n3_ n4_ n5_ n6_; clear hb hbox hg; have hnb8 := NB663_664.out; have hnc8 := NB664_663.out; have hcz9_0 : w7.cell? ⟨gb663, 0, none⟩ = some (.int .i64 a0_0) := (blk_cell BK663.out 0).trans rfl; have hcz9_1 : w7.cell? ⟨gb663, 1, none⟩ = some (.int .i64 a0_1) := (blk_cell BK663.out 1).trans rfl; have hcz9_2 : w7.cell? ⟨gb663, 2, none⟩ = some (.int .i64 a0_2) := (blk_cell BK663.out 2).trans rfl; have hcz9_3 : w7.cell? ⟨gb663, 3, none⟩ = some (.int .i64 a0_3) := (blk_cell BK663.out 3).trans rfl; have hcz9_4 : w7.cell? ⟨gb663, 4, none⟩ = some (.int .i64 a0_4) := (blk_cell BK663.out 4).trans rfl; have hcz9_5 : w7.cell? ⟨gb663, 5, none⟩ = some (.int .i64 a0_5) := (blk_cell BK663.out 5).trans rfl; have hcz9_6 : w7.cell? ⟨gb663, 6, none⟩ = some (.int .i64 a0_6) := (blk_cell BK663.out 6).trans rfl; have hcz9_7 : w7.cell? ⟨gb663, 7, none⟩ = some (.int .i64 a0_7) := (blk_cell BK663.out 7).trans rfl; have hcz9_8 : w7.cell? ⟨gb663, 8, none⟩ = some (.int .i64 a0_8) := (blk_cell BK663.out 8).trans rfl; have hfz9_0 := blk_frozen BK663.out 0; have hfz9_1 := blk_frozen BK663.out 1; have hfz9_2 := blk_frozen BK663.out 2; have hfz9_3 := blk_frozen BK663.out 3; have hfz9_4 := blk_frozen BK663.out 4; have hfz9_5 := blk_frozen BK663.out 5; have hfz9_6 := blk_frozen BK663.out 6; have hfz9_7 := blk_frozen BK663.out 7; have hfz9_8 := blk_frozen BK663.out 8) | ((with_reducible refine gate_callee (f := 39) rfl ?_); refine goesL_ (some 5) rfl rfl Try.func39 (by kernel_rfl) rfl #[.agg #[.int .i64 a0_0, .int .i64 a0_1, .int .i64 a0_2, .int .i64 a0_3, .int .i64 a0_4, .int .i64 a0_5, .int .i64 a0_6, .int .i64 a0_7, .int .i64 a0_8]] rfl (by (try simp only [List.map_toArray, List.map_cons, List.map_nil]); first | done | rfl | (simp only [List.length_drop, List.length_take]; rfl)) ?_; (with_reducible refine (impl_ValidMachine.calls a0_0 a0_1 a0_2 a0_3 a0_4 a0_5 a0_6 a0_7 a0_8 true _ A2.out).mono ?_); rintro e w10 ⟨rfl, hb⟩; refine ⟨_, rfl, ?_⟩; have n0_ := Aside0.mk (blk_below (g := gb663) (o := .cells #[.int .i64 a0_0, .int .i64 a0_1, .int .i64 a0_2, .int .i64 a0_3, .int .i64 a0_4, .int .i64 a0_5, .int .i64 a0_6, .int .i64 a0_7, .int .i64 a0_8] 58 (0, 0)) (by (with_reducible repeat (first | refine blk_drewN ?_ _ | refine blk_drew ?_ | refine blk_alloc ?_ _)); exact BK663.out) hb); have n1_ := Aside0.mk (blk_below (g := gb664) (o := .cells #[.int .i64 0, .int .i64 0, .int .i64 0, .int .i64 0, .int .i64 0, .int .i64 0, .int .i64 0, .int .i64 0, .int .i64 0] 58 (0, 0)) (by (with_reducible repeat (first | refine blk_drewN ?_ _ | refine blk_drew ?_ | refine blk_alloc ?_ _)); exact BK664.out) hb); have n2_ := Aside0.mk (below_step (by repeat (first | (with_reducible first | exact HB.out | apply below_alloc | apply pw_below_drewN | apply below_drew1 | refine below_set ?_ GE663.out | refine below_set ?_ GE664.out) | exact HB.out)) hb); clear BK663; clear BK664; clear HB; have BK663 := n0_; have BK664 := n1_; have HB := n2_; clear n0_ n1_ n2_; (try clear hb); (try clear hb2); (try clear hk); (try clear hi)))
    have n0_ := Aside0.mk (blk_drew BK663.out)
    have n1_ := Aside0.mk (blk_drew BK664.out)
    have n2_ := Aside0.mk (below_drew1 HB.out)
    clear BK663
    clear BK664
    clear HB
    have BK663 := n0_
    have BK664 := n1_
    have HB := n2_
    clear n0_ n1_ n2_
    refine start_ (n := 11) (S := fun w' => w'.cell? ⟨gb663, 0, none⟩ = some (.int .i64 a0_0) ∧ w'.cell? ⟨gb663, 1, none⟩ = some (.int .i64 a0_1) ∧ w'.cell? ⟨gb663, 2, none⟩ = some (.int .i64 a0_2) ∧ w'.cell? ⟨gb663, 3, none⟩ = some (.int .i64 a0_3) ∧ w'.cell? ⟨gb663, 4, none⟩ = some (.int .i64 a0_4) ∧ w'.cell? ⟨gb663, 5, none⟩ = some (.int .i64 a0_5) ∧ w'.cell? ⟨gb663, 6, none⟩ = some (.int .i64 a0_6) ∧ w'.cell? ⟨gb663, 7, none⟩ = some (.int .i64 a0_7) ∧ w'.cell? ⟨gb663, 8, none⟩ = some (.int .i64 a0_8)) (ds := []) #[false, false, false, false, false, false, false, false, false, false, false] (by kernel_rfl) rfl rfl ⟨(blk_cell BK663.out 0).trans rfl, (blk_cell BK663.out 1).trans rfl, (blk_cell BK663.out 2).trans rfl, (blk_cell BK663.out 3).trans rfl, (blk_cell BK663.out 4).trans rfl, (blk_cell BK663.out 5).trans rfl, (blk_cell BK663.out 6).trans rfl, (blk_cell BK663.out 7).trans rfl, (blk_cell BK663.out 8).trans rfl⟩ (fun hHeld => ?_); refine with_tabW impl_MirrorMachine.tab3 impl_MirrorMachine.bits3 (fun HT_ HW_ => ?_)
    generalize w10.drew = w11 at BK663 BK664 HB hHeld ⊢
    refine pure_ (i := 0) (N := some 8) (v := ?_) (a' := ?_) #[true, false, false, false, false, false, false, false, false, false, false] rfl rfl (any_of HT_.out (by kernel_rfl)) (fun _ _ _ h => h) (Or.inl ⟨by rfl, ?_⟩) ?_ ?_
    rotate_left
    · intro w'
      go_simp
      with_reducible rfl
    rotate_left
    · simp only [Act.put, List.setIfInBounds_toArray, List.set_cons_zero, List.set_cons_succ, i64_w, i32_w]
      rfl
    refine pure_ (i := 3) (N := some 11) (v := ?_) (a' := ?_) #[true, false, false, true, false, false, false, false, false, false, false] rfl rfl (any_of HT_.out (by kernel_rfl)) (fun _ _ _ h => h) (Or.inl ⟨by rfl, ?_⟩) ?_ ?_
    rotate_left
    · intro w'
      go_simp
      with_reducible rfl
    rotate_left
    · simp only [Act.put, List.setIfInBounds_toArray, List.set_cons_zero, List.set_cons_succ, i64_w, i32_w]
      rfl
    refine pure_ (i := 6) (N := some 14) (v := ?_) (a' := ?_) #[true, false, false, true, false, false, true, false, false, false, false] rfl rfl (any_of HT_.out (by kernel_rfl)) (fun _ _ _ h => h) (Or.inl ⟨by rfl, ?_⟩) ?_ ?_
    rotate_left
    · intro w'
      go_simp
      with_reducible rfl
    rotate_left
    · simp only [Act.put, List.setIfInBounds_toArray, List.set_cons_zero, List.set_cons_succ, i64_w, i32_w]
      rfl
    refine take_ (i := 1) (N := some 9) (v := ?_) (a' := ?_) #[true, true, false, true, false, false, true, false, false, false, false] rfl rfl (take_ofW HT_.out HW_.out (by kernel_rfl)) (fun _ _ _ h => h) (Or.inl ⟨by rfl, ?_⟩) hHeld ?_ ?_
    rotate_left
    · rintro w' ⟨s0, s1, s2, s3, s4, s5, s6, s7, s8⟩
      go_simp
      with_reducible rfl
    rotate_left
    · simp only [Act.put, List.setIfInBounds_toArray, List.set_cons_zero, List.set_cons_succ, i64_w, i32_w]
      rfl
    refine take_ (i := 4) (N := some 12) (v := ?_) (a' := ?_) #[true, true, false, true, true, false, true, false, false, false, false] rfl rfl (take_ofW HT_.out HW_.out (by kernel_rfl)) (fun _ _ _ h => h) (Or.inl ⟨by rfl, ?_⟩) hHeld ?_ ?_
    rotate_left
    · rintro w' ⟨s0, s1, s2, s3, s4, s5, s6, s7, s8⟩
      go_simp
      with_reducible rfl
    rotate_left
    · simp only [Act.put, List.setIfInBounds_toArray, List.set_cons_zero, List.set_cons_succ, i64_w, i32_w]
      rfl
    refine take_ (i := 7) (N := some 15) (v := ?_) (a' := ?_) #[true, true, false, true, true, false, true, true, false, false, false] rfl rfl (take_ofW HT_.out HW_.out (by kernel_rfl)) (fun _ _ _ h => h) (Or.inl ⟨by rfl, ?_⟩) hHeld ?_ ?_
    rotate_left
    · rintro w' ⟨s0, s1, s2, s3, s4, s5, s6, s7, s8⟩
      go_simp
      with_reducible rfl
    rotate_left
    · simp only [Act.put, List.setIfInBounds_toArray, List.set_cons_zero, List.set_cons_succ, i64_w, i32_w]
      rfl
    refine one_ (i := 2) (N := some 10) #[true, true, true, true, true, false, true, true, false, false, false] rfl rfl (one_of HT_.out (by kernel_rfl)) (by decide) (fun K hK => ?_)
    refine goes_ Try.func89 (by kernel_rfl) rfl #[.agg #[.int .i64 a0_0, .int .i64 a0_1, .int .i64 a0_2, .int .i64 a0_3]] (by rfl) rfl rfl (by (try simp only [List.map_toArray, List.map_cons, List.map_nil]); first | done | rfl | (simp only [List.length_drop, List.length_take]; rfl)) ?_
    with_reducible refine (impl_Pose_mirrored.calls a0_0 a0_1 a0_2 a0_3 t666 t667 t668 t669 _ A4.out).mono ?_
    rintro e w12 ⟨rfl, hb⟩
    refine ⟨_, rfl, ?_⟩
    have n0_ := Aside0.mk (blk_below (g := gb663) (o := .cells #[.int .i64 a0_0, .int .i64 a0_1, .int .i64 a0_2, .int .i64 a0_3, .int .i64 a0_4, .int .i64 a0_5, .int .i64 a0_6, .int .i64 a0_7, .int .i64 a0_8] 58 (0, 0)) (by (with_reducible repeat (first | refine blk_drewN ?_ _ | refine blk_drew ?_ | refine blk_alloc ?_ _)); exact BK663.out) hb)
    have n1_ := Aside0.mk (blk_below (g := gb664) (o := .cells #[.int .i64 0, .int .i64 0, .int .i64 0, .int .i64 0, .int .i64 0, .int .i64 0, .int .i64 0, .int .i64 0, .int .i64 0] 58 (0, 0)) (by (with_reducible repeat (first | refine blk_drewN ?_ _ | refine blk_drew ?_ | refine blk_alloc ?_ _)); exact BK664.out) hb)
    have n2_ := Aside0.mk (below_step (by repeat (first | (with_reducible first | exact HB.out | apply below_alloc | apply pw_below_drewN | apply below_drew1 | refine below_set ?_ GE663.out | refine below_set ?_ GE664.out) | exact HB.out)) hb)
    clear BK663
    clear BK664
    clear HB
    have BK663 := n0_
    have BK664 := n1_
    have HB := n2_
    clear n0_ n1_ n2_
    (try clear hb)
    (try clear hb2)
    (try clear hk)
    (try clear hi)
    refine hK.out _ _ ⟨(blk_cell BK663.out 0).trans rfl, (blk_cell BK663.out 1).trans rfl, (blk_cell BK663.out 2).trans rfl, (blk_cell BK663.out 3).trans rfl, (blk_cell BK663.out 4).trans rfl, (blk_cell BK663.out 5).trans rfl, (blk_cell BK663.out 6).trans rfl, (blk_cell BK663.out 7).trans rfl, (blk_cell BK663.out 8).trans rfl⟩ (fun hHeld => ?_)
    clear hK K
    refine norm_ (a' := ?_) ?_ ?_
    rotate_left
    · show Act.put _ (some 10) _ = _
      simp only [Act.put, List.setIfInBounds_toArray, List.set_cons_zero, List.set_cons_succ, i64_w, i32_w]
      rfl
    refine one_ (i := 5) (N := some 13) #[true, true, true, true, true, true, true, true, false, false, false] rfl rfl (one_of HT_.out (by kernel_rfl)) (by decide) (fun K hK => ?_)
    refine goes_ Try.func89 (by kernel_rfl) rfl #[.agg #[.int .i64 a0_4, .int .i64 a0_5, .int .i64 a0_6, .int .i64 a0_7]] (by rfl) rfl rfl (by (try simp only [List.map_toArray, List.map_cons, List.map_nil]); first | done | rfl | (simp only [List.length_drop, List.length_take]; rfl)) ?_
    with_reducible refine (impl_Pose_mirrored.calls a0_4 a0_5 a0_6 a0_7 t670 t671 t672 t673 _ A5.out).mono ?_
    rintro e w13 ⟨rfl, hb⟩
    refine ⟨_, rfl, ?_⟩
    have n0_ := Aside0.mk (blk_below (g := gb663) (o := .cells #[.int .i64 a0_0, .int .i64 a0_1, .int .i64 a0_2, .int .i64 a0_3, .int .i64 a0_4, .int .i64 a0_5, .int .i64 a0_6, .int .i64 a0_7, .int .i64 a0_8] 58 (0, 0)) (by (with_reducible repeat (first | refine blk_drewN ?_ _ | refine blk_drew ?_ | refine blk_alloc ?_ _)); exact BK663.out) hb)
    have n1_ := Aside0.mk (blk_below (g := gb664) (o := .cells #[.int .i64 0, .int .i64 0, .int .i64 0, .int .i64 0, .int .i64 0, .int .i64 0, .int .i64 0, .int .i64 0, .int .i64 0] 58 (0, 0)) (by (with_reducible repeat (first | refine blk_drewN ?_ _ | refine blk_drew ?_ | refine blk_alloc ?_ _)); exact BK664.out) hb)
    have n2_ := Aside0.mk (below_step (by repeat (first | (with_reducible first | exact HB.out | apply below_alloc | apply pw_below_drewN | apply below_drew1 | refine below_set ?_ GE663.out | refine below_set ?_ GE664.out) | exact HB.out)) hb)
    clear BK663
    clear BK664
    clear HB
    have BK663 := n0_
    have BK664 := n1_
    have HB := n2_
    clear n0_ n1_ n2_
    (try clear hb)
    (try clear hb2)
    (try clear hk)
    (try clear hi)
    refine hK.out _ _ ⟨(blk_cell BK663.out 0).trans rfl, (blk_cell BK663.out 1).trans rfl, (blk_cell BK663.out 2).trans rfl, (blk_cell BK663.out 3).trans rfl, (blk_cell BK663.out 4).trans rfl, (blk_cell BK663.out 5).trans rfl, (blk_cell BK663.out 6).trans rfl, (blk_cell BK663.out 7).trans rfl, (blk_cell BK663.out 8).trans rfl⟩ (fun hHeld => ?_)
    clear hK K
    refine norm_ (a' := ?_) ?_ ?_
    rotate_left
    · show Act.put _ (some 13) _ = _
      simp only [Act.put, List.setIfInBounds_toArray, List.set_cons_zero, List.set_cons_succ, i64_w, i32_w]
      rfl
    refine pure_ (i := 8) (N := some 16) (v := ?_) (a' := ?_) #[true, true, true, true, true, true, true, true, true, false, false] rfl rfl (any_of HT_.out (by kernel_rfl)) (fun _ _ _ h => h) (Or.inl ⟨by rfl, ?_⟩) ?_ ?_
    rotate_left
    · intro w'
      go_simp
      with_reducible rfl
    rotate_left
    · simp only [Act.put, List.setIfInBounds_toArray, List.set_cons_zero, List.set_cons_succ, i64_w, i32_w]
      rfl
    refine one_ (i := 9) (N := none) #[true, true, true, true, true, true, true, true, true, true, false] rfl rfl (one_of HT_.out (by kernel_rfl)) (by decide) (fun K hK => ?_)
    have hs14 : w13.cell? ⟨gb664, 0, none⟩ = some (.int .i64 0) := (blk_cell BK664.out 0).trans rfl
    have hfs14 := blk_frozen BK664.out 0
    have hns14_0 := NB663_664.out
    have hms14_0 := NB664_663.out
    have hs15 : w13.cell? ⟨gb664, 1, none⟩ = some (.int .i64 0) := (blk_cell BK664.out 1).trans rfl
    have hfs15 := blk_frozen BK664.out 1
    have hns15_0 := NB663_664.out
    have hms15_0 := NB664_663.out
    have hs16 : w13.cell? ⟨gb664, 2, none⟩ = some (.int .i64 0) := (blk_cell BK664.out 2).trans rfl
    have hfs16 := blk_frozen BK664.out 2
    have hns16_0 := NB663_664.out
    have hms16_0 := NB664_663.out
    have hs17 : w13.cell? ⟨gb664, 3, none⟩ = some (.int .i64 0) := (blk_cell BK664.out 3).trans rfl
    have hfs17 := blk_frozen BK664.out 3
    have hns17_0 := NB663_664.out
    have hms17_0 := NB664_663.out
    have hs18 : w13.cell? ⟨gb664, 4, none⟩ = some (.int .i64 0) := (blk_cell BK664.out 4).trans rfl
    have hfs18 := blk_frozen BK664.out 4
    have hns18_0 := NB663_664.out
    have hms18_0 := NB664_663.out
    have hs19 : w13.cell? ⟨gb664, 5, none⟩ = some (.int .i64 0) := (blk_cell BK664.out 5).trans rfl
    have hfs19 := blk_frozen BK664.out 5
    have hns19_0 := NB663_664.out
    have hms19_0 := NB664_663.out
    have hs20 : w13.cell? ⟨gb664, 6, none⟩ = some (.int .i64 0) := (blk_cell BK664.out 6).trans rfl
    have hfs20 := blk_frozen BK664.out 6
    have hns20_0 := NB663_664.out
    have hms20_0 := NB664_663.out
    have hs21 : w13.cell? ⟨gb664, 7, none⟩ = some (.int .i64 0) := (blk_cell BK664.out 7).trans rfl
    have hfs21 := blk_frozen BK664.out 7
    have hns21_0 := NB663_664.out
    have hms21_0 := NB664_663.out
    have hs22 : w13.cell? ⟨gb664, 8, none⟩ = some (.int .i64 0) := (blk_cell BK664.out 8).trans rfl
    have hfs22 := blk_frozen BK664.out 8
    have hns22_0 := NB663_664.out
    have hms22_0 := NB664_663.out
    refine skip_ (w1 := ?_) (by rfl) rfl ?_ ?_
    rotate_left
    · go_simp
      rfl
    refine hK.out _ _ ⟨((cell_far (p := ⟨gb664, _, none⟩) NB663_664.out _).trans (((cell_far (p := ⟨gb664, _, none⟩) NB663_664.out _).trans (((cell_far (p := ⟨gb664, _, none⟩) NB663_664.out _).trans (((cell_far (p := ⟨gb664, _, none⟩) NB663_664.out _).trans (((cell_far (p := ⟨gb664, _, none⟩) NB663_664.out _).trans (((cell_far (p := ⟨gb664, _, none⟩) NB663_664.out _).trans (((cell_far (p := ⟨gb664, _, none⟩) NB663_664.out _).trans (((cell_far (p := ⟨gb664, _, none⟩) NB663_664.out _).trans (((cell_far (p := ⟨gb664, _, none⟩) NB663_664.out _).trans (hHeld.1)))))))))))))))))), ((cell_far (p := ⟨gb664, _, none⟩) NB663_664.out _).trans (((cell_far (p := ⟨gb664, _, none⟩) NB663_664.out _).trans (((cell_far (p := ⟨gb664, _, none⟩) NB663_664.out _).trans (((cell_far (p := ⟨gb664, _, none⟩) NB663_664.out _).trans (((cell_far (p := ⟨gb664, _, none⟩) NB663_664.out _).trans (((cell_far (p := ⟨gb664, _, none⟩) NB663_664.out _).trans (((cell_far (p := ⟨gb664, _, none⟩) NB663_664.out _).trans (((cell_far (p := ⟨gb664, _, none⟩) NB663_664.out _).trans (((cell_far (p := ⟨gb664, _, none⟩) NB663_664.out _).trans (hHeld.2.1)))))))))))))))))), ((cell_far (p := ⟨gb664, _, none⟩) NB663_664.out _).trans (((cell_far (p := ⟨gb664, _, none⟩) NB663_664.out _).trans (((cell_far (p := ⟨gb664, _, none⟩) NB663_664.out _).trans (((cell_far (p := ⟨gb664, _, none⟩) NB663_664.out _).trans (((cell_far (p := ⟨gb664, _, none⟩) NB663_664.out _).trans (((cell_far (p := ⟨gb664, _, none⟩) NB663_664.out _).trans (((cell_far (p := ⟨gb664, _, none⟩) NB663_664.out _).trans (((cell_far (p := ⟨gb664, _, none⟩) NB663_664.out _).trans (((cell_far (p := ⟨gb664, _, none⟩) NB663_664.out _).trans (hHeld.2.2.1)))))))))))))))))), ((cell_far (p := ⟨gb664, _, none⟩) NB663_664.out _).trans (((cell_far (p := ⟨gb664, _, none⟩) NB663_664.out _).trans (((cell_far (p := ⟨gb664, _, none⟩) NB663_664.out _).trans (((cell_far (p := ⟨gb664, _, none⟩) NB663_664.out _).trans (((cell_far (p := ⟨gb664, _, none⟩) NB663_664.out _).trans (((cell_far (p := ⟨gb664, _, none⟩) NB663_664.out _).trans (((cell_far (p := ⟨gb664, _, none⟩) NB663_664.out _).trans (((cell_far (p := ⟨gb664, _, none⟩) NB663_664.out _).trans (((cell_far (p := ⟨gb664, _, none⟩) NB663_664.out _).trans (hHeld.2.2.2.1)))))))))))))))))), ((cell_far (p := ⟨gb664, _, none⟩) NB663_664.out _).trans (((cell_far (p := ⟨gb664, _, none⟩) NB663_664.out _).trans (((cell_far (p := ⟨gb664, _, none⟩) NB663_664.out _).trans (((cell_far (p := ⟨gb664, _, none⟩) NB663_664.out _).trans (((cell_far (p := ⟨gb664, _, none⟩) NB663_664.out _).trans (((cell_far (p := ⟨gb664, _, none⟩) NB663_664.out _).trans (((cell_far (p := ⟨gb664, _, none⟩) NB663_664.out _).trans (((cell_far (p := ⟨gb664, _, none⟩) NB663_664.out _).trans (((cell_far (p := ⟨gb664, _, none⟩) NB663_664.out _).trans (hHeld.2.2.2.2.1)))))))))))))))))), ((cell_far (p := ⟨gb664, _, none⟩) NB663_664.out _).trans (((cell_far (p := ⟨gb664, _, none⟩) NB663_664.out _).trans (((cell_far (p := ⟨gb664, _, none⟩) NB663_664.out _).trans (((cell_far (p := ⟨gb664, _, none⟩) NB663_664.out _).trans (((cell_far (p := ⟨gb664, _, none⟩) NB663_664.out _).trans (((cell_far (p := ⟨gb664, _, none⟩) NB663_664.out _).trans (((cell_far (p := ⟨gb664, _, none⟩) NB663_664.out _).trans (((cell_far (p := ⟨gb664, _, none⟩) NB663_664.out _).trans (((cell_far (p := ⟨gb664, _, none⟩) NB663_664.out _).trans (hHeld.2.2.2.2.2.1)))))))))))))))))), ((cell_far (p := ⟨gb664, _, none⟩) NB663_664.out _).trans (((cell_far (p := ⟨gb664, _, none⟩) NB663_664.out _).trans (((cell_far (p := ⟨gb664, _, none⟩) NB663_664.out _).trans (((cell_far (p := ⟨gb664, _, none⟩) NB663_664.out _).trans (((cell_far (p := ⟨gb664, _, none⟩) NB663_664.out _).trans (((cell_far (p := ⟨gb664, _, none⟩) NB663_664.out _).trans (((cell_far (p := ⟨gb664, _, none⟩) NB663_664.out _).trans (((cell_far (p := ⟨gb664, _, none⟩) NB663_664.out _).trans (((cell_far (p := ⟨gb664, _, none⟩) NB663_664.out _).trans (hHeld.2.2.2.2.2.2.1)))))))))))))))))), ((cell_far (p := ⟨gb664, _, none⟩) NB663_664.out _).trans (((cell_far (p := ⟨gb664, _, none⟩) NB663_664.out _).trans (((cell_far (p := ⟨gb664, _, none⟩) NB663_664.out _).trans (((cell_far (p := ⟨gb664, _, none⟩) NB663_664.out _).trans (((cell_far (p := ⟨gb664, _, none⟩) NB663_664.out _).trans (((cell_far (p := ⟨gb664, _, none⟩) NB663_664.out _).trans (((cell_far (p := ⟨gb664, _, none⟩) NB663_664.out _).trans (((cell_far (p := ⟨gb664, _, none⟩) NB663_664.out _).trans (((cell_far (p := ⟨gb664, _, none⟩) NB663_664.out _).trans (hHeld.2.2.2.2.2.2.2.1)))))))))))))))))), ((cell_far (p := ⟨gb664, _, none⟩) NB663_664.out _).trans (((cell_far (p := ⟨gb664, _, none⟩) NB663_664.out _).trans (((cell_far (p := ⟨gb664, _, none⟩) NB663_664.out _).trans (((cell_far (p := ⟨gb664, _, none⟩) NB663_664.out _).trans (((cell_far (p := ⟨gb664, _, none⟩) NB663_664.out _).trans (((cell_far (p := ⟨gb664, _, none⟩) NB663_664.out _).trans (((cell_far (p := ⟨gb664, _, none⟩) NB663_664.out _).trans (((cell_far (p := ⟨gb664, _, none⟩) NB663_664.out _).trans (((cell_far (p := ⟨gb664, _, none⟩) NB663_664.out _).trans (hHeld.2.2.2.2.2.2.2.2))))))))))))))))))⟩ (fun hHeld => ?_)
    clear hK K
    refine pure_ (i := 10) (N := some 3) (v := ?_) (a' := ?_) #[true, true, true, true, true, true, true, true, true, true, true] rfl rfl (any_of HT_.out (by kernel_rfl)) (fun _ _ _ h => h) (Or.inl ⟨by rfl, ?_⟩) ?_ ?_
    rotate_left
    · intro w'
      go_simp
      with_reducible rfl
    rotate_left
    · simp only [Act.put, List.setIfInBounds_toArray, List.set_cons_zero, List.set_cons_succ, i64_w, i32_w]
      rfl
    refine done_ (done_of HT_.out (by kernel_rfl)) ?_
    try go_wp2
    refine bodyPost_ret (results_ct rfl _ _ gb664 58 #[.int .i64 t666, .int .i64 t667, .int .i64 t668, .int .i64 t669, .int .i64 t670, .int .i64 t671, .int .i64 t672, .int .i64 t673, .int .i64 a0_8] (0, 0) _ rfl (by (with_reducible repeat (first | refine blk_drewN ?_ _ | refine blk_drew ?_ | refine blk_alloc ?_ _)); refine blk_put (cs := #[.int .i64 t666, .int .i64 t667, .int .i64 t668, .int .i64 t669, .int .i64 t670, .int .i64 t671, .int .i64 t672, .int .i64 t673, .int .i64 0]) ?_ 8 _ rfl; (with_reducible repeat (first | refine blk_drewN ?_ _ | refine blk_drew ?_ | refine blk_alloc ?_ _)); refine blk_put (cs := #[.int .i64 t666, .int .i64 t667, .int .i64 t668, .int .i64 t669, .int .i64 t670, .int .i64 t671, .int .i64 t672, .int .i64 0, .int .i64 0]) ?_ 7 _ rfl; (with_reducible repeat (first | refine blk_drewN ?_ _ | refine blk_drew ?_ | refine blk_alloc ?_ _)); refine blk_put (cs := #[.int .i64 t666, .int .i64 t667, .int .i64 t668, .int .i64 t669, .int .i64 t670, .int .i64 t671, .int .i64 0, .int .i64 0, .int .i64 0]) ?_ 6 _ rfl; (with_reducible repeat (first | refine blk_drewN ?_ _ | refine blk_drew ?_ | refine blk_alloc ?_ _)); refine blk_put (cs := #[.int .i64 t666, .int .i64 t667, .int .i64 t668, .int .i64 t669, .int .i64 t670, .int .i64 0, .int .i64 0, .int .i64 0, .int .i64 0]) ?_ 5 _ rfl; (with_reducible repeat (first | refine blk_drewN ?_ _ | refine blk_drew ?_ | refine blk_alloc ?_ _)); refine blk_put (cs := #[.int .i64 t666, .int .i64 t667, .int .i64 t668, .int .i64 t669, .int .i64 0, .int .i64 0, .int .i64 0, .int .i64 0, .int .i64 0]) ?_ 4 _ rfl; (with_reducible repeat (first | refine blk_drewN ?_ _ | refine blk_drew ?_ | refine blk_alloc ?_ _)); refine blk_put (cs := #[.int .i64 t666, .int .i64 t667, .int .i64 t668, .int .i64 0, .int .i64 0, .int .i64 0, .int .i64 0, .int .i64 0, .int .i64 0]) ?_ 3 _ rfl; (with_reducible repeat (first | refine blk_drewN ?_ _ | refine blk_drew ?_ | refine blk_alloc ?_ _)); refine blk_put (cs := #[.int .i64 t666, .int .i64 t667, .int .i64 0, .int .i64 0, .int .i64 0, .int .i64 0, .int .i64 0, .int .i64 0, .int .i64 0]) ?_ 2 _ rfl; (with_reducible repeat (first | refine blk_drewN ?_ _ | refine blk_drew ?_ | refine blk_alloc ?_ _)); refine blk_put (cs := #[.int .i64 t666, .int .i64 0, .int .i64 0, .int .i64 0, .int .i64 0, .int .i64 0, .int .i64 0, .int .i64 0, .int .i64 0]) ?_ 1 _ rfl; (with_reducible repeat (first | refine blk_drewN ?_ _ | refine blk_drew ?_ | refine blk_alloc ?_ _)); refine blk_put (cs := #[.int .i64 0, .int .i64 0, .int .i64 0, .int .i64 0, .int .i64 0, .int .i64 0, .int .i64 0, .int .i64 0, .int .i64 0]) ?_ 0 _ rfl; (with_reducible repeat (first | refine blk_drewN ?_ _ | refine blk_drew ?_ | refine blk_alloc ?_ _)); exact BK664.out) Try.underlying58 rfl (by kernel_rfl)) rfl ?_
    exact ⟨by first | rfl | (simp [errW_none, errW_some] <;> rfl) | (simp [*, errW_none, errW_some] <;> rfl), by repeat (first | (with_reducible first | exact HB.out | apply below_alloc | apply pw_below_drewN | apply below_drew1 | refine below_set ?_ GE663.out | refine below_set ?_ GE664.out) | exact HB.out)⟩
  · replace c3 := Bool.eq_false_iff.mpr c3
    subst c3
    have H1 : (some (0, 0, 0, 0, 0, 0, 0, 0, 0, false)) = some (r1, r2, r3, r4, r5, r6, r7, r8, r9, r10) := by rw [if_neg (show ¬ (false = true) by decide)] at H; exact H
    clear H
    have H := H1
    clear H1
    simp only [Option.some.injEq, Prod.mk.injEq] at H
    obtain ⟨rfl, rfl, rfl, rfl, rfl, rfl, rfl, rfl, rfl, rfl⟩ := H
    go_enter Try.func50, Try.ntmps50
    go_wp2_with (first | ((with_reducible refine gate_dst (N := 1) rfl ?_); refine box_event ?hg (N := 1) ?hd (cs := #[.int .i64 a0_0, .int .i64 a0_1, .int .i64 a0_2, .int .i64 a0_3, .int .i64 a0_4, .int .i64 a0_5, .int .i64 a0_6, .int .i64 a0_7, .int .i64 a0_8]) (t := 58) ?hr ?_; (case hd => rfl); (case hg => rfl); (case hr => first | (go_simp; done) | (go_simp; rfl)); intro gb663 hg w23 hbox hb; have n0_ := Aside0.mk (below_step (by repeat (first | (with_reducible first | exact HB.out | apply below_alloc | apply pw_below_drewN | apply below_drew1) | exact HB.out)) hb); have n1_ := Aside0.mk (hbox); have n2_ := Aside0.mk ((by rw [hg]; exact (below_size (by repeat (first | (with_reducible first | exact HB.out | apply below_alloc | apply pw_below_drewN | apply below_drew1) | exact HB.out))) : w.heap.size ≤ gb663)); have n3_ := Aside0.mk ((by rw [hg]; exact (below_size (by repeat (first | (with_reducible first | exact HB.out | apply below_alloc | apply pw_below_drewN | apply below_drew1) | exact HB.out))) : w.heap.size ≤ gb663)); clear HB; have HB := n0_; have BK663 := n1_; have GW663 := n2_; have GE663 := n3_; clear n0_ n1_ n2_ n3_; clear hb hbox hg) | ((with_reducible refine gate_dst (N := 2) rfl ?_); refine box_event ?hg (N := 2) ?hd (cs := #[.int .i64 0, .int .i64 0, .int .i64 0, .int .i64 0, .int .i64 0, .int .i64 0, .int .i64 0, .int .i64 0, .int .i64 0]) (t := 58) ?hr ?_; (case hd => rfl); (case hg => rfl); (case hr => first | (go_simp; done) | (go_simp; rfl)); intro gb664 hg w24 hbox hb; have n0_ := Aside0.mk (blk_below (g := gb663) (o := .cells #[.int .i64 a0_0, .int .i64 a0_1, .int .i64 a0_2, .int .i64 a0_3, .int .i64 a0_4, .int .i64 a0_5, .int .i64 a0_6, .int .i64 a0_7, .int .i64 a0_8] 58 (0, 0)) (by (with_reducible repeat (first | refine blk_drewN ?_ _ | refine blk_drew ?_ | refine blk_alloc ?_ _)); exact BK663.out) hb); have n1_ := Aside0.mk (below_step (by repeat (first | (with_reducible first | exact HB.out | apply below_alloc | apply pw_below_drewN | apply below_drew1 | refine below_set ?_ GE663.out) | exact HB.out)) hb); have n2_ := Aside0.mk (hbox); have n3_ := Aside0.mk ((by rw [hg]; exact (below_size (by repeat (first | (with_reducible first | exact HB.out | apply below_alloc | apply pw_below_drewN | apply below_drew1 | refine below_set ?_ GE663.out) | exact HB.out))) : w.heap.size ≤ gb664)); have n4_ := Aside0.mk ((by rw [hg]; exact (below_size (by repeat (first | (with_reducible first | exact HB.out | apply below_alloc | apply pw_below_drewN | apply below_drew1 | refine below_set ?_ GE663.out) | exact HB.out))) : w.heap.size ≤ gb664)); have n5_ := Aside0.mk ((by rw [hg]; exact Nat.ne_of_lt (blk_lt (g := gb663) (o := .cells #[.int .i64 a0_0, .int .i64 a0_1, .int .i64 a0_2, .int .i64 a0_3, .int .i64 a0_4, .int .i64 a0_5, .int .i64 a0_6, .int .i64 a0_7, .int .i64 a0_8] 58 (0, 0)) (by (with_reducible repeat (first | refine blk_drewN ?_ _ | refine blk_drew ?_ | refine blk_alloc ?_ _)); exact BK663.out)) : gb663 ≠ gb664)); have n6_ := Aside0.mk ((by rw [hg]; exact Nat.ne_of_gt (blk_lt (g := gb663) (o := .cells #[.int .i64 a0_0, .int .i64 a0_1, .int .i64 a0_2, .int .i64 a0_3, .int .i64 a0_4, .int .i64 a0_5, .int .i64 a0_6, .int .i64 a0_7, .int .i64 a0_8] 58 (0, 0)) (by (with_reducible repeat (first | refine blk_drewN ?_ _ | refine blk_drew ?_ | refine blk_alloc ?_ _)); exact BK663.out)) : gb664 ≠ gb663)); clear BK663; clear HB; have BK663 := n0_; have HB := n1_; have BK664 := n2_; have GW664 := n3_; have GE664 := n4_; have NB663_664 := n5_; have NB664_663 := n6_; clear n0_ n1_ n2_ n3_ n4_ n5_ n6_; clear hb hbox hg; have hnb25 := NB663_664.out; have hnc25 := NB664_663.out; have hcz26_0 : w24.cell? ⟨gb663, 0, none⟩ = some (.int .i64 a0_0) := (blk_cell BK663.out 0).trans rfl; have hcz26_1 : w24.cell? ⟨gb663, 1, none⟩ = some (.int .i64 a0_1) := (blk_cell BK663.out 1).trans rfl; have hcz26_2 : w24.cell? ⟨gb663, 2, none⟩ = some (.int .i64 a0_2) := (blk_cell BK663.out 2).trans rfl; have hcz26_3 : w24.cell? ⟨gb663, 3, none⟩ = some (.int .i64 a0_3) := (blk_cell BK663.out 3).trans rfl; have hcz26_4 : w24.cell? ⟨gb663, 4, none⟩ = some (.int .i64 a0_4) := (blk_cell BK663.out 4).trans rfl; have hcz26_5 : w24.cell? ⟨gb663, 5, none⟩ = some (.int .i64 a0_5) := (blk_cell BK663.out 5).trans rfl; have hcz26_6 : w24.cell? ⟨gb663, 6, none⟩ = some (.int .i64 a0_6) := (blk_cell BK663.out 6).trans rfl; have hcz26_7 : w24.cell? ⟨gb663, 7, none⟩ = some (.int .i64 a0_7) := (blk_cell BK663.out 7).trans rfl; have hcz26_8 : w24.cell? ⟨gb663, 8, none⟩ = some (.int .i64 a0_8) := (blk_cell BK663.out 8).trans rfl; have hfz26_0 := blk_frozen BK663.out 0; have hfz26_1 := blk_frozen BK663.out 1; have hfz26_2 := blk_frozen BK663.out 2; have hfz26_3 := blk_frozen BK663.out 3; have hfz26_4 := blk_frozen BK663.out 4; have hfz26_5 := blk_frozen BK663.out 5; have hfz26_6 := blk_frozen BK663.out 6; have hfz26_7 := blk_frozen BK663.out 7; have hfz26_8 := blk_frozen BK663.out 8) | ((with_reducible refine gate_callee (f := 39) rfl ?_); refine goesL_ (some 5) rfl rfl Try.func39 (by kernel_rfl) rfl #[.agg #[.int .i64 a0_0, .int .i64 a0_1, .int .i64 a0_2, .int .i64 a0_3, .int .i64 a0_4, .int .i64 a0_5, .int .i64 a0_6, .int .i64 a0_7, .int .i64 a0_8]] rfl (by (try simp only [List.map_toArray, List.map_cons, List.map_nil]); first | done | rfl | (simp only [List.length_drop, List.length_take]; rfl)) ?_; (with_reducible refine (impl_ValidMachine.calls a0_0 a0_1 a0_2 a0_3 a0_4 a0_5 a0_6 a0_7 a0_8 false _ A2.out).mono ?_); rintro e w27 ⟨rfl, hb⟩; refine ⟨_, rfl, ?_⟩; have n0_ := Aside0.mk (blk_below (g := gb663) (o := .cells #[.int .i64 a0_0, .int .i64 a0_1, .int .i64 a0_2, .int .i64 a0_3, .int .i64 a0_4, .int .i64 a0_5, .int .i64 a0_6, .int .i64 a0_7, .int .i64 a0_8] 58 (0, 0)) (by (with_reducible repeat (first | refine blk_drewN ?_ _ | refine blk_drew ?_ | refine blk_alloc ?_ _)); exact BK663.out) hb); have n1_ := Aside0.mk (blk_below (g := gb664) (o := .cells #[.int .i64 0, .int .i64 0, .int .i64 0, .int .i64 0, .int .i64 0, .int .i64 0, .int .i64 0, .int .i64 0, .int .i64 0] 58 (0, 0)) (by (with_reducible repeat (first | refine blk_drewN ?_ _ | refine blk_drew ?_ | refine blk_alloc ?_ _)); exact BK664.out) hb); have n2_ := Aside0.mk (below_step (by repeat (first | (with_reducible first | exact HB.out | apply below_alloc | apply pw_below_drewN | apply below_drew1 | refine below_set ?_ GE663.out | refine below_set ?_ GE664.out) | exact HB.out)) hb); clear BK663; clear BK664; clear HB; have BK663 := n0_; have BK664 := n1_; have HB := n2_; clear n0_ n1_ n2_; (try clear hb); (try clear hb2); (try clear hk); (try clear hi); have hcz28_0 : w27.cell? ⟨gb664, 0, none⟩ = some (.int .i64 0) := (blk_cell BK664.out 0).trans rfl; have hcz28_1 : w27.cell? ⟨gb664, 1, none⟩ = some (.int .i64 0) := (blk_cell BK664.out 1).trans rfl; have hcz28_2 : w27.cell? ⟨gb664, 2, none⟩ = some (.int .i64 0) := (blk_cell BK664.out 2).trans rfl; have hcz28_3 : w27.cell? ⟨gb664, 3, none⟩ = some (.int .i64 0) := (blk_cell BK664.out 3).trans rfl; have hcz28_4 : w27.cell? ⟨gb664, 4, none⟩ = some (.int .i64 0) := (blk_cell BK664.out 4).trans rfl; have hcz28_5 : w27.cell? ⟨gb664, 5, none⟩ = some (.int .i64 0) := (blk_cell BK664.out 5).trans rfl; have hcz28_6 : w27.cell? ⟨gb664, 6, none⟩ = some (.int .i64 0) := (blk_cell BK664.out 6).trans rfl; have hcz28_7 : w27.cell? ⟨gb664, 7, none⟩ = some (.int .i64 0) := (blk_cell BK664.out 7).trans rfl; have hcz28_8 : w27.cell? ⟨gb664, 8, none⟩ = some (.int .i64 0) := (blk_cell BK664.out 8).trans rfl; have hfz28_0 := blk_frozen BK664.out 0; have hfz28_1 := blk_frozen BK664.out 1; have hfz28_2 := blk_frozen BK664.out 2; have hfz28_3 := blk_frozen BK664.out 3; have hfz28_4 := blk_frozen BK664.out 4; have hfz28_5 := blk_frozen BK664.out 5; have hfz28_6 := blk_frozen BK664.out 6; have hfz28_7 := blk_frozen BK664.out 7; have hfz28_8 := blk_frozen BK664.out 8))
    refine bodyPost_ret (results_ct rfl _ _ gb664 58 #[.int .i64 0, .int .i64 0, .int .i64 0, .int .i64 0, .int .i64 0, .int .i64 0, .int .i64 0, .int .i64 0, .int .i64 0] (0, 0) _ rfl (by (with_reducible repeat (first | refine blk_drewN ?_ _ | refine blk_drew ?_ | refine blk_alloc ?_ _)); refine blk_put (cs := #[.int .i64 0, .int .i64 0, .int .i64 0, .int .i64 0, .int .i64 0, .int .i64 0, .int .i64 0, .int .i64 0, .int .i64 0]) ?_ 8 _ rfl; (with_reducible repeat (first | refine blk_drewN ?_ _ | refine blk_drew ?_ | refine blk_alloc ?_ _)); refine blk_put (cs := #[.int .i64 0, .int .i64 0, .int .i64 0, .int .i64 0, .int .i64 0, .int .i64 0, .int .i64 0, .int .i64 0, .int .i64 0]) ?_ 7 _ rfl; (with_reducible repeat (first | refine blk_drewN ?_ _ | refine blk_drew ?_ | refine blk_alloc ?_ _)); refine blk_put (cs := #[.int .i64 0, .int .i64 0, .int .i64 0, .int .i64 0, .int .i64 0, .int .i64 0, .int .i64 0, .int .i64 0, .int .i64 0]) ?_ 6 _ rfl; (with_reducible repeat (first | refine blk_drewN ?_ _ | refine blk_drew ?_ | refine blk_alloc ?_ _)); refine blk_put (cs := #[.int .i64 0, .int .i64 0, .int .i64 0, .int .i64 0, .int .i64 0, .int .i64 0, .int .i64 0, .int .i64 0, .int .i64 0]) ?_ 5 _ rfl; (with_reducible repeat (first | refine blk_drewN ?_ _ | refine blk_drew ?_ | refine blk_alloc ?_ _)); refine blk_put (cs := #[.int .i64 0, .int .i64 0, .int .i64 0, .int .i64 0, .int .i64 0, .int .i64 0, .int .i64 0, .int .i64 0, .int .i64 0]) ?_ 4 _ rfl; (with_reducible repeat (first | refine blk_drewN ?_ _ | refine blk_drew ?_ | refine blk_alloc ?_ _)); refine blk_put (cs := #[.int .i64 0, .int .i64 0, .int .i64 0, .int .i64 0, .int .i64 0, .int .i64 0, .int .i64 0, .int .i64 0, .int .i64 0]) ?_ 3 _ rfl; (with_reducible repeat (first | refine blk_drewN ?_ _ | refine blk_drew ?_ | refine blk_alloc ?_ _)); refine blk_put (cs := #[.int .i64 0, .int .i64 0, .int .i64 0, .int .i64 0, .int .i64 0, .int .i64 0, .int .i64 0, .int .i64 0, .int .i64 0]) ?_ 2 _ rfl; (with_reducible repeat (first | refine blk_drewN ?_ _ | refine blk_drew ?_ | refine blk_alloc ?_ _)); refine blk_put (cs := #[.int .i64 0, .int .i64 0, .int .i64 0, .int .i64 0, .int .i64 0, .int .i64 0, .int .i64 0, .int .i64 0, .int .i64 0]) ?_ 1 _ rfl; (with_reducible repeat (first | refine blk_drewN ?_ _ | refine blk_drew ?_ | refine blk_alloc ?_ _)); refine blk_put (cs := #[.int .i64 0, .int .i64 0, .int .i64 0, .int .i64 0, .int .i64 0, .int .i64 0, .int .i64 0, .int .i64 0, .int .i64 0]) ?_ 0 _ rfl; (with_reducible repeat (first | refine blk_drewN ?_ _ | refine blk_drew ?_ | refine blk_alloc ?_ _)); exact BK664.out) Try.underlying58 rfl (by kernel_rfl)) rfl ?_
    exact ⟨by first | rfl | (simp [errW_none, errW_some] <;> rfl) | (simp [*, errW_none, errW_some] <;> rfl), by repeat (first | (with_reducible first | exact HB.out | apply below_alloc | apply pw_below_drewN | apply below_drew1 | refine below_set ?_ GE663.out | refine below_set ?_ GE664.out) | exact HB.out)⟩

end Go.Proofs.Ythlbcjoogcanmaa.Q
