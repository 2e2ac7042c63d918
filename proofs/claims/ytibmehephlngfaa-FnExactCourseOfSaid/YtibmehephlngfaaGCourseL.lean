/- Written by programs of this claim's session (gprint.py over the kit's print, shortened by shrink.py): the walk of laws.FnExactCourseOf; Lean checks it. -/
import Derived.Test.YtibmehephlngfaaQ0
import Derived.Test.YtibmehephlngfaaQ8
import Derived.Test.YtibmehephlngfaaQ19
import Derived.Test.YtibmehephlngfaaGWithin
import Derived.Test.YtibmehephlngfaaGCourseI
namespace Go.Proofs.Ytibmehephlngfaa.Q
open Go.RowKit Go.Proofs.YtibmehephlngfaaW.PrintWords Go.Proofs.YtibmehephlngfaaW.PrintLast Go.Proofs.YtibmehephlngfaaW.PrintMore
attribute [local go_sem] max2_int min2_int max_two min_two max_three min_three max_four min_four   -- for this text's walks alone
set_option linter.unusedVariables false
set_option linter.unusedSimpArgs false

theorem laws_FnExactCourseOf.sh_lt {w : World} {g g2 : Nat} {o : Obj} (hg : g2 = w.heap.size) (h : w.heap[g]? = some o) : g ≠ g2 := by rw [hg]; exact Nat.ne_of_lt (blk_lt h)
theorem laws_FnExactCourseOf.sh_gt {w : World} {g g2 : Nat} {o : Obj} (hg : g2 = w.heap.size) (h : w.heap[g]? = some o) : g2 ≠ g := by rw [hg]; exact Nat.ne_of_gt (blk_lt h)
theorem laws_FnExactCourseOf.sh_le {w w2 : World} {g2 : Nat} (hg : g2 = w2.heap.size) (h : Below w.heap.size w w2) : w.heap.size ≤ g2 := by rw [hg]; exact below_size h

/-! ### laws_FnExactCourseOf: function 4 -/
def laws_FnExactCourseOf.j0 : Nat → Bool → Option (Bool)
 | 0, _ => none
 | k + 1, x43 => if x43 = true then (some false) else (some true)
def laws_FnExactCourseOf.f (k : Nat) (a0_0 : Int) (a0_1 : Int) (a0_2 : Int) (a0_3 : Int) (a1_0 : Int) (a1_1 : Int) (a1_2 : Int) (a1_3 : Int) : Option (Bool) := (laws_toPose.f a0_0 a0_1 a0_2 a0_3).bind fun bt152 => ((laws_toPose.f a1_0 a1_1 a1_2 a1_3).bind fun bt156 => ((spec_CourseOf.f k bt152.1 bt152.2.1 bt152.2.2.1 bt152.2.2.2 bt156.1 bt156.2.1 bt156.2.2.1 bt156.2.2.2).bind fun bt160 => ((laws_toPose.f a0_0 a0_1 a0_2 a0_3).bind fun bt169 => ((laws_toPose.f a1_0 a1_1 a1_2 a1_3).bind fun bt173 => ((impl_CourseOf.f k bt169.1 bt169.2.1 bt169.2.2.1 bt169.2.2.2 bt173.1 bt173.2.1 bt173.2.2.1 bt173.2.2.2).bind fun bt177 => ((laws_eqCourse.f bt177.1 bt177.2.1 bt177.2.2.1 bt160.1 bt160.2.1 bt160.2.2.1).bind fun t186 => (if t186 = true then ((laws_eqCourse.f bt177.2.2.2.1 bt177.2.2.2.2.1 bt177.2.2.2.2.2.1 bt160.2.2.2.1 bt160.2.2.2.2.1 bt160.2.2.2.2.2.1).bind fun t187 => (if t187 = true then (laws_FnExactCourseOf.j0 k (bt177.2.2.2.2.2.2 != bt160.2.2.2.2.2.2)) else (laws_FnExactCourseOf.j0 k true))) else (laws_FnExactCourseOf.j0 k true))))))))
theorem laws_FnExactCourseOf.mono_l : ∀ k, (∀ y0, LeO (laws_FnExactCourseOf.j0 k y0) (laws_FnExactCourseOf.j0 (k + 1) y0))
 | 0 => fun _ r h => by simp [laws_FnExactCourseOf.j0] at h
 | k + 1 => by
  have ih0 := laws_FnExactCourseOf.mono_l k
  ·
   intro y0
   unfold laws_FnExactCourseOf.j0
   repeat' first
   | (with_reducible exact ih0 _)
   | (with_reducible exact impl_CourseOf.mono _ _ _ _ _ _ _ _ _)
   | (with_reducible exact spec_CourseOf.mono _ _ _ _ _ _ _ _ _)
   | (with_reducible exact LeO.refl _)
   | (with_reducible exact LeO.none _)
   | (with_reducible refine LeO.ite ?_ ?_)
   | (with_reducible refine LeO.bind ?_ (fun _ => ?_))
   | exact ih0 _
   | exact impl_CourseOf.mono _ _ _ _ _ _ _ _ _
   | exact spec_CourseOf.mono _ _ _ _ _ _ _ _ _
   | exact LeO.none _
   | refine LeO.ite ?_ ?_
   | refine LeO.bind ?_ (fun _ => ?_)
theorem laws_FnExactCourseOf.mono : ∀ a0 a1 a2 a3 a4 a5 a6 a7 k, LeO (laws_FnExactCourseOf.f k a0 a1 a2 a3 a4 a5 a6 a7) (laws_FnExactCourseOf.f (k + 1) a0 a1 a2 a3 a4 a5 a6 a7) := by
 intro a0 a1 a2 a3 a4 a5 a6 a7 k
 have ih0 := laws_FnExactCourseOf.mono_l k
 unfold laws_FnExactCourseOf.f
 repeat' first
   | (with_reducible exact ih0 _)
   | (with_reducible exact impl_CourseOf.mono _ _ _ _ _ _ _ _ _)
   | (with_reducible exact spec_CourseOf.mono _ _ _ _ _ _ _ _ _)
   | (with_reducible exact LeO.refl _)
   | (with_reducible exact LeO.none _)
   | (with_reducible refine LeO.ite ?_ ?_)
   | (with_reducible refine LeO.bind ?_ (fun _ => ?_))
   | exact ih0 _
   | exact impl_CourseOf.mono _ _ _ _ _ _ _ _ _
   | exact spec_CourseOf.mono _ _ _ _ _ _ _ _ _
   | exact LeO.none _
   | refine LeO.ite ?_ ?_
   | refine LeO.bind ?_ (fun _ => ?_)
def laws_FnExactCourseOf.T1 : Bool × List (List Nat × List Nat) := (true, [([], []), ([0], [0]), ([], []), ([2, 1], [2]), ([1, 3, 3], [1, 3]), ([4], [4]), ([5], [5]), ([5], [5]), ([5], [5]), ([], []), ([], []), ([9, 6, 4, 0, 1, 2, 3, 4, 5, 6, 9, 10], [6, 9]), ([10, 7, 11, 0, 1, 2, 3, 4, 5, 6, 7, 9, 10, 11], [7, 10]), ([8, 12, 0, 1, 2, 3, 4, 5, 6, 7, 8, 9, 10, 11, 12], [8])])
def laws_FnExactCourseOf.B1 : List Nat := [0, 1, 0, 7, 15, 31, 63, 63, 63, 0, 0, 1663, 3839, 8191]
theorem laws_FnExactCourseOf.tab1 : rtab .any (opsOf Try.f4 1) = laws_FnExactCourseOf.T1 := by kernel_rfl
theorem laws_FnExactCourseOf.bits1 : waitsOk laws_FnExactCourseOf.T1.2 laws_FnExactCourseOf.B1 = true := by kernel_rfl
def laws_FnExactCourseOf.T2 : Bool × List (List Nat × List Nat) := (true, [([], []), ([0], [0]), ([], []), ([2, 1], [2]), ([1, 3, 3], [1, 3]), ([4], [4]), ([5], [5]), ([5], [5]), ([5], [5]), ([], []), ([], []), ([9, 6, 4, 0, 1, 2, 3, 4, 5, 6, 9, 10], [6, 9]), ([10, 7, 11, 0, 1, 2, 3, 4, 5, 6, 7, 9, 10, 11], [7, 10]), ([8, 12, 0, 1, 2, 3, 4, 5, 6, 7, 8, 9, 10, 11, 12], [8])])
def laws_FnExactCourseOf.B2 : List Nat := [0, 1, 0, 7, 15, 31, 63, 63, 63, 0, 0, 1663, 3839, 8191]
theorem laws_FnExactCourseOf.tab2 : rtab .any (opsOf Try.f4 2) = laws_FnExactCourseOf.T2 := by kernel_rfl
theorem laws_FnExactCourseOf.bits2 : waitsOk laws_FnExactCourseOf.T2.2 laws_FnExactCourseOf.B2 = true := by kernel_rfl
set_option maxHeartbeats 8000000 in
set_option maxRecDepth 100000 in
theorem laws_FnExactCourseOf.callsT (k : Nat) (a0_0 : Int) (a0_1 : Int) (a0_2 : Int) (a0_3 : Int) (a1_0 : Int) (a1_1 : Int) (a1_2 : Int) (a1_3 : Int) (w : World) (h : laws_FnExactCourseOf.f k a0_0 a0_1 a0_2 a0_3 a1_0 a1_1 a1_2 a1_3 = some true) :
  Calls Try.prog 4 #[.agg #[.int .i64 a0_0, .int .i64 a0_1, .int .i64 a0_2, .int .i64 a0_3], .agg #[.int .i64 a1_0, .int .i64 a1_1, .int .i64 a1_2, .int .i64 a1_3]] w fun e w' => e = .returned (.bool true) ∧ Below w.heap.size w w' := by
 have hu30 := Try.underlying30
 have hu24 := Try.underlying24
 have HB := Aside0.mk (Below.refl w.heap.size w)
 have H : ((laws_toPose.f a0_0 a0_1 a0_2 a0_3).bind fun bt152 => ((laws_toPose.f a1_0 a1_1 a1_2 a1_3).bind fun bt156 => ((spec_CourseOf.f k bt152.1 bt152.2.1 bt152.2.2.1 bt152.2.2.2 bt156.1 bt156.2.1 bt156.2.2.1 bt156.2.2.2).bind fun bt160 => ((laws_toPose.f a0_0 a0_1 a0_2 a0_3).bind fun bt169 => ((laws_toPose.f a1_0 a1_1 a1_2 a1_3).bind fun bt173 => ((impl_CourseOf.f k bt169.1 bt169.2.1 bt169.2.2.1 bt169.2.2.2 bt173.1 bt173.2.1 bt173.2.2.1 bt173.2.2.2).bind fun bt177 => ((laws_eqCourse.f bt177.1 bt177.2.1 bt177.2.2.1 bt160.1 bt160.2.1 bt160.2.2.1).bind fun t186 => (if t186 = true then ((laws_eqCourse.f bt177.2.2.2.1 bt177.2.2.2.2.1 bt177.2.2.2.2.2.1 bt160.2.2.2.1 bt160.2.2.2.2.1 bt160.2.2.2.2.2.1).bind fun t187 => (if t187 = true then (laws_FnExactCourseOf.j0 k (bt177.2.2.2.2.2.2 != bt160.2.2.2.2.2.2)) else (laws_FnExactCourseOf.j0 k true))) else (laws_FnExactCourseOf.j0 k true))))))))) = some true := h
 clear h
 replace H := Option.bind_eq_some_iff.mp H
 obtain ⟨⟨t152, t153, t154, t155⟩, A30, H⟩ := H
 replace H : ((laws_toPose.f a1_0 a1_1 a1_2 a1_3).bind fun bt156 => ((spec_CourseOf.f k t152 t153 t154 t155 bt156.1 bt156.2.1 bt156.2.2.1 bt156.2.2.2).bind fun bt160 => ((laws_toPose.f a0_0 a0_1 a0_2 a0_3).bind fun bt169 => ((laws_toPose.f a1_0 a1_1 a1_2 a1_3).bind fun bt173 => ((impl_CourseOf.f k bt169.1 bt169.2.1 bt169.2.2.1 bt169.2.2.2 bt173.1 bt173.2.1 bt173.2.2.1 bt173.2.2.2).bind fun bt177 => ((laws_eqCourse.f bt177.1 bt177.2.1 bt177.2.2.1 bt160.1 bt160.2.1 bt160.2.2.1).bind fun t186 => (if t186 = true then ((laws_eqCourse.f bt177.2.2.2.1 bt177.2.2.2.2.1 bt177.2.2.2.2.2.1 bt160.2.2.2.1 bt160.2.2.2.2.1 bt160.2.2.2.2.2.1).bind fun t187 => (if t187 = true then (laws_FnExactCourseOf.j0 k (bt177.2.2.2.2.2.2 != bt160.2.2.2.2.2.2)) else (laws_FnExactCourseOf.j0 k true))) else (laws_FnExactCourseOf.j0 k true)))))))) = some true := H
 have A3 := Aside0.mk A30
 clear A30
 replace H := Option.bind_eq_some_iff.mp H
 obtain ⟨⟨t156, t157, t158, t159⟩, A40, H⟩ := H
 replace H : ((spec_CourseOf.f k t152 t153 t154 t155 t156 t157 t158 t159).bind fun bt160 => ((laws_toPose.f a0_0 a0_1 a0_2 a0_3).bind fun bt169 => ((laws_toPose.f a1_0 a1_1 a1_2 a1_3).bind fun bt173 => ((impl_CourseOf.f k bt169.1 bt169.2.1 bt169.2.2.1 bt169.2.2.2 bt173.1 bt173.2.1 bt173.2.2.1 bt173.2.2.2).bind fun bt177 => ((laws_eqCourse.f bt177.1 bt177.2.1 bt177.2.2.1 bt160.1 bt160.2.1 bt160.2.2.1).bind fun t186 => (if t186 = true then ((laws_eqCourse.f bt177.2.2.2.1 bt177.2.2.2.2.1 bt177.2.2.2.2.2.1 bt160.2.2.2.1 bt160.2.2.2.2.1 bt160.2.2.2.2.2.1).bind fun t187 => (if t187 = true then (laws_FnExactCourseOf.j0 k (bt177.2.2.2.2.2.2 != bt160.2.2.2.2.2.2)) else (laws_FnExactCourseOf.j0 k true))) else (laws_FnExactCourseOf.j0 k true))))))) = some true := H
 have A4 := Aside0.mk A40
 clear A40
 replace H := Option.bind_eq_some_iff.mp H
 obtain ⟨⟨t160, t161, t162, t163, t164, t165, t166⟩, A50, H⟩ := H
 replace H : ((laws_toPose.f a0_0 a0_1 a0_2 a0_3).bind fun bt169 => ((laws_toPose.f a1_0 a1_1 a1_2 a1_3).bind fun bt173 => ((impl_CourseOf.f k bt169.1 bt169.2.1 bt169.2.2.1 bt169.2.2.2 bt173.1 bt173.2.1 bt173.2.2.1 bt173.2.2.2).bind fun bt177 => ((laws_eqCourse.f bt177.1 bt177.2.1 bt177.2.2.1 t160 t161 t162).bind fun t186 => (if t186 = true then ((laws_eqCourse.f bt177.2.2.2.1 bt177.2.2.2.2.1 bt177.2.2.2.2.2.1 t163 t164 t165).bind fun t187 => (if t187 = true then (laws_FnExactCourseOf.j0 k (bt177.2.2.2.2.2.2 != t166)) else (laws_FnExactCourseOf.j0 k true))) else (laws_FnExactCourseOf.j0 k true)))))) = some true := H
 have A5 := Aside0.mk A50
 clear A50
 replace H := Option.bind_eq_some_iff.mp H
 obtain ⟨⟨t169, t170, t171, t172⟩, A60, H⟩ := H
 replace H : ((laws_toPose.f a1_0 a1_1 a1_2 a1_3).bind fun bt173 => ((impl_CourseOf.f k t169 t170 t171 t172 bt173.1 bt173.2.1 bt173.2.2.1 bt173.2.2.2).bind fun bt177 => ((laws_eqCourse.f bt177.1 bt177.2.1 bt177.2.2.1 t160 t161 t162).bind fun t186 => (if t186 = true then ((laws_eqCourse.f bt177.2.2.2.1 bt177.2.2.2.2.1 bt177.2.2.2.2.2.1 t163 t164 t165).bind fun t187 => (if t187 = true then (laws_FnExactCourseOf.j0 k (bt177.2.2.2.2.2.2 != t166)) else (laws_FnExactCourseOf.j0 k true))) else (laws_FnExactCourseOf.j0 k true))))) = some true := H
 have A6 := Aside0.mk A60
 clear A60
 replace H := Option.bind_eq_some_iff.mp H
 obtain ⟨⟨t173, t174, t175, t176⟩, A70, H⟩ := H
 replace H : ((impl_CourseOf.f k t169 t170 t171 t172 t173 t174 t175 t176).bind fun bt177 => ((laws_eqCourse.f bt177.1 bt177.2.1 bt177.2.2.1 t160 t161 t162).bind fun t186 => (if t186 = true then ((laws_eqCourse.f bt177.2.2.2.1 bt177.2.2.2.2.1 bt177.2.2.2.2.2.1 t163 t164 t165).bind fun t187 => (if t187 = true then (laws_FnExactCourseOf.j0 k (bt177.2.2.2.2.2.2 != t166)) else (laws_FnExactCourseOf.j0 k true))) else (laws_FnExactCourseOf.j0 k true)))) = some true := H
 have A7 := Aside0.mk A70
 clear A70
 replace H := Option.bind_eq_some_iff.mp H
 obtain ⟨⟨t177, t178, t179, t180, t181, t182, t183⟩, A80, H⟩ := H
 replace H : ((laws_eqCourse.f t177 t178 t179 t160 t161 t162).bind fun t186 => (if t186 = true then ((laws_eqCourse.f t180 t181 t182 t163 t164 t165).bind fun t187 => (if t187 = true then (laws_FnExactCourseOf.j0 k (t183 != t166)) else (laws_FnExactCourseOf.j0 k true))) else (laws_FnExactCourseOf.j0 k true))) = some true := H
 have A8 := Aside0.mk A80
 clear A80
 have HC9 := Aside0.mk H
 clear H
 go_enter Try.func4, Try.ntmps4
 try go_wp2_with (first | ((with_reducible refine gate_dst (N := 2) rfl ?_); refine box_event ?hg (N := 2) ?hd (cs := #[.int .i64 a0_0, .int .i64 a0_1, .int .i64 a0_2, .int .i64 a0_3]) (t := 30) ?hr ?_; (case hd => rfl); (case hg => rfl); (case hr => first | (go_simp; done) | (go_simp; rfl)); intro gb150 hg w10 hbox hb; have n0_ := Aside0.mk (below_step (by repeat (first | (with_reducible first | exact HB.out | apply below_alloc | apply pw_below_drewN | apply below_drew1) | exact HB.out)) hb); have n1_ := Aside0.mk (hbox); have n2_ := Aside0.mk ((by rw [hg]; exact (below_size (by repeat (first | (with_reducible first | exact HB.out | apply below_alloc | apply pw_below_drewN | apply below_drew1) | exact HB.out))) : w.heap.size ≤ gb150)); have n3_ := Aside0.mk ((by rw [hg]; exact (below_size (by repeat (first | (with_reducible first | exact HB.out | apply below_alloc | apply pw_below_drewN | apply below_drew1) | exact HB.out))) : w.heap.size ≤ gb150)); clear HB; have HB := n0_; have BK150 := n1_; have GW150 := n2_; have GE150 := n3_; clear n0_ n1_ n2_ n3_; clear hb hbox hg) | ((with_reducible refine gate_dst (N := 3) rfl ?_); refine box_event ?hg (N := 3) ?hd (cs := #[.int .i64 a1_0, .int .i64 a1_1, .int .i64 a1_2, .int .i64 a1_3]) (t := 30) ?hr ?_; (case hd => rfl); (case hg => rfl); (case hr => first | (go_simp; done) | (go_simp; rfl)); intro gb151 hg w11 hbox hb; have n0_ := Aside0.mk (blk_below (g := gb150) (o := .cells #[.int .i64 a0_0, .int .i64 a0_1, .int .i64 a0_2, .int .i64 a0_3] 30 (0, 0)) (by (with_reducible repeat (first | refine blk_drewN ?_ _ | refine blk_drew ?_ | refine blk_alloc ?_ _)); exact BK150.out) hb); have n1_ := Aside0.mk (below_step (by repeat (first | (with_reducible first | exact HB.out | apply below_alloc | apply pw_below_drewN | apply below_drew1 | refine below_set ?_ GE150.out) | exact HB.out)) hb); have n2_ := Aside0.mk (hbox); have n3_ := Aside0.mk ((by rw [hg]; exact (below_size (by repeat (first | (with_reducible first | exact HB.out | apply below_alloc | apply pw_below_drewN | apply below_drew1 | refine below_set ?_ GE150.out) | exact HB.out))) : w.heap.size ≤ gb151)); have n4_ := Aside0.mk ((by rw [hg]; exact (below_size (by repeat (first | (with_reducible first | exact HB.out | apply below_alloc | apply pw_below_drewN | apply below_drew1 | refine below_set ?_ GE150.out) | exact HB.out))) : w.heap.size ≤ gb151)); have n5_ := Aside0.mk ((by rw [hg]; exact Nat.ne_of_lt (blk_lt (g := gb150) (o := .cells #[.int .i64 a0_0, .int .i64 a0_1, .int .i64 a0_2, .int .i64 a0_3] 30 (0, 0)) (by (with_reducible repeat (first | refine blk_drewN ?_ _ | refine blk_drew ?_ | refine blk_alloc ?_ _)); exact BK150.out)) : gb150 ≠ gb151)); have n6_ := Aside0.mk ((by rw [hg]; exact Nat.ne_of_gt (blk_lt (g := gb150) (o := .cells #[.int .i64 a0_0, .int .i64 a0_1, .int .i64 a0_2, .int .i64 a0_3] 30 (0, 0)) (by (with_reducible repeat (first | refine blk_drewN ?_ _ | refine blk_drew ?_ | refine blk_alloc ?_ _)); exact BK150.out)) : gb151 ≠ gb150)); clear BK150; clear HB; have BK150 := n0_; have HB := n1_; have BK151 := n2_; have GW151 := n3_; have GE151 := n4_; have NB150_151 := n5_; have NB151_150 := n6_; clear n0_ n1_ n2_ n3_ n4_ n5_ n6_; clear hb hbox hg))
 replace BK150 := Aside0.mk (blk_drew BK150.out)
 replace BK151 := Aside0.mk (blk_drew BK151.out)
 replace HB := Aside0.mk (below_drew1 HB.out)
 refine start_ (n := 14) (S := fun w' => w'.cell? ⟨gb150, 0, none⟩ = some (.int .i64 a0_0) ∧ w'.cell? ⟨gb150, 1, none⟩ = some (.int .i64 a0_1) ∧ w'.cell? ⟨gb150, 2, none⟩ = some (.int .i64 a0_2) ∧ w'.cell? ⟨gb150, 3, none⟩ = some (.int .i64 a0_3) ∧ w'.cell? ⟨gb151, 0, none⟩ = some (.int .i64 a1_0) ∧ w'.cell? ⟨gb151, 1, none⟩ = some (.int .i64 a1_1) ∧ w'.cell? ⟨gb151, 2, none⟩ = some (.int .i64 a1_2) ∧ w'.cell? ⟨gb151, 3, none⟩ = some (.int .i64 a1_3)) (ds := []) #[false, false, false, false, false, false, false, false, false, false, false, false, false, false] (by kernel_rfl) rfl rfl ⟨(blk_cell BK150.out 0).trans rfl, (blk_cell BK150.out 1).trans rfl, (blk_cell BK150.out 2).trans rfl, (blk_cell BK150.out 3).trans rfl, (blk_cell BK151.out 0).trans rfl, (blk_cell BK151.out 1).trans rfl, (blk_cell BK151.out 2).trans rfl, (blk_cell BK151.out 3).trans rfl⟩ (fun hHeld => ?_); refine with_tabW laws_FnExactCourseOf.tab1 laws_FnExactCourseOf.bits1 (fun HT_ HW_ => ?_)
 generalize w11.drew = w12 at BK150 BK151 HB hHeld ⊢
 refine take_ (i := 0) (N := some 12) (v := ?_) (a' := ?_) #[true, false, false, false, false, false, false, false, false, false, false, false, false, false] rfl rfl (take_ofW HT_.out HW_.out (by kernel_rfl)) (fun _ _ _ h => h) (Or.inl ⟨by rfl, ?_⟩) hHeld ?_ ?_
 rotate_left
 ·
  rintro w' ⟨s0, s1, s2, s3, s4, s5, s6, s7⟩
  go_simp
  with_reducible rfl
 rotate_left
 ·
  simp only [Act.put, List.setIfInBounds_toArray, List.set_cons_zero, List.set_cons_succ, i64_w, i32_w]
  rfl
 refine take_ (i := 2) (N := some 14) (v := ?_) (a' := ?_) #[true, false, true, false, false, false, false, false, false, false, false, false, false, false] rfl rfl (take_ofW HT_.out HW_.out (by kernel_rfl)) (fun _ _ _ h => h) (Or.inl ⟨by rfl, ?_⟩) hHeld ?_ ?_
 rotate_left
 ·
  rintro w' ⟨s0, s1, s2, s3, s4, s5, s6, s7⟩
  go_simp
  with_reducible rfl
 rotate_left
 ·
  simp only [Act.put, List.setIfInBounds_toArray, List.set_cons_zero, List.set_cons_succ, i64_w, i32_w]
  rfl
 refine join_ (σ := Nat × Nat) 3 #[true, true, true, true, true, true, true, true, true, true, true, false, false, false] (fun s_ => [(13, .agg #[.int .i64 t152, .int .i64 t153, .int .i64 t154, .int .i64 t155]), (15, .agg #[.int .i64 t156, .int .i64 t157, .int .i64 t158, .int .i64 t159]), (16, .tuple #[.agg #[.int .i64 t160, .int .i64 t161, .int .i64 t162], .agg #[.int .i64 t163, .int .i64 t164, .int .i64 t165], .bool t166]), (5, .pointer (some ⟨s_.1, 0, none⟩)), (6, .pointer (some ⟨s_.2, 0, none⟩)), (11, .tuple #[.agg #[.int .i64 t160, .int .i64 t161, .int .i64 t162], .agg #[.int .i64 t163, .int .i64 t164, .int .i64 t165], .bool t166]), (17, .agg #[.int .i64 t160, .int .i64 t161, .int .i64 t162]), (18, .agg #[.int .i64 t163, .int .i64 t164, .int .i64 t165]), (19, .bool t166)]) (fun s_ w' => (w'.cell? ⟨gb150, 0, none⟩ = some (.int .i64 a0_0) ∧ w'.cell? ⟨gb150, 1, none⟩ = some (.int .i64 a0_1) ∧ w'.cell? ⟨gb150, 2, none⟩ = some (.int .i64 a0_2) ∧ w'.cell? ⟨gb150, 3, none⟩ = some (.int .i64 a0_3) ∧ w'.cell? ⟨gb151, 0, none⟩ = some (.int .i64 a1_0) ∧ w'.cell? ⟨gb151, 1, none⟩ = some (.int .i64 a1_1) ∧ w'.cell? ⟨gb151, 2, none⟩ = some (.int .i64 a1_2) ∧ w'.cell? ⟨gb151, 3, none⟩ = some (.int .i64 a1_3)) ∧ (w'.heap[gb150]? = some (.cells #[.int .i64 a0_0, .int .i64 a0_1, .int .i64 a0_2, .int .i64 a0_3] 30 (0, 0))) ∧ (w'.heap[gb151]? = some (.cells #[.int .i64 a1_0, .int .i64 a1_1, .int .i64 a1_2, .int .i64 a1_3] 30 (0, 0))) ∧ (w'.heap[s_.1]? = some (.cells #[.int .i64 0, .int .i64 0, .int .i64 0] 24 (0, 0))) ∧ (w'.heap[s_.2]? = some (.cells #[.int .i64 0, .int .i64 0, .int .i64 0] 24 (0, 0))) ∧ (w.heap.size ≤ s_.1) ∧ (w.heap.size ≤ s_.1) ∧ (gb150 ≠ s_.1) ∧ (s_.1 ≠ gb150) ∧ (gb151 ≠ s_.1) ∧ (s_.1 ≠ gb151) ∧ (s_.2 ≠ s_.1) ∧ (s_.1 ≠ s_.2) ∧ (w.heap.size ≤ s_.2) ∧ (w.heap.size ≤ s_.2) ∧ (gb150 ≠ s_.2) ∧ (s_.2 ≠ gb150) ∧ (gb151 ≠ s_.2) ∧ (s_.2 ≠ gb151) ∧ (Below w.heap.size w w')) ?_ ?_
 rotate_left
 ·
  intro hJ1_3_4_9_10
  refine join_ (σ := Nat) 4 #[true, true, true, true, true, true, true, true, true, true, false, false, false, false] (fun s_ => [(13, .agg #[.int .i64 t152, .int .i64 t153, .int .i64 t154, .int .i64 t155]), (15, .agg #[.int .i64 t156, .int .i64 t157, .int .i64 t158, .int .i64 t159]), (16, .tuple #[.agg #[.int .i64 t160, .int .i64 t161, .int .i64 t162], .agg #[.int .i64 t163, .int .i64 t164, .int .i64 t165], .bool t166]), (5, .pointer (some ⟨s_, 0, none⟩)), (11, .tuple #[.agg #[.int .i64 t160, .int .i64 t161, .int .i64 t162], .agg #[.int .i64 t163, .int .i64 t164, .int .i64 t165], .bool t166]), (17, .agg #[.int .i64 t160, .int .i64 t161, .int .i64 t162]), (18, .agg #[.int .i64 t163, .int .i64 t164, .int .i64 t165]), (19, .bool t166)]) (fun s_ w' => (w'.cell? ⟨gb150, 0, none⟩ = some (.int .i64 a0_0) ∧ w'.cell? ⟨gb150, 1, none⟩ = some (.int .i64 a0_1) ∧ w'.cell? ⟨gb150, 2, none⟩ = some (.int .i64 a0_2) ∧ w'.cell? ⟨gb150, 3, none⟩ = some (.int .i64 a0_3) ∧ w'.cell? ⟨gb151, 0, none⟩ = some (.int .i64 a1_0) ∧ w'.cell? ⟨gb151, 1, none⟩ = some (.int .i64 a1_1) ∧ w'.cell? ⟨gb151, 2, none⟩ = some (.int .i64 a1_2) ∧ w'.cell? ⟨gb151, 3, none⟩ = some (.int .i64 a1_3)) ∧ (w'.heap[gb150]? = some (.cells #[.int .i64 a0_0, .int .i64 a0_1, .int .i64 a0_2, .int .i64 a0_3] 30 (0, 0))) ∧ (w'.heap[gb151]? = some (.cells #[.int .i64 a1_0, .int .i64 a1_1, .int .i64 a1_2, .int .i64 a1_3] 30 (0, 0))) ∧ (w'.heap[s_]? = some (.cells #[.int .i64 0, .int .i64 0, .int .i64 0] 24 (0, 0))) ∧ (w.heap.size ≤ s_) ∧ (w.heap.size ≤ s_) ∧ (gb150 ≠ s_) ∧ (s_ ≠ gb150) ∧ (gb151 ≠ s_) ∧ (s_ ≠ gb151) ∧ (Below w.heap.size w w')) ?_ ?_
  rotate_left
  ·
   intro hJ1_3_4_9
   refine join_ (σ := Nat) 4 #[true, true, true, true, true, true, true, true, true, false, true, false, false, false] (fun s_ => [(13, .agg #[.int .i64 t152, .int .i64 t153, .int .i64 t154, .int .i64 t155]), (15, .agg #[.int .i64 t156, .int .i64 t157, .int .i64 t158, .int .i64 t159]), (16, .tuple #[.agg #[.int .i64 t160, .int .i64 t161, .int .i64 t162], .agg #[.int .i64 t163, .int .i64 t164, .int .i64 t165], .bool t166]), (6, .pointer (some ⟨s_, 0, none⟩)), (11, .tuple #[.agg #[.int .i64 t160, .int .i64 t161, .int .i64 t162], .agg #[.int .i64 t163, .int .i64 t164, .int .i64 t165], .bool t166]), (17, .agg #[.int .i64 t160, .int .i64 t161, .int .i64 t162]), (18, .agg #[.int .i64 t163, .int .i64 t164, .int .i64 t165]), (19, .bool t166)]) (fun s_ w' => (w'.cell? ⟨gb150, 0, none⟩ = some (.int .i64 a0_0) ∧ w'.cell? ⟨gb150, 1, none⟩ = some (.int .i64 a0_1) ∧ w'.cell? ⟨gb150, 2, none⟩ = some (.int .i64 a0_2) ∧ w'.cell? ⟨gb150, 3, none⟩ = some (.int .i64 a0_3) ∧ w'.cell? ⟨gb151, 0, none⟩ = some (.int .i64 a1_0) ∧ w'.cell? ⟨gb151, 1, none⟩ = some (.int .i64 a1_1) ∧ w'.cell? ⟨gb151, 2, none⟩ = some (.int .i64 a1_2) ∧ w'.cell? ⟨gb151, 3, none⟩ = some (.int .i64 a1_3)) ∧ (w'.heap[gb150]? = some (.cells #[.int .i64 a0_0, .int .i64 a0_1, .int .i64 a0_2, .int .i64 a0_3] 30 (0, 0))) ∧ (w'.heap[gb151]? = some (.cells #[.int .i64 a1_0, .int .i64 a1_1, .int .i64 a1_2, .int .i64 a1_3] 30 (0, 0))) ∧ (w'.heap[s_]? = some (.cells #[.int .i64 0, .int .i64 0, .int .i64 0] 24 (0, 0))) ∧ (w.heap.size ≤ s_) ∧ (w.heap.size ≤ s_) ∧ (gb150 ≠ s_) ∧ (s_ ≠ gb150) ∧ (gb151 ≠ s_) ∧ (s_ ≠ gb151) ∧ (Below w.heap.size w w')) ?_ ?_
   rotate_left
   ·
    intro hJ1_3_4_10
    refine join_ (σ := Nat × Nat) 8 #[true, true, true, true, false, false, false, false, false, true, true, false, false, false] (fun s_ => [(13, .agg #[.int .i64 t152, .int .i64 t153, .int .i64 t154, .int .i64 t155]), (15, .agg #[.int .i64 t156, .int .i64 t157, .int .i64 t158, .int .i64 t159]), (5, .pointer (some ⟨s_.1, 0, none⟩)), (6, .pointer (some ⟨s_.2, 0, none⟩))]) (fun s_ w' => (w'.cell? ⟨gb150, 0, none⟩ = some (.int .i64 a0_0) ∧ w'.cell? ⟨gb150, 1, none⟩ = some (.int .i64 a0_1) ∧ w'.cell? ⟨gb150, 2, none⟩ = some (.int .i64 a0_2) ∧ w'.cell? ⟨gb150, 3, none⟩ = some (.int .i64 a0_3) ∧ w'.cell? ⟨gb151, 0, none⟩ = some (.int .i64 a1_0) ∧ w'.cell? ⟨gb151, 1, none⟩ = some (.int .i64 a1_1) ∧ w'.cell? ⟨gb151, 2, none⟩ = some (.int .i64 a1_2) ∧ w'.cell? ⟨gb151, 3, none⟩ = some (.int .i64 a1_3)) ∧ (w'.heap[gb150]? = some (.cells #[.int .i64 a0_0, .int .i64 a0_1, .int .i64 a0_2, .int .i64 a0_3] 30 (0, 0))) ∧ (w'.heap[gb151]? = some (.cells #[.int .i64 a1_0, .int .i64 a1_1, .int .i64 a1_2, .int .i64 a1_3] 30 (0, 0))) ∧ (w'.heap[s_.1]? = some (.cells #[.int .i64 0, .int .i64 0, .int .i64 0] 24 (0, 0))) ∧ (w'.heap[s_.2]? = some (.cells #[.int .i64 0, .int .i64 0, .int .i64 0] 24 (0, 0))) ∧ (w.heap.size ≤ s_.1) ∧ (w.heap.size ≤ s_.1) ∧ (gb150 ≠ s_.1) ∧ (s_.1 ≠ gb150) ∧ (gb151 ≠ s_.1) ∧ (s_.1 ≠ gb151) ∧ (s_.2 ≠ s_.1) ∧ (s_.1 ≠ s_.2) ∧ (w.heap.size ≤ s_.2) ∧ (w.heap.size ≤ s_.2) ∧ (gb150 ≠ s_.2) ∧ (s_.2 ≠ gb150) ∧ (gb151 ≠ s_.2) ∧ (s_.2 ≠ gb151) ∧ (Below w.heap.size w w')) ?_ ?_
    rotate_left
    ·
     intro hJ1_3_9_10
     refine join_ (σ := Unit) 5 #[true, true, true, true, true, true, true, true, true, false, false, false, false, false] (fun s_ => [(13, .agg #[.int .i64 t152, .int .i64 t153, .int .i64 t154, .int .i64 t155]), (15, .agg #[.int .i64 t156, .int .i64 t157, .int .i64 t158, .int .i64 t159]), (16, .tuple #[.agg #[.int .i64 t160, .int .i64 t161, .int .i64 t162], .agg #[.int .i64 t163, .int .i64 t164, .int .i64 t165], .bool t166]), (11, .tuple #[.agg #[.int .i64 t160, .int .i64 t161, .int .i64 t162], .agg #[.int .i64 t163, .int .i64 t164, .int .i64 t165], .bool t166]), (17, .agg #[.int .i64 t160, .int .i64 t161, .int .i64 t162]), (18, .agg #[.int .i64 t163, .int .i64 t164, .int .i64 t165]), (19, .bool t166)]) (fun s_ w' => (w'.cell? ⟨gb150, 0, none⟩ = some (.int .i64 a0_0) ∧ w'.cell? ⟨gb150, 1, none⟩ = some (.int .i64 a0_1) ∧ w'.cell? ⟨gb150, 2, none⟩ = some (.int .i64 a0_2) ∧ w'.cell? ⟨gb150, 3, none⟩ = some (.int .i64 a0_3) ∧ w'.cell? ⟨gb151, 0, none⟩ = some (.int .i64 a1_0) ∧ w'.cell? ⟨gb151, 1, none⟩ = some (.int .i64 a1_1) ∧ w'.cell? ⟨gb151, 2, none⟩ = some (.int .i64 a1_2) ∧ w'.cell? ⟨gb151, 3, none⟩ = some (.int .i64 a1_3)) ∧ (w'.heap[gb150]? = some (.cells #[.int .i64 a0_0, .int .i64 a0_1, .int .i64 a0_2, .int .i64 a0_3] 30 (0, 0))) ∧ (w'.heap[gb151]? = some (.cells #[.int .i64 a1_0, .int .i64 a1_1, .int .i64 a1_2, .int .i64 a1_3] 30 (0, 0))) ∧ (Below w.heap.size w w')) ?_ ?_
     rotate_left
     ·
      intro hJ1_3_4
      refine join_ (σ := Nat) 9 #[true, true, true, true, false, false, false, false, false, true, false, false, false, false] (fun s_ => [(13, .agg #[.int .i64 t152, .int .i64 t153, .int .i64 t154, .int .i64 t155]), (15, .agg #[.int .i64 t156, .int .i64 t157, .int .i64 t158, .int .i64 t159]), (5, .pointer (some ⟨s_, 0, none⟩))]) (fun s_ w' => (w'.cell? ⟨gb150, 0, none⟩ = some (.int .i64 a0_0) ∧ w'.cell? ⟨gb150, 1, none⟩ = some (.int .i64 a0_1) ∧ w'.cell? ⟨gb150, 2, none⟩ = some (.int .i64 a0_2) ∧ w'.cell? ⟨gb150, 3, none⟩ = some (.int .i64 a0_3) ∧ w'.cell? ⟨gb151, 0, none⟩ = some (.int .i64 a1_0) ∧ w'.cell? ⟨gb151, 1, none⟩ = some (.int .i64 a1_1) ∧ w'.cell? ⟨gb151, 2, none⟩ = some (.int .i64 a1_2) ∧ w'.cell? ⟨gb151, 3, none⟩ = some (.int .i64 a1_3)) ∧ (w'.heap[gb150]? = some (.cells #[.int .i64 a0_0, .int .i64 a0_1, .int .i64 a0_2, .int .i64 a0_3] 30 (0, 0))) ∧ (w'.heap[gb151]? = some (.cells #[.int .i64 a1_0, .int .i64 a1_1, .int .i64 a1_2, .int .i64 a1_3] 30 (0, 0))) ∧ (w'.heap[s_]? = some (.cells #[.int .i64 0, .int .i64 0, .int .i64 0] 24 (0, 0))) ∧ (w.heap.size ≤ s_) ∧ (w.heap.size ≤ s_) ∧ (gb150 ≠ s_) ∧ (s_ ≠ gb150) ∧ (gb151 ≠ s_) ∧ (s_ ≠ gb151) ∧ (Below w.heap.size w w')) ?_ ?_
      rotate_left
      ·
       intro hJ1_3_9
       refine join_ (σ := Nat) 9 #[true, true, true, true, false, false, false, false, false, false, true, false, false, false] (fun s_ => [(13, .agg #[.int .i64 t152, .int .i64 t153, .int .i64 t154, .int .i64 t155]), (15, .agg #[.int .i64 t156, .int .i64 t157, .int .i64 t158, .int .i64 t159]), (6, .pointer (some ⟨s_, 0, none⟩))]) (fun s_ w' => (w'.cell? ⟨gb150, 0, none⟩ = some (.int .i64 a0_0) ∧ w'.cell? ⟨gb150, 1, none⟩ = some (.int .i64 a0_1) ∧ w'.cell? ⟨gb150, 2, none⟩ = some (.int .i64 a0_2) ∧ w'.cell? ⟨gb150, 3, none⟩ = some (.int .i64 a0_3) ∧ w'.cell? ⟨gb151, 0, none⟩ = some (.int .i64 a1_0) ∧ w'.cell? ⟨gb151, 1, none⟩ = some (.int .i64 a1_1) ∧ w'.cell? ⟨gb151, 2, none⟩ = some (.int .i64 a1_2) ∧ w'.cell? ⟨gb151, 3, none⟩ = some (.int .i64 a1_3)) ∧ (w'.heap[gb150]? = some (.cells #[.int .i64 a0_0, .int .i64 a0_1, .int .i64 a0_2, .int .i64 a0_3] 30 (0, 0))) ∧ (w'.heap[gb151]? = some (.cells #[.int .i64 a1_0, .int .i64 a1_1, .int .i64 a1_2, .int .i64 a1_3] 30 (0, 0))) ∧ (w'.heap[s_]? = some (.cells #[.int .i64 0, .int .i64 0, .int .i64 0] 24 (0, 0))) ∧ (w.heap.size ≤ s_) ∧ (w.heap.size ≤ s_) ∧ (gb150 ≠ s_) ∧ (s_ ≠ gb150) ∧ (gb151 ≠ s_) ∧ (s_ ≠ gb151) ∧ (Below w.heap.size w w')) ?_ ?_
       rotate_left
       ·
        intro hJ1_3_10
        refine join_ (σ := Nat × Nat) 9 #[true, true, true, false, false, false, false, false, false, true, true, false, false, false] (fun s_ => [(13, .agg #[.int .i64 t152, .int .i64 t153, .int .i64 t154, .int .i64 t155]), (5, .pointer (some ⟨s_.1, 0, none⟩)), (6, .pointer (some ⟨s_.2, 0, none⟩))]) (fun s_ w' => (w'.cell? ⟨gb150, 0, none⟩ = some (.int .i64 a0_0) ∧ w'.cell? ⟨gb150, 1, none⟩ = some (.int .i64 a0_1) ∧ w'.cell? ⟨gb150, 2, none⟩ = some (.int .i64 a0_2) ∧ w'.cell? ⟨gb150, 3, none⟩ = some (.int .i64 a0_3) ∧ w'.cell? ⟨gb151, 0, none⟩ = some (.int .i64 a1_0) ∧ w'.cell? ⟨gb151, 1, none⟩ = some (.int .i64 a1_1) ∧ w'.cell? ⟨gb151, 2, none⟩ = some (.int .i64 a1_2) ∧ w'.cell? ⟨gb151, 3, none⟩ = some (.int .i64 a1_3)) ∧ (w'.heap[gb150]? = some (.cells #[.int .i64 a0_0, .int .i64 a0_1, .int .i64 a0_2, .int .i64 a0_3] 30 (0, 0))) ∧ (w'.heap[gb151]? = some (.cells #[.int .i64 a1_0, .int .i64 a1_1, .int .i64 a1_2, .int .i64 a1_3] 30 (0, 0))) ∧ (w'.heap[s_.1]? = some (.cells #[.int .i64 0, .int .i64 0, .int .i64 0] 24 (0, 0))) ∧ (w'.heap[s_.2]? = some (.cells #[.int .i64 0, .int .i64 0, .int .i64 0] 24 (0, 0))) ∧ (w.heap.size ≤ s_.1) ∧ (w.heap.size ≤ s_.1) ∧ (gb150 ≠ s_.1) ∧ (s_.1 ≠ gb150) ∧ (gb151 ≠ s_.1) ∧ (s_.1 ≠ gb151) ∧ (s_.2 ≠ s_.1) ∧ (s_.1 ≠ s_.2) ∧ (w.heap.size ≤ s_.2) ∧ (w.heap.size ≤ s_.2) ∧ (gb150 ≠ s_.2) ∧ (s_.2 ≠ gb150) ∧ (gb151 ≠ s_.2) ∧ (s_.2 ≠ gb151) ∧ (Below w.heap.size w w')) ?_ ?_
        rotate_left
        ·
         intro hJ1_9_10
         refine join_ (σ := Unit) 10 #[true, true, true, true, false, false, false, false, false, false, false, false, false, false] (fun s_ => [(13, .agg #[.int .i64 t152, .int .i64 t153, .int .i64 t154, .int .i64 t155]), (15, .agg #[.int .i64 t156, .int .i64 t157, .int .i64 t158, .int .i64 t159])]) (fun s_ w' => (w'.cell? ⟨gb150, 0, none⟩ = some (.int .i64 a0_0) ∧ w'.cell? ⟨gb150, 1, none⟩ = some (.int .i64 a0_1) ∧ w'.cell? ⟨gb150, 2, none⟩ = some (.int .i64 a0_2) ∧ w'.cell? ⟨gb150, 3, none⟩ = some (.int .i64 a0_3) ∧ w'.cell? ⟨gb151, 0, none⟩ = some (.int .i64 a1_0) ∧ w'.cell? ⟨gb151, 1, none⟩ = some (.int .i64 a1_1) ∧ w'.cell? ⟨gb151, 2, none⟩ = some (.int .i64 a1_2) ∧ w'.cell? ⟨gb151, 3, none⟩ = some (.int .i64 a1_3)) ∧ (w'.heap[gb150]? = some (.cells #[.int .i64 a0_0, .int .i64 a0_1, .int .i64 a0_2, .int .i64 a0_3] 30 (0, 0))) ∧ (w'.heap[gb151]? = some (.cells #[.int .i64 a1_0, .int .i64 a1_1, .int .i64 a1_2, .int .i64 a1_3] 30 (0, 0))) ∧ (Below w.heap.size w w')) ?_ ?_
         rotate_left
         ·
          intro hJ1_3
          refine join_ (σ := Nat) 10 #[true, true, true, false, false, false, false, false, false, true, false, false, false, false] (fun s_ => [(13, .agg #[.int .i64 t152, .int .i64 t153, .int .i64 t154, .int .i64 t155]), (5, .pointer (some ⟨s_, 0, none⟩))]) (fun s_ w' => (w'.cell? ⟨gb150, 0, none⟩ = some (.int .i64 a0_0) ∧ w'.cell? ⟨gb150, 1, none⟩ = some (.int .i64 a0_1) ∧ w'.cell? ⟨gb150, 2, none⟩ = some (.int .i64 a0_2) ∧ w'.cell? ⟨gb150, 3, none⟩ = some (.int .i64 a0_3) ∧ w'.cell? ⟨gb151, 0, none⟩ = some (.int .i64 a1_0) ∧ w'.cell? ⟨gb151, 1, none⟩ = some (.int .i64 a1_1) ∧ w'.cell? ⟨gb151, 2, none⟩ = some (.int .i64 a1_2) ∧ w'.cell? ⟨gb151, 3, none⟩ = some (.int .i64 a1_3)) ∧ (w'.heap[gb150]? = some (.cells #[.int .i64 a0_0, .int .i64 a0_1, .int .i64 a0_2, .int .i64 a0_3] 30 (0, 0))) ∧ (w'.heap[gb151]? = some (.cells #[.int .i64 a1_0, .int .i64 a1_1, .int .i64 a1_2, .int .i64 a1_3] 30 (0, 0))) ∧ (w'.heap[s_]? = some (.cells #[.int .i64 0, .int .i64 0, .int .i64 0] 24 (0, 0))) ∧ (w.heap.size ≤ s_) ∧ (w.heap.size ≤ s_) ∧ (gb150 ≠ s_) ∧ (s_ ≠ gb150) ∧ (gb151 ≠ s_) ∧ (s_ ≠ gb151) ∧ (Below w.heap.size w w')) ?_ ?_
          rotate_left
          ·
           intro hJ1_9
           refine join_ (σ := Nat) 10 #[true, true, true, false, false, false, false, false, false, false, true, false, false, false] (fun s_ => [(13, .agg #[.int .i64 t152, .int .i64 t153, .int .i64 t154, .int .i64 t155]), (6, .pointer (some ⟨s_, 0, none⟩))]) (fun s_ w' => (w'.cell? ⟨gb150, 0, none⟩ = some (.int .i64 a0_0) ∧ w'.cell? ⟨gb150, 1, none⟩ = some (.int .i64 a0_1) ∧ w'.cell? ⟨gb150, 2, none⟩ = some (.int .i64 a0_2) ∧ w'.cell? ⟨gb150, 3, none⟩ = some (.int .i64 a0_3) ∧ w'.cell? ⟨gb151, 0, none⟩ = some (.int .i64 a1_0) ∧ w'.cell? ⟨gb151, 1, none⟩ = some (.int .i64 a1_1) ∧ w'.cell? ⟨gb151, 2, none⟩ = some (.int .i64 a1_2) ∧ w'.cell? ⟨gb151, 3, none⟩ = some (.int .i64 a1_3)) ∧ (w'.heap[gb150]? = some (.cells #[.int .i64 a0_0, .int .i64 a0_1, .int .i64 a0_2, .int .i64 a0_3] 30 (0, 0))) ∧ (w'.heap[gb151]? = some (.cells #[.int .i64 a1_0, .int .i64 a1_1, .int .i64 a1_2, .int .i64 a1_3] 30 (0, 0))) ∧ (w'.heap[s_]? = some (.cells #[.int .i64 0, .int .i64 0, .int .i64 0] 24 (0, 0))) ∧ (w.heap.size ≤ s_) ∧ (w.heap.size ≤ s_) ∧ (gb150 ≠ s_) ∧ (s_ ≠ gb150) ∧ (gb151 ≠ s_) ∧ (s_ ≠ gb151) ∧ (Below w.heap.size w w')) ?_ ?_
           rotate_left
           ·
            intro hJ1_10
            refine join_ (σ := Nat × Nat) 10 #[true, false, true, false, false, false, false, false, false, true, true, false, false, false] (fun s_ => [(5, .pointer (some ⟨s_.1, 0, none⟩)), (6, .pointer (some ⟨s_.2, 0, none⟩))]) (fun s_ w' => (w'.cell? ⟨gb150, 0, none⟩ = some (.int .i64 a0_0) ∧ w'.cell? ⟨gb150, 1, none⟩ = some (.int .i64 a0_1) ∧ w'.cell? ⟨gb150, 2, none⟩ = some (.int .i64 a0_2) ∧ w'.cell? ⟨gb150, 3, none⟩ = some (.int .i64 a0_3) ∧ w'.cell? ⟨gb151, 0, none⟩ = some (.int .i64 a1_0) ∧ w'.cell? ⟨gb151, 1, none⟩ = some (.int .i64 a1_1) ∧ w'.cell? ⟨gb151, 2, none⟩ = some (.int .i64 a1_2) ∧ w'.cell? ⟨gb151, 3, none⟩ = some (.int .i64 a1_3)) ∧ (w'.heap[gb150]? = some (.cells #[.int .i64 a0_0, .int .i64 a0_1, .int .i64 a0_2, .int .i64 a0_3] 30 (0, 0))) ∧ (w'.heap[gb151]? = some (.cells #[.int .i64 a1_0, .int .i64 a1_1, .int .i64 a1_2, .int .i64 a1_3] 30 (0, 0))) ∧ (w'.heap[s_.1]? = some (.cells #[.int .i64 0, .int .i64 0, .int .i64 0] 24 (0, 0))) ∧ (w'.heap[s_.2]? = some (.cells #[.int .i64 0, .int .i64 0, .int .i64 0] 24 (0, 0))) ∧ (w.heap.size ≤ s_.1) ∧ (w.heap.size ≤ s_.1) ∧ (gb150 ≠ s_.1) ∧ (s_.1 ≠ gb150) ∧ (gb151 ≠ s_.1) ∧ (s_.1 ≠ gb151) ∧ (s_.2 ≠ s_.1) ∧ (s_.1 ≠ s_.2) ∧ (w.heap.size ≤ s_.2) ∧ (w.heap.size ≤ s_.2) ∧ (gb150 ≠ s_.2) ∧ (s_.2 ≠ gb150) ∧ (gb151 ≠ s_.2) ∧ (s_.2 ≠ gb151) ∧ (Below w.heap.size w w')) ?_ ?_
            rotate_left
            ·
             intro hJ9_10
             refine join_ (σ := Unit) 11 #[true, true, true, false, false, false, false, false, false, false, false, false, false, false] (fun s_ => [(13, .agg #[.int .i64 t152, .int .i64 t153, .int .i64 t154, .int .i64 t155])]) (fun s_ w' => (w'.cell? ⟨gb150, 0, none⟩ = some (.int .i64 a0_0) ∧ w'.cell? ⟨gb150, 1, none⟩ = some (.int .i64 a0_1) ∧ w'.cell? ⟨gb150, 2, none⟩ = some (.int .i64 a0_2) ∧ w'.cell? ⟨gb150, 3, none⟩ = some (.int .i64 a0_3) ∧ w'.cell? ⟨gb151, 0, none⟩ = some (.int .i64 a1_0) ∧ w'.cell? ⟨gb151, 1, none⟩ = some (.int .i64 a1_1) ∧ w'.cell? ⟨gb151, 2, none⟩ = some (.int .i64 a1_2) ∧ w'.cell? ⟨gb151, 3, none⟩ = some (.int .i64 a1_3)) ∧ (w'.heap[gb150]? = some (.cells #[.int .i64 a0_0, .int .i64 a0_1, .int .i64 a0_2, .int .i64 a0_3] 30 (0, 0))) ∧ (w'.heap[gb151]? = some (.cells #[.int .i64 a1_0, .int .i64 a1_1, .int .i64 a1_2, .int .i64 a1_3] 30 (0, 0))) ∧ (Below w.heap.size w w')) ?_ ?_
             rotate_left
             ·
              intro hJ1
              refine join_ (σ := Nat) 11 #[true, false, true, false, false, false, false, false, false, true, false, false, false, false] (fun s_ => [(5, .pointer (some ⟨s_, 0, none⟩))]) (fun s_ w' => (w'.cell? ⟨gb150, 0, none⟩ = some (.int .i64 a0_0) ∧ w'.cell? ⟨gb150, 1, none⟩ = some (.int .i64 a0_1) ∧ w'.cell? ⟨gb150, 2, none⟩ = some (.int .i64 a0_2) ∧ w'.cell? ⟨gb150, 3, none⟩ = some (.int .i64 a0_3) ∧ w'.cell? ⟨gb151, 0, none⟩ = some (.int .i64 a1_0) ∧ w'.cell? ⟨gb151, 1, none⟩ = some (.int .i64 a1_1) ∧ w'.cell? ⟨gb151, 2, none⟩ = some (.int .i64 a1_2) ∧ w'.cell? ⟨gb151, 3, none⟩ = some (.int .i64 a1_3)) ∧ (w'.heap[gb150]? = some (.cells #[.int .i64 a0_0, .int .i64 a0_1, .int .i64 a0_2, .int .i64 a0_3] 30 (0, 0))) ∧ (w'.heap[gb151]? = some (.cells #[.int .i64 a1_0, .int .i64 a1_1, .int .i64 a1_2, .int .i64 a1_3] 30 (0, 0))) ∧ (w'.heap[s_]? = some (.cells #[.int .i64 0, .int .i64 0, .int .i64 0] 24 (0, 0))) ∧ (w.heap.size ≤ s_) ∧ (w.heap.size ≤ s_) ∧ (gb150 ≠ s_) ∧ (s_ ≠ gb150) ∧ (gb151 ≠ s_) ∧ (s_ ≠ gb151) ∧ (Below w.heap.size w w')) ?_ ?_
              rotate_left
              ·
               intro hJ9
               refine join_ (σ := Nat) 11 #[true, false, true, false, false, false, false, false, false, false, true, false, false, false] (fun s_ => [(6, .pointer (some ⟨s_, 0, none⟩))]) (fun s_ w' => (w'.cell? ⟨gb150, 0, none⟩ = some (.int .i64 a0_0) ∧ w'.cell? ⟨gb150, 1, none⟩ = some (.int .i64 a0_1) ∧ w'.cell? ⟨gb150, 2, none⟩ = some (.int .i64 a0_2) ∧ w'.cell? ⟨gb150, 3, none⟩ = some (.int .i64 a0_3) ∧ w'.cell? ⟨gb151, 0, none⟩ = some (.int .i64 a1_0) ∧ w'.cell? ⟨gb151, 1, none⟩ = some (.int .i64 a1_1) ∧ w'.cell? ⟨gb151, 2, none⟩ = some (.int .i64 a1_2) ∧ w'.cell? ⟨gb151, 3, none⟩ = some (.int .i64 a1_3)) ∧ (w'.heap[gb150]? = some (.cells #[.int .i64 a0_0, .int .i64 a0_1, .int .i64 a0_2, .int .i64 a0_3] 30 (0, 0))) ∧ (w'.heap[gb151]? = some (.cells #[.int .i64 a1_0, .int .i64 a1_1, .int .i64 a1_2, .int .i64 a1_3] 30 (0, 0))) ∧ (w'.heap[s_]? = some (.cells #[.int .i64 0, .int .i64 0, .int .i64 0] 24 (0, 0))) ∧ (w.heap.size ≤ s_) ∧ (w.heap.size ≤ s_) ∧ (gb150 ≠ s_) ∧ (s_ ≠ gb150) ∧ (gb151 ≠ s_) ∧ (s_ ≠ gb151) ∧ (Below w.heap.size w w')) ?_ ?_
               rotate_left
               ·
                intro hJ10
                refine three_ (i := 1) (j := 9) (k := 10) (Ni := some 13) (Nj := some 5) (Nk := some 6) #[true, true, true, false, false, false, false, false, false, false, false, false, false, false] #[true, false, true, false, false, false, false, false, false, true, false, false, false, false] #[true, false, true, false, false, false, false, false, false, false, true, false, false, false] rfl rfl rfl rfl rfl rfl (three_of HT_.out (by kernel_rfl)) (by decide) (by decide) (by decide) (fun K hK => ?_) (fun K hK => ?_) (fun K hK => ?_)
                ·
                 skip
                 refine goes_ Try.func18 (by kernel_rfl) rfl #[.agg #[.int .i64 a0_0, .int .i64 a0_1, .int .i64 a0_2, .int .i64 a0_3]] (by rfl) rfl rfl (by (try simp only [List.map_toArray, List.map_cons, List.map_nil]); first | done | rfl | (simp only [List.length_drop, List.length_take]; rfl)) ?_
                 with_reducible refine (laws_toPose.calls a0_0 a0_1 a0_2 a0_3 t152 t153 t154 t155 _ A3.out).mono ?_
                 rintro e w13 ⟨rfl, hb⟩
                 refine ⟨_, rfl, ?_⟩
                 replace BK150 := Aside0.mk (blk_below BK150.out hb)
                 replace BK151 := Aside0.mk (blk_below BK151.out hb)
                 replace HB := Aside0.mk (below_step HB.out hb)
                 (try clear hb)
                 (try clear hb2)
                 (try clear hk)
                 (try clear hi)
                 refine hK.out _ _ ⟨(blk_cell BK150.out 0).trans rfl, (blk_cell BK150.out 1).trans rfl, (blk_cell BK150.out 2).trans rfl, (blk_cell BK150.out 3).trans rfl, (blk_cell BK151.out 0).trans rfl, (blk_cell BK151.out 1).trans rfl, (blk_cell BK151.out 2).trans rfl, (blk_cell BK151.out 3).trans rfl⟩ (fun hHeld => ?_)
                 clear hK K
                 refine norm_ (a' := ?_) ?_ ?_
                 rotate_left
                 ·
                  show Act.put _ (some 13) _ = _
                  simp only [Act.put, List.setIfInBounds_toArray, List.set_cons_zero, List.set_cons_succ, i64_w, i32_w]
                  rfl
                 exact norm_ (by first | (simp only [putAll, Act.put, List.setIfInBounds_toArray, List.set_cons_zero, List.set_cons_succ]; done) | (simp only [putAll, Act.put, List.setIfInBounds_toArray, List.set_cons_zero, List.set_cons_succ]; rfl)) (hJ1 () _ ⟨hHeld, BK150.out, BK151.out, HB.out⟩)
                ·
                 skip
                 refine box_step ?hg (N := 5) ?hd (cs := #[.int .i64 0, .int .i64 0, .int .i64 0]) (t := 24) ?hr ?_; (case hd => rfl); (case hg => rfl); (case hr => first | (go_simp; done) | (go_simp; rfl))
                 intro gb167 hg w13 hbox hb
                 have BK167 := Aside0.mk (hbox)
                 have GW167 := Aside0.mk (laws_FnExactCourseOf.sh_le hg HB.out)
                 have GE167 := Aside0.mk (laws_FnExactCourseOf.sh_le hg HB.out)
                 have NB150_167 := Aside0.mk (laws_FnExactCourseOf.sh_lt hg BK150.out)
                 have NB167_150 := Aside0.mk (laws_FnExactCourseOf.sh_gt hg BK150.out)
                 have NB151_167 := Aside0.mk (laws_FnExactCourseOf.sh_lt hg BK151.out)
                 have NB167_151 := Aside0.mk (laws_FnExactCourseOf.sh_gt hg BK151.out)
                 replace BK150 := Aside0.mk (blk_below BK150.out hb)
                 replace BK151 := Aside0.mk (blk_below BK151.out hb)
                 replace HB := Aside0.mk (below_step HB.out hb)
                 clear hb hbox hg
                 refine hK.out _ _ ⟨(blk_cell BK150.out 0).trans rfl, (blk_cell BK150.out 1).trans rfl, (blk_cell BK150.out 2).trans rfl, (blk_cell BK150.out 3).trans rfl, (blk_cell BK151.out 0).trans rfl, (blk_cell BK151.out 1).trans rfl, (blk_cell BK151.out 2).trans rfl, (blk_cell BK151.out 3).trans rfl⟩ (fun hHeld => ?_)
                 clear hK K
                 refine norm_ (a' := ?_) ?_ ?_
                 rotate_left
                 ·
                  show Act.put _ (some 5) _ = _
                  simp only [Act.put, List.setIfInBounds_toArray, List.set_cons_zero, List.set_cons_succ, i64_w, i32_w]
                  rfl
                 exact norm_ (by first | (simp only [putAll, Act.put, List.setIfInBounds_toArray, List.set_cons_zero, List.set_cons_succ]; done) | (simp only [putAll, Act.put, List.setIfInBounds_toArray, List.set_cons_zero, List.set_cons_succ]; rfl)) (hJ9 (gb167) _ ⟨hHeld, BK150.out, BK151.out, BK167.out, GW167.out, GE167.out, NB150_167.out, NB167_150.out, NB151_167.out, NB167_151.out, HB.out⟩)
                ·
                 skip
                 refine box_step ?hg (N := 6) ?hd (cs := #[.int .i64 0, .int .i64 0, .int .i64 0]) (t := 24) ?hr ?_; (case hd => rfl); (case hg => rfl); (case hr => first | (go_simp; done) | (go_simp; rfl))
                 intro gb168 hg w13 hbox hb
                 have BK168 := Aside0.mk (hbox)
                 have GW168 := Aside0.mk (laws_FnExactCourseOf.sh_le hg HB.out)
                 have GE168 := Aside0.mk (laws_FnExactCourseOf.sh_le hg HB.out)
                 have NB150_168 := Aside0.mk (laws_FnExactCourseOf.sh_lt hg BK150.out)
                 have NB168_150 := Aside0.mk (laws_FnExactCourseOf.sh_gt hg BK150.out)
                 have NB151_168 := Aside0.mk (laws_FnExactCourseOf.sh_lt hg BK151.out)
                 have NB168_151 := Aside0.mk (laws_FnExactCourseOf.sh_gt hg BK151.out)
                 replace BK150 := Aside0.mk (blk_below BK150.out hb)
                 replace BK151 := Aside0.mk (blk_below BK151.out hb)
                 replace HB := Aside0.mk (below_step HB.out hb)
                 clear hb hbox hg
                 refine hK.out _ _ ⟨(blk_cell BK150.out 0).trans rfl, (blk_cell BK150.out 1).trans rfl, (blk_cell BK150.out 2).trans rfl, (blk_cell BK150.out 3).trans rfl, (blk_cell BK151.out 0).trans rfl, (blk_cell BK151.out 1).trans rfl, (blk_cell BK151.out 2).trans rfl, (blk_cell BK151.out 3).trans rfl⟩ (fun hHeld => ?_)
                 clear hK K
                 refine norm_ (a' := ?_) ?_ ?_
                 rotate_left
                 ·
                  show Act.put _ (some 6) _ = _
                  simp only [Act.put, List.setIfInBounds_toArray, List.set_cons_zero, List.set_cons_succ, i64_w, i32_w]
                  rfl
                 exact norm_ (by first | (simp only [putAll, Act.put, List.setIfInBounds_toArray, List.set_cons_zero, List.set_cons_succ]; done) | (simp only [putAll, Act.put, List.setIfInBounds_toArray, List.set_cons_zero, List.set_cons_succ]; rfl)) (hJ10 (gb168) _ ⟨hHeld, BK150.out, BK151.out, BK168.out, GW168.out, GE168.out, NB150_168.out, NB168_150.out, NB151_168.out, NB168_151.out, HB.out⟩)
               ·
                skip
                rintro gb168 w14 ⟨hS_, h0_, h1_, h2_, h3_, h4_, h5_, h6_, h7_, h8_, h9_⟩
                clear BK150 BK151 HB
                have BK168 := Aside0.mk h2_
                have GW168 := Aside0.mk h3_
                have GE168 := Aside0.mk h4_
                have NB150_168 := Aside0.mk h5_
                have NB168_150 := Aside0.mk h6_
                have NB151_168 := Aside0.mk h7_
                have NB168_151 := Aside0.mk h8_
                have BK150 := Aside0.mk h0_
                have BK151 := Aside0.mk h1_
                have HB := Aside0.mk h9_
                clear h0_ h1_ h2_ h3_ h4_ h5_ h6_ h7_ h8_ h9_
                have hHeld := hS_
                refine norm_ (a' := ?_) ?_ ?_
                rotate_left
                ·
                 simp only [putAll, Act.put, List.setIfInBounds_toArray, List.set_cons_zero, List.set_cons_succ]
                 rfl
                refine two_ (i := 1) (j := 9) (Ni := some 13) (Nj := some 5) #[true, true, true, false, false, false, false, false, false, false, true, false, false, false] #[true, false, true, false, false, false, false, false, false, true, true, false, false, false] rfl rfl rfl rfl (two_of HT_.out (by kernel_rfl)) (by decide) (by decide) (fun K hK => ?_) (fun K hK => ?_)
                ·
                 skip
                 refine goes_ Try.func18 (by kernel_rfl) rfl #[.agg #[.int .i64 a0_0, .int .i64 a0_1, .int .i64 a0_2, .int .i64 a0_3]] (by rfl) rfl rfl (by (try simp only [List.map_toArray, List.map_cons, List.map_nil]); first | done | rfl | (simp only [List.length_drop, List.length_take]; rfl)) ?_
                 with_reducible refine (laws_toPose.calls a0_0 a0_1 a0_2 a0_3 t152 t153 t154 t155 _ A3.out).mono ?_
                 rintro e w15 ⟨rfl, hb⟩
                 refine ⟨_, rfl, ?_⟩
                 replace BK150 := Aside0.mk (blk_below BK150.out hb)
                 replace BK151 := Aside0.mk (blk_below BK151.out hb)
                 replace BK168 := Aside0.mk (blk_below BK168.out hb)
                 replace HB := Aside0.mk (below_step HB.out hb)
                 (try clear hb)
                 (try clear hb2)
                 (try clear hk)
                 (try clear hi)
                 refine hK.out _ _ ⟨(blk_cell BK150.out 0).trans rfl, (blk_cell BK150.out 1).trans rfl, (blk_cell BK150.out 2).trans rfl, (blk_cell BK150.out 3).trans rfl, (blk_cell BK151.out 0).trans rfl, (blk_cell BK151.out 1).trans rfl, (blk_cell BK151.out 2).trans rfl, (blk_cell BK151.out 3).trans rfl⟩ (fun hHeld => ?_)
                 clear hK K
                 refine norm_ (a' := ?_) ?_ ?_
                 rotate_left
                 ·
                  show Act.put _ (some 13) _ = _
                  simp only [Act.put, List.setIfInBounds_toArray, List.set_cons_zero, List.set_cons_succ, i64_w, i32_w]
                  rfl
                 exact norm_ (by first | (simp only [putAll, Act.put, List.setIfInBounds_toArray, List.set_cons_zero, List.set_cons_succ]; done) | (simp only [putAll, Act.put, List.setIfInBounds_toArray, List.set_cons_zero, List.set_cons_succ]; rfl)) (hJ1_10 (gb168) _ ⟨hHeld, BK150.out, BK151.out, BK168.out, GW168.out, GE168.out, NB150_168.out, NB168_150.out, NB151_168.out, NB168_151.out, HB.out⟩)
                ·
                 skip
                 refine box_step ?hg (N := 5) ?hd (cs := #[.int .i64 0, .int .i64 0, .int .i64 0]) (t := 24) ?hr ?_; (case hd => rfl); (case hg => rfl); (case hr => first | (go_simp; done) | (go_simp; rfl))
                 intro gb167 hg w15 hbox hb
                 have BK167 := Aside0.mk (hbox)
                 have GW167 := Aside0.mk (laws_FnExactCourseOf.sh_le hg HB.out)
                 have GE167 := Aside0.mk (laws_FnExactCourseOf.sh_le hg HB.out)
                 have NB150_167 := Aside0.mk (laws_FnExactCourseOf.sh_lt hg BK150.out)
                 have NB167_150 := Aside0.mk (laws_FnExactCourseOf.sh_gt hg BK150.out)
                 have NB151_167 := Aside0.mk (laws_FnExactCourseOf.sh_lt hg BK151.out)
                 have NB167_151 := Aside0.mk (laws_FnExactCourseOf.sh_gt hg BK151.out)
                 have NB168_167 := Aside0.mk (laws_FnExactCourseOf.sh_lt hg BK168.out)
                 have NB167_168 := Aside0.mk (laws_FnExactCourseOf.sh_gt hg BK168.out)
                 replace BK150 := Aside0.mk (blk_below BK150.out hb)
                 replace BK151 := Aside0.mk (blk_below BK151.out hb)
                 replace BK168 := Aside0.mk (blk_below BK168.out hb)
                 replace HB := Aside0.mk (below_step HB.out hb)
                 clear hb hbox hg
                 refine hK.out _ _ ⟨(blk_cell BK150.out 0).trans rfl, (blk_cell BK150.out 1).trans rfl, (blk_cell BK150.out 2).trans rfl, (blk_cell BK150.out 3).trans rfl, (blk_cell BK151.out 0).trans rfl, (blk_cell BK151.out 1).trans rfl, (blk_cell BK151.out 2).trans rfl, (blk_cell BK151.out 3).trans rfl⟩ (fun hHeld => ?_)
                 clear hK K
                 refine norm_ (a' := ?_) ?_ ?_
                 rotate_left
                 ·
                  show Act.put _ (some 5) _ = _
                  simp only [Act.put, List.setIfInBounds_toArray, List.set_cons_zero, List.set_cons_succ, i64_w, i32_w]
                  rfl
                 exact norm_ (by first | (simp only [putAll, Act.put, List.setIfInBounds_toArray, List.set_cons_zero, List.set_cons_succ]; done) | (simp only [putAll, Act.put, List.setIfInBounds_toArray, List.set_cons_zero, List.set_cons_succ]; rfl)) (hJ9_10 (gb167, gb168) _ ⟨hHeld, BK150.out, BK151.out, BK167.out, BK168.out, GW167.out, GE167.out, NB150_167.out, NB167_150.out, NB151_167.out, NB167_151.out, NB168_167.out, NB167_168.out, GW168.out, GE168.out, NB150_168.out, NB168_150.out, NB151_168.out, NB168_151.out, HB.out⟩)
              ·
               skip
               rintro gb167 w14 ⟨hS_, h0_, h1_, h2_, h3_, h4_, h5_, h6_, h7_, h8_, h9_⟩
               clear BK150 BK151 HB
               have BK167 := Aside0.mk h2_
               have GW167 := Aside0.mk h3_
               have GE167 := Aside0.mk h4_
               have NB150_167 := Aside0.mk h5_
               have NB167_150 := Aside0.mk h6_
               have NB151_167 := Aside0.mk h7_
               have NB167_151 := Aside0.mk h8_
               have BK150 := Aside0.mk h0_
               have BK151 := Aside0.mk h1_
               have HB := Aside0.mk h9_
               clear h0_ h1_ h2_ h3_ h4_ h5_ h6_ h7_ h8_ h9_
               have hHeld := hS_
               refine norm_ (a' := ?_) ?_ ?_
               rotate_left
               ·
                simp only [putAll, Act.put, List.setIfInBounds_toArray, List.set_cons_zero, List.set_cons_succ]
                rfl
               refine two_ (i := 1) (j := 10) (Ni := some 13) (Nj := some 6) #[true, true, true, false, false, false, false, false, false, true, false, false, false, false] #[true, false, true, false, false, false, false, false, false, true, true, false, false, false] rfl rfl rfl rfl (two_of HT_.out (by kernel_rfl)) (by decide) (by decide) (fun K hK => ?_) (fun K hK => ?_)
               ·
                skip
                refine goes_ Try.func18 (by kernel_rfl) rfl #[.agg #[.int .i64 a0_0, .int .i64 a0_1, .int .i64 a0_2, .int .i64 a0_3]] (by rfl) rfl rfl (by (try simp only [List.map_toArray, List.map_cons, List.map_nil]); first | done | rfl | (simp only [List.length_drop, List.length_take]; rfl)) ?_
                with_reducible refine (laws_toPose.calls a0_0 a0_1 a0_2 a0_3 t152 t153 t154 t155 _ A3.out).mono ?_
                rintro e w15 ⟨rfl, hb⟩
                refine ⟨_, rfl, ?_⟩
                replace BK150 := Aside0.mk (blk_below BK150.out hb)
                replace BK151 := Aside0.mk (blk_below BK151.out hb)
                replace BK167 := Aside0.mk (blk_below BK167.out hb)
                replace HB := Aside0.mk (below_step HB.out hb)
                (try clear hb)
                (try clear hb2)
                (try clear hk)
                (try clear hi)
                refine hK.out _ _ ⟨(blk_cell BK150.out 0).trans rfl, (blk_cell BK150.out 1).trans rfl, (blk_cell BK150.out 2).trans rfl, (blk_cell BK150.out 3).trans rfl, (blk_cell BK151.out 0).trans rfl, (blk_cell BK151.out 1).trans rfl, (blk_cell BK151.out 2).trans rfl, (blk_cell BK151.out 3).trans rfl⟩ (fun hHeld => ?_)
                clear hK K
                refine norm_ (a' := ?_) ?_ ?_
                rotate_left
                ·
                 show Act.put _ (some 13) _ = _
                 simp only [Act.put, List.setIfInBounds_toArray, List.set_cons_zero, List.set_cons_succ, i64_w, i32_w]
                 rfl
                exact norm_ (by first | (simp only [putAll, Act.put, List.setIfInBounds_toArray, List.set_cons_zero, List.set_cons_succ]; done) | (simp only [putAll, Act.put, List.setIfInBounds_toArray, List.set_cons_zero, List.set_cons_succ]; rfl)) (hJ1_9 (gb167) _ ⟨hHeld, BK150.out, BK151.out, BK167.out, GW167.out, GE167.out, NB150_167.out, NB167_150.out, NB151_167.out, NB167_151.out, HB.out⟩)
               ·
                skip
                refine box_step ?hg (N := 6) ?hd (cs := #[.int .i64 0, .int .i64 0, .int .i64 0]) (t := 24) ?hr ?_; (case hd => rfl); (case hg => rfl); (case hr => first | (go_simp; done) | (go_simp; rfl))
                intro gb168 hg w15 hbox hb
                have BK168 := Aside0.mk (hbox)
                have GW168 := Aside0.mk (laws_FnExactCourseOf.sh_le hg HB.out)
                have GE168 := Aside0.mk (laws_FnExactCourseOf.sh_le hg HB.out)
                have NB150_168 := Aside0.mk (laws_FnExactCourseOf.sh_lt hg BK150.out)
                have NB168_150 := Aside0.mk (laws_FnExactCourseOf.sh_gt hg BK150.out)
                have NB151_168 := Aside0.mk (laws_FnExactCourseOf.sh_lt hg BK151.out)
                have NB168_151 := Aside0.mk (laws_FnExactCourseOf.sh_gt hg BK151.out)
                have NB167_168 := Aside0.mk (laws_FnExactCourseOf.sh_lt hg BK167.out)
                have NB168_167 := Aside0.mk (laws_FnExactCourseOf.sh_gt hg BK167.out)
                replace BK150 := Aside0.mk (blk_below BK150.out hb)
                replace BK151 := Aside0.mk (blk_below BK151.out hb)
                replace BK167 := Aside0.mk (blk_below BK167.out hb)
                replace HB := Aside0.mk (below_step HB.out hb)
                clear hb hbox hg
                refine hK.out _ _ ⟨(blk_cell BK150.out 0).trans rfl, (blk_cell BK150.out 1).trans rfl, (blk_cell BK150.out 2).trans rfl, (blk_cell BK150.out 3).trans rfl, (blk_cell BK151.out 0).trans rfl, (blk_cell BK151.out 1).trans rfl, (blk_cell BK151.out 2).trans rfl, (blk_cell BK151.out 3).trans rfl⟩ (fun hHeld => ?_)
                clear hK K
                refine norm_ (a' := ?_) ?_ ?_
                rotate_left
                ·
                 show Act.put _ (some 6) _ = _
                 simp only [Act.put, List.setIfInBounds_toArray, List.set_cons_zero, List.set_cons_succ, i64_w, i32_w]
                 rfl
                exact norm_ (by first | (simp only [putAll, Act.put, List.setIfInBounds_toArray, List.set_cons_zero, List.set_cons_succ]; done) | (simp only [putAll, Act.put, List.setIfInBounds_toArray, List.set_cons_zero, List.set_cons_succ]; rfl)) (hJ9_10 (gb167, gb168) _ ⟨hHeld, BK150.out, BK151.out, BK167.out, BK168.out, GW167.out, GE167.out, NB150_167.out, NB167_150.out, NB151_167.out, NB167_151.out, NB168_167.out, NB167_168.out, GW168.out, GE168.out, NB150_168.out, NB168_150.out, NB151_168.out, NB168_151.out, HB.out⟩)
             ·
              skip
              rintro _ w14 ⟨hS_, h0_, h1_, h2_⟩
              clear BK150 BK151 HB
              have BK150 := Aside0.mk h0_
              have BK151 := Aside0.mk h1_
              have HB := Aside0.mk h2_
              clear h0_ h1_ h2_
              have hHeld := hS_
              refine norm_ (a' := ?_) ?_ ?_
              rotate_left
              ·
               simp only [putAll, Act.put, List.setIfInBounds_toArray, List.set_cons_zero, List.set_cons_succ]
               rfl
              refine three_ (i := 3) (j := 9) (k := 10) (Ni := some 15) (Nj := some 5) (Nk := some 6) #[true, true, true, true, false, false, false, false, false, false, false, false, false, false] #[true, true, true, false, false, false, false, false, false, true, false, false, false, false] #[true, true, true, false, false, false, false, false, false, false, true, false, false, false] rfl rfl rfl rfl rfl rfl (three_of HT_.out (by kernel_rfl)) (by decide) (by decide) (by decide) (fun K hK => ?_) (fun K hK => ?_) (fun K hK => ?_)
              ·
               skip
               refine goes_ Try.func18 (by kernel_rfl) rfl #[.agg #[.int .i64 a1_0, .int .i64 a1_1, .int .i64 a1_2, .int .i64 a1_3]] (by rfl) rfl rfl (by (try simp only [List.map_toArray, List.map_cons, List.map_nil]); first | done | rfl | (simp only [List.length_drop, List.length_take]; rfl)) ?_
               with_reducible refine (laws_toPose.calls a1_0 a1_1 a1_2 a1_3 t156 t157 t158 t159 _ A4.out).mono ?_
               rintro e w15 ⟨rfl, hb⟩
               refine ⟨_, rfl, ?_⟩
               replace BK150 := Aside0.mk (blk_below BK150.out hb)
               replace BK151 := Aside0.mk (blk_below BK151.out hb)
               replace HB := Aside0.mk (below_step HB.out hb)
               (try clear hb)
               (try clear hb2)
               (try clear hk)
               (try clear hi)
               refine hK.out _ _ ⟨(blk_cell BK150.out 0).trans rfl, (blk_cell BK150.out 1).trans rfl, (blk_cell BK150.out 2).trans rfl, (blk_cell BK150.out 3).trans rfl, (blk_cell BK151.out 0).trans rfl, (blk_cell BK151.out 1).trans rfl, (blk_cell BK151.out 2).trans rfl, (blk_cell BK151.out 3).trans rfl⟩ (fun hHeld => ?_)
               clear hK K
               refine norm_ (a' := ?_) ?_ ?_
               rotate_left
               ·
                show Act.put _ (some 15) _ = _
                simp only [Act.put, List.setIfInBounds_toArray, List.set_cons_zero, List.set_cons_succ, i64_w, i32_w]
                rfl
               exact norm_ (by first | (simp only [putAll, Act.put, List.setIfInBounds_toArray, List.set_cons_zero, List.set_cons_succ]; done) | (simp only [putAll, Act.put, List.setIfInBounds_toArray, List.set_cons_zero, List.set_cons_succ]; rfl)) (hJ1_3 () _ ⟨hHeld, BK150.out, BK151.out, HB.out⟩)
              ·
               skip
               refine box_step ?hg (N := 5) ?hd (cs := #[.int .i64 0, .int .i64 0, .int .i64 0]) (t := 24) ?hr ?_; (case hd => rfl); (case hg => rfl); (case hr => first | (go_simp; done) | (go_simp; rfl))
               intro gb167 hg w15 hbox hb
               have BK167 := Aside0.mk (hbox)
               have GW167 := Aside0.mk (laws_FnExactCourseOf.sh_le hg HB.out)
               have GE167 := Aside0.mk (laws_FnExactCourseOf.sh_le hg HB.out)
               have NB150_167 := Aside0.mk (laws_FnExactCourseOf.sh_lt hg BK150.out)
               have NB167_150 := Aside0.mk (laws_FnExactCourseOf.sh_gt hg BK150.out)
               have NB151_167 := Aside0.mk (laws_FnExactCourseOf.sh_lt hg BK151.out)
               have NB167_151 := Aside0.mk (laws_FnExactCourseOf.sh_gt hg BK151.out)
               replace BK150 := Aside0.mk (blk_below BK150.out hb)
               replace BK151 := Aside0.mk (blk_below BK151.out hb)
               replace HB := Aside0.mk (below_step HB.out hb)
               clear hb hbox hg
               refine hK.out _ _ ⟨(blk_cell BK150.out 0).trans rfl, (blk_cell BK150.out 1).trans rfl, (blk_cell BK150.out 2).trans rfl, (blk_cell BK150.out 3).trans rfl, (blk_cell BK151.out 0).trans rfl, (blk_cell BK151.out 1).trans rfl, (blk_cell BK151.out 2).trans rfl, (blk_cell BK151.out 3).trans rfl⟩ (fun hHeld => ?_)
               clear hK K
               refine norm_ (a' := ?_) ?_ ?_
               rotate_left
               ·
                show Act.put _ (some 5) _ = _
                simp only [Act.put, List.setIfInBounds_toArray, List.set_cons_zero, List.set_cons_succ, i64_w, i32_w]
                rfl
               exact norm_ (by first | (simp only [putAll, Act.put, List.setIfInBounds_toArray, List.set_cons_zero, List.set_cons_succ]; done) | (simp only [putAll, Act.put, List.setIfInBounds_toArray, List.set_cons_zero, List.set_cons_succ]; rfl)) (hJ1_9 (gb167) _ ⟨hHeld, BK150.out, BK151.out, BK167.out, GW167.out, GE167.out, NB150_167.out, NB167_150.out, NB151_167.out, NB167_151.out, HB.out⟩)
              ·
               skip
               refine box_step ?hg (N := 6) ?hd (cs := #[.int .i64 0, .int .i64 0, .int .i64 0]) (t := 24) ?hr ?_; (case hd => rfl); (case hg => rfl); (case hr => first | (go_simp; done) | (go_simp; rfl))
               intro gb168 hg w15 hbox hb
               have BK168 := Aside0.mk (hbox)
               have GW168 := Aside0.mk (laws_FnExactCourseOf.sh_le hg HB.out)
               have GE168 := Aside0.mk (laws_FnExactCourseOf.sh_le hg HB.out)
               have NB150_168 := Aside0.mk (laws_FnExactCourseOf.sh_lt hg BK150.out)
               have NB168_150 := Aside0.mk (laws_FnExactCourseOf.sh_gt hg BK150.out)
               have NB151_168 := Aside0.mk (laws_FnExactCourseOf.sh_lt hg BK151.out)
               have NB168_151 := Aside0.mk (laws_FnExactCourseOf.sh_gt hg BK151.out)
               replace BK150 := Aside0.mk (blk_below BK150.out hb)
               replace BK151 := Aside0.mk (blk_below BK151.out hb)
               replace HB := Aside0.mk (below_step HB.out hb)
               clear hb hbox hg
               refine hK.out _ _ ⟨(blk_cell BK150.out 0).trans rfl, (blk_cell BK150.out 1).trans rfl, (blk_cell BK150.out 2).trans rfl, (blk_cell BK150.out 3).trans rfl, (blk_cell BK151.out 0).trans rfl, (blk_cell BK151.out 1).trans rfl, (blk_cell BK151.out 2).trans rfl, (blk_cell BK151.out 3).trans rfl⟩ (fun hHeld => ?_)
               clear hK K
               refine norm_ (a' := ?_) ?_ ?_
               rotate_left
               ·
                show Act.put _ (some 6) _ = _
                simp only [Act.put, List.setIfInBounds_toArray, List.set_cons_zero, List.set_cons_succ, i64_w, i32_w]
                rfl
               exact norm_ (by first | (simp only [putAll, Act.put, List.setIfInBounds_toArray, List.set_cons_zero, List.set_cons_succ]; done) | (simp only [putAll, Act.put, List.setIfInBounds_toArray, List.set_cons_zero, List.set_cons_succ]; rfl)) (hJ1_10 (gb168) _ ⟨hHeld, BK150.out, BK151.out, BK168.out, GW168.out, GE168.out, NB150_168.out, NB168_150.out, NB151_168.out, NB168_151.out, HB.out⟩)
            ·
             skip
             rintro ⟨gb167, gb168⟩ w15 ⟨hS_, h0_, h1_, h2_, h3_, h4_, h5_, h6_, h7_, h8_, h9_, h10_, h11_, h12_, h13_, h14_, h15_, h16_, h17_, h18_⟩
             clear BK150 BK151 HB
             have BK167 := Aside0.mk h2_
             have BK168 := Aside0.mk h3_
             have GW167 := Aside0.mk h4_
             have GE167 := Aside0.mk h5_
             have NB150_167 := Aside0.mk h6_
             have NB167_150 := Aside0.mk h7_
             have NB151_167 := Aside0.mk h8_
             have NB167_151 := Aside0.mk h9_
             have NB168_167 := Aside0.mk h10_
             have NB167_168 := Aside0.mk h11_
             have GW168 := Aside0.mk h12_
             have GE168 := Aside0.mk h13_
             have NB150_168 := Aside0.mk h14_
             have NB168_150 := Aside0.mk h15_
             have NB151_168 := Aside0.mk h16_
             have NB168_151 := Aside0.mk h17_
             have BK150 := Aside0.mk h0_
             have BK151 := Aside0.mk h1_
             have HB := Aside0.mk h18_
             clear h0_ h1_ h2_ h3_ h4_ h5_ h6_ h7_ h8_ h9_ h10_ h11_ h12_ h13_ h14_ h15_ h16_ h17_ h18_
             have hHeld := hS_
             refine norm_ (a' := ?_) ?_ ?_
             rotate_left
             ·
              simp only [putAll, Act.put, List.setIfInBounds_toArray, List.set_cons_zero, List.set_cons_succ]
              rfl
             refine one_ (i := 1) (N := some 13) #[true, true, true, false, false, false, false, false, false, true, true, false, false, false] rfl rfl (one_of HT_.out (by kernel_rfl)) (by decide) (fun K hK => ?_)
             refine goes_ Try.func18 (by kernel_rfl) rfl #[.agg #[.int .i64 a0_0, .int .i64 a0_1, .int .i64 a0_2, .int .i64 a0_3]] (by rfl) rfl rfl (by (try simp only [List.map_toArray, List.map_cons, List.map_nil]); first | done | rfl | (simp only [List.length_drop, List.length_take]; rfl)) ?_
             with_reducible refine (laws_toPose.calls a0_0 a0_1 a0_2 a0_3 t152 t153 t154 t155 _ A3.out).mono ?_
             rintro e w16 ⟨rfl, hb⟩
             refine ⟨_, rfl, ?_⟩
             replace BK150 := Aside0.mk (blk_below BK150.out hb)
             replace BK151 := Aside0.mk (blk_below BK151.out hb)
             replace BK167 := Aside0.mk (blk_below BK167.out hb)
             replace BK168 := Aside0.mk (blk_below BK168.out hb)
             replace HB := Aside0.mk (below_step HB.out hb)
             (try clear hb)
             (try clear hb2)
             (try clear hk)
             (try clear hi)
             refine hK.out _ _ ⟨(blk_cell BK150.out 0).trans rfl, (blk_cell BK150.out 1).trans rfl, (blk_cell BK150.out 2).trans rfl, (blk_cell BK150.out 3).trans rfl, (blk_cell BK151.out 0).trans rfl, (blk_cell BK151.out 1).trans rfl, (blk_cell BK151.out 2).trans rfl, (blk_cell BK151.out 3).trans rfl⟩ (fun hHeld => ?_)
             clear hK K
             refine norm_ (a' := ?_) ?_ ?_
             rotate_left
             ·
              show Act.put _ (some 13) _ = _
              simp only [Act.put, List.setIfInBounds_toArray, List.set_cons_zero, List.set_cons_succ, i64_w, i32_w]
              rfl
             exact norm_ (by first | (simp only [putAll, Act.put, List.setIfInBounds_toArray, List.set_cons_zero, List.set_cons_succ]; done) | (simp only [putAll, Act.put, List.setIfInBounds_toArray, List.set_cons_zero, List.set_cons_succ]; rfl)) (hJ1_9_10 (gb167, gb168) _ ⟨hHeld, BK150.out, BK151.out, BK167.out, BK168.out, GW167.out, GE167.out, NB150_167.out, NB167_150.out, NB151_167.out, NB167_151.out, NB168_167.out, NB167_168.out, GW168.out, GE168.out, NB150_168.out, NB168_150.out, NB151_168.out, NB168_151.out, HB.out⟩)
           ·
            skip
            rintro gb168 w15 ⟨hS_, h0_, h1_, h2_, h3_, h4_, h5_, h6_, h7_, h8_, h9_⟩
            clear BK150 BK151 HB
            have BK168 := Aside0.mk h2_
            have GW168 := Aside0.mk h3_
            have GE168 := Aside0.mk h4_
            have NB150_168 := Aside0.mk h5_
            have NB168_150 := Aside0.mk h6_
            have NB151_168 := Aside0.mk h7_
            have NB168_151 := Aside0.mk h8_
            have BK150 := Aside0.mk h0_
            have BK151 := Aside0.mk h1_
            have HB := Aside0.mk h9_
            clear h0_ h1_ h2_ h3_ h4_ h5_ h6_ h7_ h8_ h9_
            have hHeld := hS_
            refine norm_ (a' := ?_) ?_ ?_
            rotate_left
            ·
             simp only [putAll, Act.put, List.setIfInBounds_toArray, List.set_cons_zero, List.set_cons_succ]
             rfl
            refine two_ (i := 3) (j := 9) (Ni := some 15) (Nj := some 5) #[true, true, true, true, false, false, false, false, false, false, true, false, false, false] #[true, true, true, false, false, false, false, false, false, true, true, false, false, false] rfl rfl rfl rfl (two_of HT_.out (by kernel_rfl)) (by decide) (by decide) (fun K hK => ?_) (fun K hK => ?_)
            ·
             skip
             refine goes_ Try.func18 (by kernel_rfl) rfl #[.agg #[.int .i64 a1_0, .int .i64 a1_1, .int .i64 a1_2, .int .i64 a1_3]] (by rfl) rfl rfl (by (try simp only [List.map_toArray, List.map_cons, List.map_nil]); first | done | rfl | (simp only [List.length_drop, List.length_take]; rfl)) ?_
             with_reducible refine (laws_toPose.calls a1_0 a1_1 a1_2 a1_3 t156 t157 t158 t159 _ A4.out).mono ?_
             rintro e w16 ⟨rfl, hb⟩
             refine ⟨_, rfl, ?_⟩
             replace BK150 := Aside0.mk (blk_below BK150.out hb)
             replace BK151 := Aside0.mk (blk_below BK151.out hb)
             replace BK168 := Aside0.mk (blk_below BK168.out hb)
             replace HB := Aside0.mk (below_step HB.out hb)
             (try clear hb)
             (try clear hb2)
             (try clear hk)
             (try clear hi)
             refine hK.out _ _ ⟨(blk_cell BK150.out 0).trans rfl, (blk_cell BK150.out 1).trans rfl, (blk_cell BK150.out 2).trans rfl, (blk_cell BK150.out 3).trans rfl, (blk_cell BK151.out 0).trans rfl, (blk_cell BK151.out 1).trans rfl, (blk_cell BK151.out 2).trans rfl, (blk_cell BK151.out 3).trans rfl⟩ (fun hHeld => ?_)
             clear hK K
             refine norm_ (a' := ?_) ?_ ?_
             rotate_left
             ·
              show Act.put _ (some 15) _ = _
              simp only [Act.put, List.setIfInBounds_toArray, List.set_cons_zero, List.set_cons_succ, i64_w, i32_w]
              rfl
             exact norm_ (by first | (simp only [putAll, Act.put, List.setIfInBounds_toArray, List.set_cons_zero, List.set_cons_succ]; done) | (simp only [putAll, Act.put, List.setIfInBounds_toArray, List.set_cons_zero, List.set_cons_succ]; rfl)) (hJ1_3_10 (gb168) _ ⟨hHeld, BK150.out, BK151.out, BK168.out, GW168.out, GE168.out, NB150_168.out, NB168_150.out, NB151_168.out, NB168_151.out, HB.out⟩)
            ·
             skip
             refine box_step ?hg (N := 5) ?hd (cs := #[.int .i64 0, .int .i64 0, .int .i64 0]) (t := 24) ?hr ?_; (case hd => rfl); (case hg => rfl); (case hr => first | (go_simp; done) | (go_simp; rfl))
             intro gb167 hg w16 hbox hb
             have BK167 := Aside0.mk (hbox)
             have GW167 := Aside0.mk (laws_FnExactCourseOf.sh_le hg HB.out)
             have GE167 := Aside0.mk (laws_FnExactCourseOf.sh_le hg HB.out)
             have NB150_167 := Aside0.mk (laws_FnExactCourseOf.sh_lt hg BK150.out)
             have NB167_150 := Aside0.mk (laws_FnExactCourseOf.sh_gt hg BK150.out)
             have NB151_167 := Aside0.mk (laws_FnExactCourseOf.sh_lt hg BK151.out)
             have NB167_151 := Aside0.mk (laws_FnExactCourseOf.sh_gt hg BK151.out)
             have NB168_167 := Aside0.mk (laws_FnExactCourseOf.sh_lt hg BK168.out)
             have NB167_168 := Aside0.mk (laws_FnExactCourseOf.sh_gt hg BK168.out)
             replace BK150 := Aside0.mk (blk_below BK150.out hb)
             replace BK151 := Aside0.mk (blk_below BK151.out hb)
             replace BK168 := Aside0.mk (blk_below BK168.out hb)
             replace HB := Aside0.mk (below_step HB.out hb)
             clear hb hbox hg
             refine hK.out _ _ ⟨(blk_cell BK150.out 0).trans rfl, (blk_cell BK150.out 1).trans rfl, (blk_cell BK150.out 2).trans rfl, (blk_cell BK150.out 3).trans rfl, (blk_cell BK151.out 0).trans rfl, (blk_cell BK151.out 1).trans rfl, (blk_cell BK151.out 2).trans rfl, (blk_cell BK151.out 3).trans rfl⟩ (fun hHeld => ?_)
             clear hK K
             refine norm_ (a' := ?_) ?_ ?_
             rotate_left
             ·
              show Act.put _ (some 5) _ = _
              simp only [Act.put, List.setIfInBounds_toArray, List.set_cons_zero, List.set_cons_succ, i64_w, i32_w]
              rfl
             exact norm_ (by first | (simp only [putAll, Act.put, List.setIfInBounds_toArray, List.set_cons_zero, List.set_cons_succ]; done) | (simp only [putAll, Act.put, List.setIfInBounds_toArray, List.set_cons_zero, List.set_cons_succ]; rfl)) (hJ1_9_10 (gb167, gb168) _ ⟨hHeld, BK150.out, BK151.out, BK167.out, BK168.out, GW167.out, GE167.out, NB150_167.out, NB167_150.out, NB151_167.out, NB167_151.out, NB168_167.out, NB167_168.out, GW168.out, GE168.out, NB150_168.out, NB168_150.out, NB151_168.out, NB168_151.out, HB.out⟩)
          ·
           skip
           rintro gb167 w15 ⟨hS_, h0_, h1_, h2_, h3_, h4_, h5_, h6_, h7_, h8_, h9_⟩
           clear BK150 BK151 HB
           have BK167 := Aside0.mk h2_
           have GW167 := Aside0.mk h3_
           have GE167 := Aside0.mk h4_
           have NB150_167 := Aside0.mk h5_
           have NB167_150 := Aside0.mk h6_
           have NB151_167 := Aside0.mk h7_
           have NB167_151 := Aside0.mk h8_
           have BK150 := Aside0.mk h0_
           have BK151 := Aside0.mk h1_
           have HB := Aside0.mk h9_
           clear h0_ h1_ h2_ h3_ h4_ h5_ h6_ h7_ h8_ h9_
           have hHeld := hS_
           refine norm_ (a' := ?_) ?_ ?_
           rotate_left
           ·
            simp only [putAll, Act.put, List.setIfInBounds_toArray, List.set_cons_zero, List.set_cons_succ]
            rfl
           refine two_ (i := 3) (j := 10) (Ni := some 15) (Nj := some 6) #[true, true, true, true, false, false, false, false, false, true, false, false, false, false] #[true, true, true, false, false, false, false, false, false, true, true, false, false, false] rfl rfl rfl rfl (two_of HT_.out (by kernel_rfl)) (by decide) (by decide) (fun K hK => ?_) (fun K hK => ?_)
           ·
            skip
            refine goes_ Try.func18 (by kernel_rfl) rfl #[.agg #[.int .i64 a1_0, .int .i64 a1_1, .int .i64 a1_2, .int .i64 a1_3]] (by rfl) rfl rfl (by (try simp only [List.map_toArray, List.map_cons, List.map_nil]); first | done | rfl | (simp only [List.length_drop, List.length_take]; rfl)) ?_
            with_reducible refine (laws_toPose.calls a1_0 a1_1 a1_2 a1_3 t156 t157 t158 t159 _ A4.out).mono ?_
            rintro e w16 ⟨rfl, hb⟩
            refine ⟨_, rfl, ?_⟩
            replace BK150 := Aside0.mk (blk_below BK150.out hb)
            replace BK151 := Aside0.mk (blk_below BK151.out hb)
            replace BK167 := Aside0.mk (blk_below BK167.out hb)
            replace HB := Aside0.mk (below_step HB.out hb)
            (try clear hb)
            (try clear hb2)
            (try clear hk)
            (try clear hi)
            refine hK.out _ _ ⟨(blk_cell BK150.out 0).trans rfl, (blk_cell BK150.out 1).trans rfl, (blk_cell BK150.out 2).trans rfl, (blk_cell BK150.out 3).trans rfl, (blk_cell BK151.out 0).trans rfl, (blk_cell BK151.out 1).trans rfl, (blk_cell BK151.out 2).trans rfl, (blk_cell BK151.out 3).trans rfl⟩ (fun hHeld => ?_)
            clear hK K
            refine norm_ (a' := ?_) ?_ ?_
            rotate_left
            ·
             show Act.put _ (some 15) _ = _
             simp only [Act.put, List.setIfInBounds_toArray, List.set_cons_zero, List.set_cons_succ, i64_w, i32_w]
             rfl
            exact norm_ (by first | (simp only [putAll, Act.put, List.setIfInBounds_toArray, List.set_cons_zero, List.set_cons_succ]; done) | (simp only [putAll, Act.put, List.setIfInBounds_toArray, List.set_cons_zero, List.set_cons_succ]; rfl)) (hJ1_3_9 (gb167) _ ⟨hHeld, BK150.out, BK151.out, BK167.out, GW167.out, GE167.out, NB150_167.out, NB167_150.out, NB151_167.out, NB167_151.out, HB.out⟩)
           ·
            skip
            refine box_step ?hg (N := 6) ?hd (cs := #[.int .i64 0, .int .i64 0, .int .i64 0]) (t := 24) ?hr ?_; (case hd => rfl); (case hg => rfl); (case hr => first | (go_simp; done) | (go_simp; rfl))
            intro gb168 hg w16 hbox hb
            have BK168 := Aside0.mk (hbox)
            have GW168 := Aside0.mk (laws_FnExactCourseOf.sh_le hg HB.out)
            have GE168 := Aside0.mk (laws_FnExactCourseOf.sh_le hg HB.out)
            have NB150_168 := Aside0.mk (laws_FnExactCourseOf.sh_lt hg BK150.out)
            have NB168_150 := Aside0.mk (laws_FnExactCourseOf.sh_gt hg BK150.out)
            have NB151_168 := Aside0.mk (laws_FnExactCourseOf.sh_lt hg BK151.out)
            have NB168_151 := Aside0.mk (laws_FnExactCourseOf.sh_gt hg BK151.out)
            have NB167_168 := Aside0.mk (laws_FnExactCourseOf.sh_lt hg BK167.out)
            have NB168_167 := Aside0.mk (laws_FnExactCourseOf.sh_gt hg BK167.out)
            replace BK150 := Aside0.mk (blk_below BK150.out hb)
            replace BK151 := Aside0.mk (blk_below BK151.out hb)
            replace BK167 := Aside0.mk (blk_below BK167.out hb)
            replace HB := Aside0.mk (below_step HB.out hb)
            clear hb hbox hg
            refine hK.out _ _ ⟨(blk_cell BK150.out 0).trans rfl, (blk_cell BK150.out 1).trans rfl, (blk_cell BK150.out 2).trans rfl, (blk_cell BK150.out 3).trans rfl, (blk_cell BK151.out 0).trans rfl, (blk_cell BK151.out 1).trans rfl, (blk_cell BK151.out 2).trans rfl, (blk_cell BK151.out 3).trans rfl⟩ (fun hHeld => ?_)
            clear hK K
            refine norm_ (a' := ?_) ?_ ?_
            rotate_left
            ·
             show Act.put _ (some 6) _ = _
             simp only [Act.put, List.setIfInBounds_toArray, List.set_cons_zero, List.set_cons_succ, i64_w, i32_w]
             rfl
            exact norm_ (by first | (simp only [putAll, Act.put, List.setIfInBounds_toArray, List.set_cons_zero, List.set_cons_succ]; done) | (simp only [putAll, Act.put, List.setIfInBounds_toArray, List.set_cons_zero, List.set_cons_succ]; rfl)) (hJ1_9_10 (gb167, gb168) _ ⟨hHeld, BK150.out, BK151.out, BK167.out, BK168.out, GW167.out, GE167.out, NB150_167.out, NB167_150.out, NB151_167.out, NB167_151.out, NB168_167.out, NB167_168.out, GW168.out, GE168.out, NB150_168.out, NB168_150.out, NB151_168.out, NB168_151.out, HB.out⟩)
         ·
          skip
          rintro _ w15 ⟨hS_, h0_, h1_, h2_⟩
          clear BK150 BK151 HB
          have BK150 := Aside0.mk h0_
          have BK151 := Aside0.mk h1_
          have HB := Aside0.mk h2_
          clear h0_ h1_ h2_
          have hHeld := hS_
          refine norm_ (a' := ?_) ?_ ?_
          rotate_left
          ·
           simp only [putAll, Act.put, List.setIfInBounds_toArray, List.set_cons_zero, List.set_cons_succ]
           rfl
          refine three_ (i := 4) (j := 9) (k := 10) (Ni := some 16) (Nj := some 5) (Nk := some 6) #[true, true, true, true, true, false, false, false, false, false, false, false, false, false] #[true, true, true, true, false, false, false, false, false, true, false, false, false, false] #[true, true, true, true, false, false, false, false, false, false, true, false, false, false] rfl rfl rfl rfl rfl rfl (three_of HT_.out (by kernel_rfl)) (by decide) (by decide) (by decide) (fun K hK => ?_) (fun K hK => ?_) (fun K hK => ?_)
          ·
           skip
           refine goes_ Try.func17 (by kernel_rfl) rfl #[.agg #[.int .i64 t152, .int .i64 t153, .int .i64 t154, .int .i64 t155], .agg #[.int .i64 t156, .int .i64 t157, .int .i64 t158, .int .i64 t159]] (by rfl) rfl rfl (by (try simp only [List.map_toArray, List.map_cons, List.map_nil]); first | done | rfl | (simp only [List.length_drop, List.length_take]; rfl)) ?_
           with_reducible refine (spec_CourseOf.calls k t152 t153 t154 t155 t156 t157 t158 t159 t160 t161 t162 t163 t164 t165 t166 _ A5.out).mono ?_
           rintro e w16 ⟨rfl, hb⟩
           refine ⟨_, rfl, ?_⟩
           replace BK150 := Aside0.mk (blk_below BK150.out hb)
           replace BK151 := Aside0.mk (blk_below BK151.out hb)
           replace HB := Aside0.mk (below_step HB.out hb)
           (try clear hb)
           (try clear hb2)
           (try clear hk)
           (try clear hi)
           refine hK.out _ _ ⟨(blk_cell BK150.out 0).trans rfl, (blk_cell BK150.out 1).trans rfl, (blk_cell BK150.out 2).trans rfl, (blk_cell BK150.out 3).trans rfl, (blk_cell BK151.out 0).trans rfl, (blk_cell BK151.out 1).trans rfl, (blk_cell BK151.out 2).trans rfl, (blk_cell BK151.out 3).trans rfl⟩ (fun hHeld => ?_)
           clear hK K
           refine norm_ (a' := ?_) ?_ ?_
           rotate_left
           ·
            show Act.put _ (some 16) _ = _
            simp only [Act.put, List.setIfInBounds_toArray, List.set_cons_zero, List.set_cons_succ, i64_w, i32_w]
            rfl
           refine pure_ (i := 5) (N := some 11) (v := ?_) (a' := ?_) #[true, true, true, true, true, true, false, false, false, false, false, false, false, false] rfl rfl (any_of HT_.out (by kernel_rfl)) (fun _ _ _ h => h) (Or.inl ⟨by rfl, ?_⟩) ?_ ?_
           rotate_left
           ·
            intro w'
            go_simp
            with_reducible rfl
           rotate_left
           ·
            simp only [Act.put, List.setIfInBounds_toArray, List.set_cons_zero, List.set_cons_succ, i64_w, i32_w]
            rfl
           refine pure_ (i := 6) (N := some 17) (v := ?_) (a' := ?_) #[true, true, true, true, true, true, true, false, false, false, false, false, false, false] rfl rfl (any_of HT_.out (by kernel_rfl)) (fun _ _ _ h => h) (Or.inl ⟨by rfl, ?_⟩) ?_ ?_
           rotate_left
           ·
            intro w'
            go_simp
            with_reducible rfl
           rotate_left
           ·
            simp only [Act.put, List.setIfInBounds_toArray, List.set_cons_zero, List.set_cons_succ, i64_w, i32_w]
            rfl
           refine pure_ (i := 7) (N := some 18) (v := ?_) (a' := ?_) #[true, true, true, true, true, true, true, true, false, false, false, false, false, false] rfl rfl (any_of HT_.out (by kernel_rfl)) (fun _ _ _ h => h) (Or.inl ⟨by rfl, ?_⟩) ?_ ?_
           rotate_left
           ·
            intro w'
            go_simp
            with_reducible rfl
           rotate_left
           ·
            simp only [Act.put, List.setIfInBounds_toArray, List.set_cons_zero, List.set_cons_succ, i64_w, i32_w]
            rfl
           refine pure_ (i := 8) (N := some 19) (v := ?_) (a' := ?_) #[true, true, true, true, true, true, true, true, true, false, false, false, false, false] rfl rfl (any_of HT_.out (by kernel_rfl)) (fun _ _ _ h => h) (Or.inl ⟨by rfl, ?_⟩) ?_ ?_
           rotate_left
           ·
            intro w'
            go_simp
            with_reducible rfl
           rotate_left
           ·
            simp only [Act.put, List.setIfInBounds_toArray, List.set_cons_zero, List.set_cons_succ, i64_w, i32_w]
            rfl
           exact norm_ (by first | (simp only [putAll, Act.put, List.setIfInBounds_toArray, List.set_cons_zero, List.set_cons_succ]; done) | (simp only [putAll, Act.put, List.setIfInBounds_toArray, List.set_cons_zero, List.set_cons_succ]; rfl)) (hJ1_3_4 () _ ⟨hHeld, BK150.out, BK151.out, HB.out⟩)
          ·
           skip
           refine box_step ?hg (N := 5) ?hd (cs := #[.int .i64 0, .int .i64 0, .int .i64 0]) (t := 24) ?hr ?_; (case hd => rfl); (case hg => rfl); (case hr => first | (go_simp; done) | (go_simp; rfl))
           intro gb167 hg w16 hbox hb
           have BK167 := Aside0.mk (hbox)
           have GW167 := Aside0.mk (laws_FnExactCourseOf.sh_le hg HB.out)
           have GE167 := Aside0.mk (laws_FnExactCourseOf.sh_le hg HB.out)
           have NB150_167 := Aside0.mk (laws_FnExactCourseOf.sh_lt hg BK150.out)
           have NB167_150 := Aside0.mk (laws_FnExactCourseOf.sh_gt hg BK150.out)
           have NB151_167 := Aside0.mk (laws_FnExactCourseOf.sh_lt hg BK151.out)
           have NB167_151 := Aside0.mk (laws_FnExactCourseOf.sh_gt hg BK151.out)
           replace BK150 := Aside0.mk (blk_below BK150.out hb)
           replace BK151 := Aside0.mk (blk_below BK151.out hb)
           replace HB := Aside0.mk (below_step HB.out hb)
           clear hb hbox hg
           refine hK.out _ _ ⟨(blk_cell BK150.out 0).trans rfl, (blk_cell BK150.out 1).trans rfl, (blk_cell BK150.out 2).trans rfl, (blk_cell BK150.out 3).trans rfl, (blk_cell BK151.out 0).trans rfl, (blk_cell BK151.out 1).trans rfl, (blk_cell BK151.out 2).trans rfl, (blk_cell BK151.out 3).trans rfl⟩ (fun hHeld => ?_)
           clear hK K
           refine norm_ (a' := ?_) ?_ ?_
           rotate_left
           ·
            show Act.put _ (some 5) _ = _
            simp only [Act.put, List.setIfInBounds_toArray, List.set_cons_zero, List.set_cons_succ, i64_w, i32_w]
            rfl
           exact norm_ (by first | (simp only [putAll, Act.put, List.setIfInBounds_toArray, List.set_cons_zero, List.set_cons_succ]; done) | (simp only [putAll, Act.put, List.setIfInBounds_toArray, List.set_cons_zero, List.set_cons_succ]; rfl)) (hJ1_3_9 (gb167) _ ⟨hHeld, BK150.out, BK151.out, BK167.out, GW167.out, GE167.out, NB150_167.out, NB167_150.out, NB151_167.out, NB167_151.out, HB.out⟩)
          ·
           skip
           refine box_step ?hg (N := 6) ?hd (cs := #[.int .i64 0, .int .i64 0, .int .i64 0]) (t := 24) ?hr ?_; (case hd => rfl); (case hg => rfl); (case hr => first | (go_simp; done) | (go_simp; rfl))
           intro gb168 hg w16 hbox hb
           have BK168 := Aside0.mk (hbox)
           have GW168 := Aside0.mk (laws_FnExactCourseOf.sh_le hg HB.out)
           have GE168 := Aside0.mk (laws_FnExactCourseOf.sh_le hg HB.out)
           have NB150_168 := Aside0.mk (laws_FnExactCourseOf.sh_lt hg BK150.out)
           have NB168_150 := Aside0.mk (laws_FnExactCourseOf.sh_gt hg BK150.out)
           have NB151_168 := Aside0.mk (laws_FnExactCourseOf.sh_lt hg BK151.out)
           have NB168_151 := Aside0.mk (laws_FnExactCourseOf.sh_gt hg BK151.out)
           replace BK150 := Aside0.mk (blk_below BK150.out hb)
           replace BK151 := Aside0.mk (blk_below BK151.out hb)
           replace HB := Aside0.mk (below_step HB.out hb)
           clear hb hbox hg
           refine hK.out _ _ ⟨(blk_cell BK150.out 0).trans rfl, (blk_cell BK150.out 1).trans rfl, (blk_cell BK150.out 2).trans rfl, (blk_cell BK150.out 3).trans rfl, (blk_cell BK151.out 0).trans rfl, (blk_cell BK151.out 1).trans rfl, (blk_cell BK151.out 2).trans rfl, (blk_cell BK151.out 3).trans rfl⟩ (fun hHeld => ?_)
           clear hK K
           refine norm_ (a' := ?_) ?_ ?_
           rotate_left
           ·
            show Act.put _ (some 6) _ = _
            simp only [Act.put, List.setIfInBounds_toArray, List.set_cons_zero, List.set_cons_succ, i64_w, i32_w]
            rfl
           exact norm_ (by first | (simp only [putAll, Act.put, List.setIfInBounds_toArray, List.set_cons_zero, List.set_cons_succ]; done) | (simp only [putAll, Act.put, List.setIfInBounds_toArray, List.set_cons_zero, List.set_cons_succ]; rfl)) (hJ1_3_10 (gb168) _ ⟨hHeld, BK150.out, BK151.out, BK168.out, GW168.out, GE168.out, NB150_168.out, NB168_150.out, NB151_168.out, NB168_151.out, HB.out⟩)
        ·
         skip
         rintro ⟨gb167, gb168⟩ w16 ⟨hS_, h0_, h1_, h2_, h3_, h4_, h5_, h6_, h7_, h8_, h9_, h10_, h11_, h12_, h13_, h14_, h15_, h16_, h17_, h18_⟩
         clear BK150 BK151 HB
         have BK167 := Aside0.mk h2_
         have BK168 := Aside0.mk h3_
         have GW167 := Aside0.mk h4_
         have GE167 := Aside0.mk h5_
         have NB150_167 := Aside0.mk h6_
         have NB167_150 := Aside0.mk h7_
         have NB151_167 := Aside0.mk h8_
         have NB167_151 := Aside0.mk h9_
         have NB168_167 := Aside0.mk h10_
         have NB167_168 := Aside0.mk h11_
         have GW168 := Aside0.mk h12_
         have GE168 := Aside0.mk h13_
         have NB150_168 := Aside0.mk h14_
         have NB168_150 := Aside0.mk h15_
         have NB151_168 := Aside0.mk h16_
         have NB168_151 := Aside0.mk h17_
         have BK150 := Aside0.mk h0_
         have BK151 := Aside0.mk h1_
         have HB := Aside0.mk h18_
         clear h0_ h1_ h2_ h3_ h4_ h5_ h6_ h7_ h8_ h9_ h10_ h11_ h12_ h13_ h14_ h15_ h16_ h17_ h18_
         have hHeld := hS_
         refine norm_ (a' := ?_) ?_ ?_
         rotate_left
         ·
          simp only [putAll, Act.put, List.setIfInBounds_toArray, List.set_cons_zero, List.set_cons_succ]
          rfl
         refine one_ (i := 3) (N := some 15) #[true, true, true, true, false, false, false, false, false, true, true, false, false, false] rfl rfl (one_of HT_.out (by kernel_rfl)) (by decide) (fun K hK => ?_)
         refine goes_ Try.func18 (by kernel_rfl) rfl #[.agg #[.int .i64 a1_0, .int .i64 a1_1, .int .i64 a1_2, .int .i64 a1_3]] (by rfl) rfl rfl (by (try simp only [List.map_toArray, List.map_cons, List.map_nil]); first | done | rfl | (simp only [List.length_drop, List.length_take]; rfl)) ?_
         with_reducible refine (laws_toPose.calls a1_0 a1_1 a1_2 a1_3 t156 t157 t158 t159 _ A4.out).mono ?_
         rintro e w17 ⟨rfl, hb⟩
         refine ⟨_, rfl, ?_⟩
         replace BK150 := Aside0.mk (blk_below BK150.out hb)
         replace BK151 := Aside0.mk (blk_below BK151.out hb)
         replace BK167 := Aside0.mk (blk_below BK167.out hb)
         replace BK168 := Aside0.mk (blk_below BK168.out hb)
         replace HB := Aside0.mk (below_step HB.out hb)
         (try clear hb)
         (try clear hb2)
         (try clear hk)
         (try clear hi)
         refine hK.out _ _ ⟨(blk_cell BK150.out 0).trans rfl, (blk_cell BK150.out 1).trans rfl, (blk_cell BK150.out 2).trans rfl, (blk_cell BK150.out 3).trans rfl, (blk_cell BK151.out 0).trans rfl, (blk_cell BK151.out 1).trans rfl, (blk_cell BK151.out 2).trans rfl, (blk_cell BK151.out 3).trans rfl⟩ (fun hHeld => ?_)
         clear hK K
         refine norm_ (a' := ?_) ?_ ?_
         rotate_left
         ·
          show Act.put _ (some 15) _ = _
          simp only [Act.put, List.setIfInBounds_toArray, List.set_cons_zero, List.set_cons_succ, i64_w, i32_w]
          rfl
         exact norm_ (by first | (simp only [putAll, Act.put, List.setIfInBounds_toArray, List.set_cons_zero, List.set_cons_succ]; done) | (simp only [putAll, Act.put, List.setIfInBounds_toArray, List.set_cons_zero, List.set_cons_succ]; rfl)) (hJ1_3_9_10 (gb167, gb168) _ ⟨hHeld, BK150.out, BK151.out, BK167.out, BK168.out, GW167.out, GE167.out, NB150_167.out, NB167_150.out, NB151_167.out, NB167_151.out, NB168_167.out, NB167_168.out, GW168.out, GE168.out, NB150_168.out, NB168_150.out, NB151_168.out, NB168_151.out, HB.out⟩)
       ·
        skip
        rintro gb168 w16 ⟨hS_, h0_, h1_, h2_, h3_, h4_, h5_, h6_, h7_, h8_, h9_⟩
        clear BK150 BK151 HB
        have BK168 := Aside0.mk h2_
        have GW168 := Aside0.mk h3_
        have GE168 := Aside0.mk h4_
        have NB150_168 := Aside0.mk h5_
        have NB168_150 := Aside0.mk h6_
        have NB151_168 := Aside0.mk h7_
        have NB168_151 := Aside0.mk h8_
        have BK150 := Aside0.mk h0_
        have BK151 := Aside0.mk h1_
        have HB := Aside0.mk h9_
        clear h0_ h1_ h2_ h3_ h4_ h5_ h6_ h7_ h8_ h9_
        have hHeld := hS_
        refine norm_ (a' := ?_) ?_ ?_
        rotate_left
        ·
         simp only [putAll, Act.put, List.setIfInBounds_toArray, List.set_cons_zero, List.set_cons_succ]
         rfl
        refine two_ (i := 4) (j := 9) (Ni := some 16) (Nj := some 5) #[true, true, true, true, true, false, false, false, false, false, true, false, false, false] #[true, true, true, true, false, false, false, false, false, true, true, false, false, false] rfl rfl rfl rfl (two_of HT_.out (by kernel_rfl)) (by decide) (by decide) (fun K hK => ?_) (fun K hK => ?_)
        ·
         skip
         refine goes_ Try.func17 (by kernel_rfl) rfl #[.agg #[.int .i64 t152, .int .i64 t153, .int .i64 t154, .int .i64 t155], .agg #[.int .i64 t156, .int .i64 t157, .int .i64 t158, .int .i64 t159]] (by rfl) rfl rfl (by (try simp only [List.map_toArray, List.map_cons, List.map_nil]); first | done | rfl | (simp only [List.length_drop, List.length_take]; rfl)) ?_
         with_reducible refine (spec_CourseOf.calls k t152 t153 t154 t155 t156 t157 t158 t159 t160 t161 t162 t163 t164 t165 t166 _ A5.out).mono ?_
         rintro e w17 ⟨rfl, hb⟩
         refine ⟨_, rfl, ?_⟩
         replace BK150 := Aside0.mk (blk_below BK150.out hb)
         replace BK151 := Aside0.mk (blk_below BK151.out hb)
         replace BK168 := Aside0.mk (blk_below BK168.out hb)
         replace HB := Aside0.mk (below_step HB.out hb)
         (try clear hb)
         (try clear hb2)
         (try clear hk)
         (try clear hi)
         refine hK.out _ _ ⟨(blk_cell BK150.out 0).trans rfl, (blk_cell BK150.out 1).trans rfl, (blk_cell BK150.out 2).trans rfl, (blk_cell BK150.out 3).trans rfl, (blk_cell BK151.out 0).trans rfl, (blk_cell BK151.out 1).trans rfl, (blk_cell BK151.out 2).trans rfl, (blk_cell BK151.out 3).trans rfl⟩ (fun hHeld => ?_)
         clear hK K
         refine norm_ (a' := ?_) ?_ ?_
         rotate_left
         ·
          show Act.put _ (some 16) _ = _
          simp only [Act.put, List.setIfInBounds_toArray, List.set_cons_zero, List.set_cons_succ, i64_w, i32_w]
          rfl
         refine pure_ (i := 5) (N := some 11) (v := ?_) (a' := ?_) #[true, true, true, true, true, true, false, false, false, false, true, false, false, false] rfl rfl (any_of HT_.out (by kernel_rfl)) (fun _ _ _ h => h) (Or.inl ⟨by rfl, ?_⟩) ?_ ?_
         rotate_left
         ·
          intro w'
          go_simp
          with_reducible rfl
         rotate_left
         ·
          simp only [Act.put, List.setIfInBounds_toArray, List.set_cons_zero, List.set_cons_succ, i64_w, i32_w]
          rfl
         refine pure_ (i := 6) (N := some 17) (v := ?_) (a' := ?_) #[true, true, true, true, true, true, true, false, false, false, true, false, false, false] rfl rfl (any_of HT_.out (by kernel_rfl)) (fun _ _ _ h => h) (Or.inl ⟨by rfl, ?_⟩) ?_ ?_
         rotate_left
         ·
          intro w'
          go_simp
          with_reducible rfl
         rotate_left
         ·
          simp only [Act.put, List.setIfInBounds_toArray, List.set_cons_zero, List.set_cons_succ, i64_w, i32_w]
          rfl
         refine pure_ (i := 7) (N := some 18) (v := ?_) (a' := ?_) #[true, true, true, true, true, true, true, true, false, false, true, false, false, false] rfl rfl (any_of HT_.out (by kernel_rfl)) (fun _ _ _ h => h) (Or.inl ⟨by rfl, ?_⟩) ?_ ?_
         rotate_left
         ·
          intro w'
          go_simp
          with_reducible rfl
         rotate_left
         ·
          simp only [Act.put, List.setIfInBounds_toArray, List.set_cons_zero, List.set_cons_succ, i64_w, i32_w]
          rfl
         refine pure_ (i := 8) (N := some 19) (v := ?_) (a' := ?_) #[true, true, true, true, true, true, true, true, true, false, true, false, false, false] rfl rfl (any_of HT_.out (by kernel_rfl)) (fun _ _ _ h => h) (Or.inl ⟨by rfl, ?_⟩) ?_ ?_
         rotate_left
         ·
          intro w'
          go_simp
          with_reducible rfl
         rotate_left
         ·
          simp only [Act.put, List.setIfInBounds_toArray, List.set_cons_zero, List.set_cons_succ, i64_w, i32_w]
          rfl
         exact norm_ (by first | (simp only [putAll, Act.put, List.setIfInBounds_toArray, List.set_cons_zero, List.set_cons_succ]; done) | (simp only [putAll, Act.put, List.setIfInBounds_toArray, List.set_cons_zero, List.set_cons_succ]; rfl)) (hJ1_3_4_10 (gb168) _ ⟨hHeld, BK150.out, BK151.out, BK168.out, GW168.out, GE168.out, NB150_168.out, NB168_150.out, NB151_168.out, NB168_151.out, HB.out⟩)
        ·
         skip
         refine box_step ?hg (N := 5) ?hd (cs := #[.int .i64 0, .int .i64 0, .int .i64 0]) (t := 24) ?hr ?_; (case hd => rfl); (case hg => rfl); (case hr => first | (go_simp; done) | (go_simp; rfl))
         intro gb167 hg w17 hbox hb
         have BK167 := Aside0.mk (hbox)
         have GW167 := Aside0.mk (laws_FnExactCourseOf.sh_le hg HB.out)
         have GE167 := Aside0.mk (laws_FnExactCourseOf.sh_le hg HB.out)
         have NB150_167 := Aside0.mk (laws_FnExactCourseOf.sh_lt hg BK150.out)
         have NB167_150 := Aside0.mk (laws_FnExactCourseOf.sh_gt hg BK150.out)
         have NB151_167 := Aside0.mk (laws_FnExactCourseOf.sh_lt hg BK151.out)
         have NB167_151 := Aside0.mk (laws_FnExactCourseOf.sh_gt hg BK151.out)
         have NB168_167 := Aside0.mk (laws_FnExactCourseOf.sh_lt hg BK168.out)
         have NB167_168 := Aside0.mk (laws_FnExactCourseOf.sh_gt hg BK168.out)
         replace BK150 := Aside0.mk (blk_below BK150.out hb)
         replace BK151 := Aside0.mk (blk_below BK151.out hb)
         replace BK168 := Aside0.mk (blk_below BK168.out hb)
         replace HB := Aside0.mk (below_step HB.out hb)
         clear hb hbox hg
         refine hK.out _ _ ⟨(blk_cell BK150.out 0).trans rfl, (blk_cell BK150.out 1).trans rfl, (blk_cell BK150.out 2).trans rfl, (blk_cell BK150.out 3).trans rfl, (blk_cell BK151.out 0).trans rfl, (blk_cell BK151.out 1).trans rfl, (blk_cell BK151.out 2).trans rfl, (blk_cell BK151.out 3).trans rfl⟩ (fun hHeld => ?_)
         clear hK K
         refine norm_ (a' := ?_) ?_ ?_
         rotate_left
         ·
          show Act.put _ (some 5) _ = _
          simp only [Act.put, List.setIfInBounds_toArray, List.set_cons_zero, List.set_cons_succ, i64_w, i32_w]
          rfl
         exact norm_ (by first | (simp only [putAll, Act.put, List.setIfInBounds_toArray, List.set_cons_zero, List.set_cons_succ]; done) | (simp only [putAll, Act.put, List.setIfInBounds_toArray, List.set_cons_zero, List.set_cons_succ]; rfl)) (hJ1_3_9_10 (gb167, gb168) _ ⟨hHeld, BK150.out, BK151.out, BK167.out, BK168.out, GW167.out, GE167.out, NB150_167.out, NB167_150.out, NB151_167.out, NB167_151.out, NB168_167.out, NB167_168.out, GW168.out, GE168.out, NB150_168.out, NB168_150.out, NB151_168.out, NB168_151.out, HB.out⟩)
      ·
       skip
       rintro gb167 w16 ⟨hS_, h0_, h1_, h2_, h3_, h4_, h5_, h6_, h7_, h8_, h9_⟩
       clear BK150 BK151 HB
       have BK167 := Aside0.mk h2_
       have GW167 := Aside0.mk h3_
       have GE167 := Aside0.mk h4_
       have NB150_167 := Aside0.mk h5_
       have NB167_150 := Aside0.mk h6_
       have NB151_167 := Aside0.mk h7_
       have NB167_151 := Aside0.mk h8_
       have BK150 := Aside0.mk h0_
       have BK151 := Aside0.mk h1_
       have HB := Aside0.mk h9_
       clear h0_ h1_ h2_ h3_ h4_ h5_ h6_ h7_ h8_ h9_
       have hHeld := hS_
       refine norm_ (a' := ?_) ?_ ?_
       rotate_left
       ·
        simp only [putAll, Act.put, List.setIfInBounds_toArray, List.set_cons_zero, List.set_cons_succ]
        rfl
       refine two_ (i := 4) (j := 10) (Ni := some 16) (Nj := some 6) #[true, true, true, true, true, false, false, false, false, true, false, false, false, false] #[true, true, true, true, false, false, false, false, false, true, true, false, false, false] rfl rfl rfl rfl (two_of HT_.out (by kernel_rfl)) (by decide) (by decide) (fun K hK => ?_) (fun K hK => ?_)
       ·
        skip
        refine goes_ Try.func17 (by kernel_rfl) rfl #[.agg #[.int .i64 t152, .int .i64 t153, .int .i64 t154, .int .i64 t155], .agg #[.int .i64 t156, .int .i64 t157, .int .i64 t158, .int .i64 t159]] (by rfl) rfl rfl (by (try simp only [List.map_toArray, List.map_cons, List.map_nil]); first | done | rfl | (simp only [List.length_drop, List.length_take]; rfl)) ?_
        with_reducible refine (spec_CourseOf.calls k t152 t153 t154 t155 t156 t157 t158 t159 t160 t161 t162 t163 t164 t165 t166 _ A5.out).mono ?_
        rintro e w17 ⟨rfl, hb⟩
        refine ⟨_, rfl, ?_⟩
        replace BK150 := Aside0.mk (blk_below BK150.out hb)
        replace BK151 := Aside0.mk (blk_below BK151.out hb)
        replace BK167 := Aside0.mk (blk_below BK167.out hb)
        replace HB := Aside0.mk (below_step HB.out hb)
        (try clear hb)
        (try clear hb2)
        (try clear hk)
        (try clear hi)
        refine hK.out _ _ ⟨(blk_cell BK150.out 0).trans rfl, (blk_cell BK150.out 1).trans rfl, (blk_cell BK150.out 2).trans rfl, (blk_cell BK150.out 3).trans rfl, (blk_cell BK151.out 0).trans rfl, (blk_cell BK151.out 1).trans rfl, (blk_cell BK151.out 2).trans rfl, (blk_cell BK151.out 3).trans rfl⟩ (fun hHeld => ?_)
        clear hK K
        refine norm_ (a' := ?_) ?_ ?_
        rotate_left
        ·
         show Act.put _ (some 16) _ = _
         simp only [Act.put, List.setIfInBounds_toArray, List.set_cons_zero, List.set_cons_succ, i64_w, i32_w]
         rfl
        refine pure_ (i := 5) (N := some 11) (v := ?_) (a' := ?_) #[true, true, true, true, true, true, false, false, false, true, false, false, false, false] rfl rfl (any_of HT_.out (by kernel_rfl)) (fun _ _ _ h => h) (Or.inl ⟨by rfl, ?_⟩) ?_ ?_
        rotate_left
        ·
         intro w'
         go_simp
         with_reducible rfl
        rotate_left
        ·
         simp only [Act.put, List.setIfInBounds_toArray, List.set_cons_zero, List.set_cons_succ, i64_w, i32_w]
         rfl
        refine pure_ (i := 6) (N := some 17) (v := ?_) (a' := ?_) #[true, true, true, true, true, true, true, false, false, true, false, false, false, false] rfl rfl (any_of HT_.out (by kernel_rfl)) (fun _ _ _ h => h) (Or.inl ⟨by rfl, ?_⟩) ?_ ?_
        rotate_left
        ·
         intro w'
         go_simp
         with_reducible rfl
        rotate_left
        ·
         simp only [Act.put, List.setIfInBounds_toArray, List.set_cons_zero, List.set_cons_succ, i64_w, i32_w]
         rfl
        refine pure_ (i := 7) (N := some 18) (v := ?_) (a' := ?_) #[true, true, true, true, true, true, true, true, false, true, false, false, false, false] rfl rfl (any_of HT_.out (by kernel_rfl)) (fun _ _ _ h => h) (Or.inl ⟨by rfl, ?_⟩) ?_ ?_
        rotate_left
        ·
         intro w'
         go_simp
         with_reducible rfl
        rotate_left
        ·
         simp only [Act.put, List.setIfInBounds_toArray, List.set_cons_zero, List.set_cons_succ, i64_w, i32_w]
         rfl
        refine pure_ (i := 8) (N := some 19) (v := ?_) (a' := ?_) #[true, true, true, true, true, true, true, true, true, true, false, false, false, false] rfl rfl (any_of HT_.out (by kernel_rfl)) (fun _ _ _ h => h) (Or.inl ⟨by rfl, ?_⟩) ?_ ?_
        rotate_left
        ·
         intro w'
         go_simp
         with_reducible rfl
        rotate_left
        ·
         simp only [Act.put, List.setIfInBounds_toArray, List.set_cons_zero, List.set_cons_succ, i64_w, i32_w]
         rfl
        exact norm_ (by first | (simp only [putAll, Act.put, List.setIfInBounds_toArray, List.set_cons_zero, List.set_cons_succ]; done) | (simp only [putAll, Act.put, List.setIfInBounds_toArray, List.set_cons_zero, List.set_cons_succ]; rfl)) (hJ1_3_4_9 (gb167) _ ⟨hHeld, BK150.out, BK151.out, BK167.out, GW167.out, GE167.out, NB150_167.out, NB167_150.out, NB151_167.out, NB167_151.out, HB.out⟩)
       ·
        skip
        refine box_step ?hg (N := 6) ?hd (cs := #[.int .i64 0, .int .i64 0, .int .i64 0]) (t := 24) ?hr ?_; (case hd => rfl); (case hg => rfl); (case hr => first | (go_simp; done) | (go_simp; rfl))
        intro gb168 hg w17 hbox hb
        have BK168 := Aside0.mk (hbox)
        have GW168 := Aside0.mk (laws_FnExactCourseOf.sh_le hg HB.out)
        have GE168 := Aside0.mk (laws_FnExactCourseOf.sh_le hg HB.out)
        have NB150_168 := Aside0.mk (laws_FnExactCourseOf.sh_lt hg BK150.out)
        have NB168_150 := Aside0.mk (laws_FnExactCourseOf.sh_gt hg BK150.out)
        have NB151_168 := Aside0.mk (laws_FnExactCourseOf.sh_lt hg BK151.out)
        have NB168_151 := Aside0.mk (laws_FnExactCourseOf.sh_gt hg BK151.out)
        have NB167_168 := Aside0.mk (laws_FnExactCourseOf.sh_lt hg BK167.out)
        have NB168_167 := Aside0.mk (laws_FnExactCourseOf.sh_gt hg BK167.out)
        replace BK150 := Aside0.mk (blk_below BK150.out hb)
        replace BK151 := Aside0.mk (blk_below BK151.out hb)
        replace BK167 := Aside0.mk (blk_below BK167.out hb)
        replace HB := Aside0.mk (below_step HB.out hb)
        clear hb hbox hg
        refine hK.out _ _ ⟨(blk_cell BK150.out 0).trans rfl, (blk_cell BK150.out 1).trans rfl, (blk_cell BK150.out 2).trans rfl, (blk_cell BK150.out 3).trans rfl, (blk_cell BK151.out 0).trans rfl, (blk_cell BK151.out 1).trans rfl, (blk_cell BK151.out 2).trans rfl, (blk_cell BK151.out 3).trans rfl⟩ (fun hHeld => ?_)
        clear hK K
        refine norm_ (a' := ?_) ?_ ?_
        rotate_left
        ·
         show Act.put _ (some 6) _ = _
         simp only [Act.put, List.setIfInBounds_toArray, List.set_cons_zero, List.set_cons_succ, i64_w, i32_w]
         rfl
        exact norm_ (by first | (simp only [putAll, Act.put, List.setIfInBounds_toArray, List.set_cons_zero, List.set_cons_succ]; done) | (simp only [putAll, Act.put, List.setIfInBounds_toArray, List.set_cons_zero, List.set_cons_succ]; rfl)) (hJ1_3_9_10 (gb167, gb168) _ ⟨hHeld, BK150.out, BK151.out, BK167.out, BK168.out, GW167.out, GE167.out, NB150_167.out, NB167_150.out, NB151_167.out, NB167_151.out, NB168_167.out, NB167_168.out, GW168.out, GE168.out, NB150_168.out, NB168_150.out, NB151_168.out, NB168_151.out, HB.out⟩)
     ·
      skip
      rintro _ w16 ⟨hS_, h0_, h1_, h2_⟩
      clear BK150 BK151 HB
      have BK150 := Aside0.mk h0_
      have BK151 := Aside0.mk h1_
      have HB := Aside0.mk h2_
      clear h0_ h1_ h2_
      have hHeld := hS_
      refine norm_ (a' := ?_) ?_ ?_
      rotate_left
      ·
       simp only [putAll, Act.put, List.setIfInBounds_toArray, List.set_cons_zero, List.set_cons_succ]
       rfl
      refine two_ (i := 9) (j := 10) (Ni := some 5) (Nj := some 6) #[true, true, true, true, true, true, true, true, true, true, false, false, false, false] #[true, true, true, true, true, true, true, true, true, false, true, false, false, false] rfl rfl rfl rfl (two_of HT_.out (by kernel_rfl)) (by decide) (by decide) (fun K hK => ?_) (fun K hK => ?_)
      ·
       skip
       refine box_step ?hg (N := 5) ?hd (cs := #[.int .i64 0, .int .i64 0, .int .i64 0]) (t := 24) ?hr ?_; (case hd => rfl); (case hg => rfl); (case hr => first | (go_simp; done) | (go_simp; rfl))
       intro gb167 hg w17 hbox hb
       have BK167 := Aside0.mk (hbox)
       have GW167 := Aside0.mk (laws_FnExactCourseOf.sh_le hg HB.out)
       have GE167 := Aside0.mk (laws_FnExactCourseOf.sh_le hg HB.out)
       have NB150_167 := Aside0.mk (laws_FnExactCourseOf.sh_lt hg BK150.out)
       have NB167_150 := Aside0.mk (laws_FnExactCourseOf.sh_gt hg BK150.out)
       have NB151_167 := Aside0.mk (laws_FnExactCourseOf.sh_lt hg BK151.out)
       have NB167_151 := Aside0.mk (laws_FnExactCourseOf.sh_gt hg BK151.out)
       replace BK150 := Aside0.mk (blk_below BK150.out hb)
       replace BK151 := Aside0.mk (blk_below BK151.out hb)
       replace HB := Aside0.mk (below_step HB.out hb)
       clear hb hbox hg
       refine hK.out _ _ ⟨(blk_cell BK150.out 0).trans rfl, (blk_cell BK150.out 1).trans rfl, (blk_cell BK150.out 2).trans rfl, (blk_cell BK150.out 3).trans rfl, (blk_cell BK151.out 0).trans rfl, (blk_cell BK151.out 1).trans rfl, (blk_cell BK151.out 2).trans rfl, (blk_cell BK151.out 3).trans rfl⟩ (fun hHeld => ?_)
       clear hK K
       refine norm_ (a' := ?_) ?_ ?_
       rotate_left
       ·
        show Act.put _ (some 5) _ = _
        simp only [Act.put, List.setIfInBounds_toArray, List.set_cons_zero, List.set_cons_succ, i64_w, i32_w]
        rfl
       exact norm_ (by first | (simp only [putAll, Act.put, List.setIfInBounds_toArray, List.set_cons_zero, List.set_cons_succ]; done) | (simp only [putAll, Act.put, List.setIfInBounds_toArray, List.set_cons_zero, List.set_cons_succ]; rfl)) (hJ1_3_4_9 (gb167) _ ⟨hHeld, BK150.out, BK151.out, BK167.out, GW167.out, GE167.out, NB150_167.out, NB167_150.out, NB151_167.out, NB167_151.out, HB.out⟩)
      ·
       skip
       refine box_step ?hg (N := 6) ?hd (cs := #[.int .i64 0, .int .i64 0, .int .i64 0]) (t := 24) ?hr ?_; (case hd => rfl); (case hg => rfl); (case hr => first | (go_simp; done) | (go_simp; rfl))
       intro gb168 hg w17 hbox hb
       have BK168 := Aside0.mk (hbox)
       have GW168 := Aside0.mk (laws_FnExactCourseOf.sh_le hg HB.out)
       have GE168 := Aside0.mk (laws_FnExactCourseOf.sh_le hg HB.out)
       have NB150_168 := Aside0.mk (laws_FnExactCourseOf.sh_lt hg BK150.out)
       have NB168_150 := Aside0.mk (laws_FnExactCourseOf.sh_gt hg BK150.out)
       have NB151_168 := Aside0.mk (laws_FnExactCourseOf.sh_lt hg BK151.out)
       have NB168_151 := Aside0.mk (laws_FnExactCourseOf.sh_gt hg BK151.out)
       replace BK150 := Aside0.mk (blk_below BK150.out hb)
       replace BK151 := Aside0.mk (blk_below BK151.out hb)
       replace HB := Aside0.mk (below_step HB.out hb)
       clear hb hbox hg
       refine hK.out _ _ ⟨(blk_cell BK150.out 0).trans rfl, (blk_cell BK150.out 1).trans rfl, (blk_cell BK150.out 2).trans rfl, (blk_cell BK150.out 3).trans rfl, (blk_cell BK151.out 0).trans rfl, (blk_cell BK151.out 1).trans rfl, (blk_cell BK151.out 2).trans rfl, (blk_cell BK151.out 3).trans rfl⟩ (fun hHeld => ?_)
       clear hK K
       refine norm_ (a' := ?_) ?_ ?_
       rotate_left
       ·
        show Act.put _ (some 6) _ = _
        simp only [Act.put, List.setIfInBounds_toArray, List.set_cons_zero, List.set_cons_succ, i64_w, i32_w]
        rfl
       exact norm_ (by first | (simp only [putAll, Act.put, List.setIfInBounds_toArray, List.set_cons_zero, List.set_cons_succ]; done) | (simp only [putAll, Act.put, List.setIfInBounds_toArray, List.set_cons_zero, List.set_cons_succ]; rfl)) (hJ1_3_4_10 (gb168) _ ⟨hHeld, BK150.out, BK151.out, BK168.out, GW168.out, GE168.out, NB150_168.out, NB168_150.out, NB151_168.out, NB168_151.out, HB.out⟩)
    ·
     skip
     rintro ⟨gb167, gb168⟩ w17 ⟨hS_, h0_, h1_, h2_, h3_, h4_, h5_, h6_, h7_, h8_, h9_, h10_, h11_, h12_, h13_, h14_, h15_, h16_, h17_, h18_⟩
     clear BK150 BK151 HB
     have BK167 := Aside0.mk h2_
     have BK168 := Aside0.mk h3_
     have GW167 := Aside0.mk h4_
     have GE167 := Aside0.mk h5_
     have NB150_167 := Aside0.mk h6_
     have NB167_150 := Aside0.mk h7_
     have NB151_167 := Aside0.mk h8_
     have NB167_151 := Aside0.mk h9_
     have NB168_167 := Aside0.mk h10_
     have NB167_168 := Aside0.mk h11_
     have GW168 := Aside0.mk h12_
     have GE168 := Aside0.mk h13_
     have NB150_168 := Aside0.mk h14_
     have NB168_150 := Aside0.mk h15_
     have NB151_168 := Aside0.mk h16_
     have NB168_151 := Aside0.mk h17_
     have BK150 := Aside0.mk h0_
     have BK151 := Aside0.mk h1_
     have HB := Aside0.mk h18_
     clear h0_ h1_ h2_ h3_ h4_ h5_ h6_ h7_ h8_ h9_ h10_ h11_ h12_ h13_ h14_ h15_ h16_ h17_ h18_
     have hHeld := hS_
     refine norm_ (a' := ?_) ?_ ?_
     rotate_left
     ·
      simp only [putAll, Act.put, List.setIfInBounds_toArray, List.set_cons_zero, List.set_cons_succ]
      rfl
     refine one_ (i := 4) (N := some 16) #[true, true, true, true, true, false, false, false, false, true, true, false, false, false] rfl rfl (one_of HT_.out (by kernel_rfl)) (by decide) (fun K hK => ?_)
     refine goes_ Try.func17 (by kernel_rfl) rfl #[.agg #[.int .i64 t152, .int .i64 t153, .int .i64 t154, .int .i64 t155], .agg #[.int .i64 t156, .int .i64 t157, .int .i64 t158, .int .i64 t159]] (by rfl) rfl rfl (by (try simp only [List.map_toArray, List.map_cons, List.map_nil]); first | done | rfl | (simp only [List.length_drop, List.length_take]; rfl)) ?_
     with_reducible refine (spec_CourseOf.calls k t152 t153 t154 t155 t156 t157 t158 t159 t160 t161 t162 t163 t164 t165 t166 _ A5.out).mono ?_
     rintro e w18 ⟨rfl, hb⟩
     refine ⟨_, rfl, ?_⟩
     replace BK150 := Aside0.mk (blk_below BK150.out hb)
     replace BK151 := Aside0.mk (blk_below BK151.out hb)
     replace BK167 := Aside0.mk (blk_below BK167.out hb)
     replace BK168 := Aside0.mk (blk_below BK168.out hb)
     replace HB := Aside0.mk (below_step HB.out hb)
     (try clear hb)
     (try clear hb2)
     (try clear hk)
     (try clear hi)
     refine hK.out _ _ ⟨(blk_cell BK150.out 0).trans rfl, (blk_cell BK150.out 1).trans rfl, (blk_cell BK150.out 2).trans rfl, (blk_cell BK150.out 3).trans rfl, (blk_cell BK151.out 0).trans rfl, (blk_cell BK151.out 1).trans rfl, (blk_cell BK151.out 2).trans rfl, (blk_cell BK151.out 3).trans rfl⟩ (fun hHeld => ?_)
     clear hK K
     refine norm_ (a' := ?_) ?_ ?_
     rotate_left
     ·
      show Act.put _ (some 16) _ = _
      simp only [Act.put, List.setIfInBounds_toArray, List.set_cons_zero, List.set_cons_succ, i64_w, i32_w]
      rfl
     refine pure_ (i := 5) (N := some 11) (v := ?_) (a' := ?_) #[true, true, true, true, true, true, false, false, false, true, true, false, false, false] rfl rfl (any_of HT_.out (by kernel_rfl)) (fun _ _ _ h => h) (Or.inl ⟨by rfl, ?_⟩) ?_ ?_
     rotate_left
     ·
      intro w'
      go_simp
      with_reducible rfl
     rotate_left
     ·
      simp only [Act.put, List.setIfInBounds_toArray, List.set_cons_zero, List.set_cons_succ, i64_w, i32_w]
      rfl
     refine pure_ (i := 6) (N := some 17) (v := ?_) (a' := ?_) #[true, true, true, true, true, true, true, false, false, true, true, false, false, false] rfl rfl (any_of HT_.out (by kernel_rfl)) (fun _ _ _ h => h) (Or.inl ⟨by rfl, ?_⟩) ?_ ?_
     rotate_left
     ·
      intro w'
      go_simp
      with_reducible rfl
     rotate_left
     ·
      simp only [Act.put, List.setIfInBounds_toArray, List.set_cons_zero, List.set_cons_succ, i64_w, i32_w]
      rfl
     refine pure_ (i := 7) (N := some 18) (v := ?_) (a' := ?_) #[true, true, true, true, true, true, true, true, false, true, true, false, false, false] rfl rfl (any_of HT_.out (by kernel_rfl)) (fun _ _ _ h => h) (Or.inl ⟨by rfl, ?_⟩) ?_ ?_
     rotate_left
     ·
      intro w'
      go_simp
      with_reducible rfl
     rotate_left
     ·
      simp only [Act.put, List.setIfInBounds_toArray, List.set_cons_zero, List.set_cons_succ, i64_w, i32_w]
      rfl
     refine pure_ (i := 8) (N := some 19) (v := ?_) (a' := ?_) #[true, true, true, true, true, true, true, true, true, true, true, false, false, false] rfl rfl (any_of HT_.out (by kernel_rfl)) (fun _ _ _ h => h) (Or.inl ⟨by rfl, ?_⟩) ?_ ?_
     rotate_left
     ·
      intro w'
      go_simp
      with_reducible rfl
     rotate_left
     ·
      simp only [Act.put, List.setIfInBounds_toArray, List.set_cons_zero, List.set_cons_succ, i64_w, i32_w]
      rfl
     exact norm_ (by first | (simp only [putAll, Act.put, List.setIfInBounds_toArray, List.set_cons_zero, List.set_cons_succ]; done) | (simp only [putAll, Act.put, List.setIfInBounds_toArray, List.set_cons_zero, List.set_cons_succ]; rfl)) (hJ1_3_4_9_10 (gb167, gb168) _ ⟨hHeld, BK150.out, BK151.out, BK167.out, BK168.out, GW167.out, GE167.out, NB150_167.out, NB167_150.out, NB151_167.out, NB167_151.out, NB168_167.out, NB167_168.out, GW168.out, GE168.out, NB150_168.out, NB168_150.out, NB151_168.out, NB168_151.out, HB.out⟩)
   ·
    skip
    rintro gb168 w17 ⟨hS_, h0_, h1_, h2_, h3_, h4_, h5_, h6_, h7_, h8_, h9_⟩
    clear BK150 BK151 HB
    have BK168 := Aside0.mk h2_
    have GW168 := Aside0.mk h3_
    have GE168 := Aside0.mk h4_
    have NB150_168 := Aside0.mk h5_
    have NB168_150 := Aside0.mk h6_
    have NB151_168 := Aside0.mk h7_
    have NB168_151 := Aside0.mk h8_
    have BK150 := Aside0.mk h0_
    have BK151 := Aside0.mk h1_
    have HB := Aside0.mk h9_
    clear h0_ h1_ h2_ h3_ h4_ h5_ h6_ h7_ h8_ h9_
    have hHeld := hS_
    refine norm_ (a' := ?_) ?_ ?_
    rotate_left
    ·
     simp only [putAll, Act.put, List.setIfInBounds_toArray, List.set_cons_zero, List.set_cons_succ]
     rfl
    refine one_ (i := 9) (N := some 5) #[true, true, true, true, true, true, true, true, true, true, true, false, false, false] rfl rfl (one_of HT_.out (by kernel_rfl)) (by decide) (fun K hK => ?_)
    refine box_step ?hg (N := 5) ?hd (cs := #[.int .i64 0, .int .i64 0, .int .i64 0]) (t := 24) ?hr ?_; (case hd => rfl); (case hg => rfl); (case hr => first | (go_simp; done) | (go_simp; rfl))
    intro gb167 hg w18 hbox hb
    have BK167 := Aside0.mk (hbox)
    have GW167 := Aside0.mk (laws_FnExactCourseOf.sh_le hg HB.out)
    have GE167 := Aside0.mk (laws_FnExactCourseOf.sh_le hg HB.out)
    have NB150_167 := Aside0.mk (laws_FnExactCourseOf.sh_lt hg BK150.out)
    have NB167_150 := Aside0.mk (laws_FnExactCourseOf.sh_gt hg BK150.out)
    have NB151_167 := Aside0.mk (laws_FnExactCourseOf.sh_lt hg BK151.out)
    have NB167_151 := Aside0.mk (laws_FnExactCourseOf.sh_gt hg BK151.out)
    have NB168_167 := Aside0.mk (laws_FnExactCourseOf.sh_lt hg BK168.out)
    have NB167_168 := Aside0.mk (laws_FnExactCourseOf.sh_gt hg BK168.out)
    replace BK150 := Aside0.mk (blk_below BK150.out hb)
    replace BK151 := Aside0.mk (blk_below BK151.out hb)
    replace BK168 := Aside0.mk (blk_below BK168.out hb)
    replace HB := Aside0.mk (below_step HB.out hb)
    clear hb hbox hg
    refine hK.out _ _ ⟨(blk_cell BK150.out 0).trans rfl, (blk_cell BK150.out 1).trans rfl, (blk_cell BK150.out 2).trans rfl, (blk_cell BK150.out 3).trans rfl, (blk_cell BK151.out 0).trans rfl, (blk_cell BK151.out 1).trans rfl, (blk_cell BK151.out 2).trans rfl, (blk_cell BK151.out 3).trans rfl⟩ (fun hHeld => ?_)
    clear hK K
    refine norm_ (a' := ?_) ?_ ?_
    rotate_left
    ·
     show Act.put _ (some 5) _ = _
     simp only [Act.put, List.setIfInBounds_toArray, List.set_cons_zero, List.set_cons_succ, i64_w, i32_w]
     rfl
    exact norm_ (by first | (simp only [putAll, Act.put, List.setIfInBounds_toArray, List.set_cons_zero, List.set_cons_succ]; done) | (simp only [putAll, Act.put, List.setIfInBounds_toArray, List.set_cons_zero, List.set_cons_succ]; rfl)) (hJ1_3_4_9_10 (gb167, gb168) _ ⟨hHeld, BK150.out, BK151.out, BK167.out, BK168.out, GW167.out, GE167.out, NB150_167.out, NB167_150.out, NB151_167.out, NB167_151.out, NB168_167.out, NB167_168.out, GW168.out, GE168.out, NB150_168.out, NB168_150.out, NB151_168.out, NB168_151.out, HB.out⟩)
  ·
   skip
   rintro gb167 w17 ⟨hS_, h0_, h1_, h2_, h3_, h4_, h5_, h6_, h7_, h8_, h9_⟩
   clear BK150 BK151 HB
   have BK167 := Aside0.mk h2_
   have GW167 := Aside0.mk h3_
   have GE167 := Aside0.mk h4_
   have NB150_167 := Aside0.mk h5_
   have NB167_150 := Aside0.mk h6_
   have NB151_167 := Aside0.mk h7_
   have NB167_151 := Aside0.mk h8_
   have BK150 := Aside0.mk h0_
   have BK151 := Aside0.mk h1_
   have HB := Aside0.mk h9_
   clear h0_ h1_ h2_ h3_ h4_ h5_ h6_ h7_ h8_ h9_
   have hHeld := hS_
   refine norm_ (a' := ?_) ?_ ?_
   rotate_left
   ·
    simp only [putAll, Act.put, List.setIfInBounds_toArray, List.set_cons_zero, List.set_cons_succ]
    rfl
   refine one_ (i := 10) (N := some 6) #[true, true, true, true, true, true, true, true, true, true, true, false, false, false] rfl rfl (one_of HT_.out (by kernel_rfl)) (by decide) (fun K hK => ?_)
   refine box_step ?hg (N := 6) ?hd (cs := #[.int .i64 0, .int .i64 0, .int .i64 0]) (t := 24) ?hr ?_; (case hd => rfl); (case hg => rfl); (case hr => first | (go_simp; done) | (go_simp; rfl))
   intro gb168 hg w18 hbox hb
   have BK168 := Aside0.mk (hbox)
   have GW168 := Aside0.mk (laws_FnExactCourseOf.sh_le hg HB.out)
   have GE168 := Aside0.mk (laws_FnExactCourseOf.sh_le hg HB.out)
   have NB150_168 := Aside0.mk (laws_FnExactCourseOf.sh_lt hg BK150.out)
   have NB168_150 := Aside0.mk (laws_FnExactCourseOf.sh_gt hg BK150.out)
   have NB151_168 := Aside0.mk (laws_FnExactCourseOf.sh_lt hg BK151.out)
   have NB168_151 := Aside0.mk (laws_FnExactCourseOf.sh_gt hg BK151.out)
   have NB167_168 := Aside0.mk (laws_FnExactCourseOf.sh_lt hg BK167.out)
   have NB168_167 := Aside0.mk (laws_FnExactCourseOf.sh_gt hg BK167.out)
   replace BK150 := Aside0.mk (blk_below BK150.out hb)
   replace BK151 := Aside0.mk (blk_below BK151.out hb)
   replace BK167 := Aside0.mk (blk_below BK167.out hb)
   replace HB := Aside0.mk (below_step HB.out hb)
   clear hb hbox hg
   refine hK.out _ _ ⟨(blk_cell BK150.out 0).trans rfl, (blk_cell BK150.out 1).trans rfl, (blk_cell BK150.out 2).trans rfl, (blk_cell BK150.out 3).trans rfl, (blk_cell BK151.out 0).trans rfl, (blk_cell BK151.out 1).trans rfl, (blk_cell BK151.out 2).trans rfl, (blk_cell BK151.out 3).trans rfl⟩ (fun hHeld => ?_)
   clear hK K
   refine norm_ (a' := ?_) ?_ ?_
   rotate_left
   ·
    show Act.put _ (some 6) _ = _
    simp only [Act.put, List.setIfInBounds_toArray, List.set_cons_zero, List.set_cons_succ, i64_w, i32_w]
    rfl
   exact norm_ (by first | (simp only [putAll, Act.put, List.setIfInBounds_toArray, List.set_cons_zero, List.set_cons_succ]; done) | (simp only [putAll, Act.put, List.setIfInBounds_toArray, List.set_cons_zero, List.set_cons_succ]; rfl)) (hJ1_3_4_9_10 (gb167, gb168) _ ⟨hHeld, BK150.out, BK151.out, BK167.out, BK168.out, GW167.out, GE167.out, NB150_167.out, NB167_150.out, NB151_167.out, NB167_151.out, NB168_167.out, NB167_168.out, GW168.out, GE168.out, NB150_168.out, NB168_150.out, NB151_168.out, NB168_151.out, HB.out⟩)
 rintro ⟨gb167, gb168⟩ w18 ⟨hS_, h0_, h1_, h2_, h3_, h4_, h5_, h6_, h7_, h8_, h9_, h10_, h11_, h12_, h13_, h14_, h15_, h16_, h17_, h18_⟩
 clear BK150 BK151 HB
 have BK167 := Aside0.mk h2_
 have BK168 := Aside0.mk h3_
 have GW167 := Aside0.mk h4_
 have GE167 := Aside0.mk h5_
 have NB150_167 := Aside0.mk h6_
 have NB167_150 := Aside0.mk h7_
 have NB151_167 := Aside0.mk h8_
 have NB167_151 := Aside0.mk h9_
 have NB168_167 := Aside0.mk h10_
 have NB167_168 := Aside0.mk h11_
 have GW168 := Aside0.mk h12_
 have GE168 := Aside0.mk h13_
 have NB150_168 := Aside0.mk h14_
 have NB168_150 := Aside0.mk h15_
 have NB151_168 := Aside0.mk h16_
 have NB168_151 := Aside0.mk h17_
 have BK150 := Aside0.mk h0_
 have BK151 := Aside0.mk h1_
 have HB := Aside0.mk h18_
 clear h0_ h1_ h2_ h3_ h4_ h5_ h6_ h7_ h8_ h9_ h10_ h11_ h12_ h13_ h14_ h15_ h16_ h17_ h18_
 have hHeld := hS_
 refine norm_ (a' := ?_) ?_ ?_
 rotate_left
 ·
  simp only [putAll, Act.put, List.setIfInBounds_toArray, List.set_cons_zero, List.set_cons_succ]
  rfl
 refine one_ (i := 11) (N := none) #[true, true, true, true, true, true, true, true, true, true, true, true, false, false] rfl rfl (one_of HT_.out (by kernel_rfl)) (by decide) (fun K hK => ?_)
 have hs19 : w18.cell? ⟨gb167, 0, none⟩ = some (.int .i64 0) := (blk_cell BK167.out 0).trans rfl
 have hfs19 := blk_frozen BK167.out 0
 have hns19_0 := NB150_167.out
 have hns19_1 := NB151_167.out
 have hns19_3 := NB168_167.out
 have hms19_0 := NB167_150.out
 have hms19_1 := NB167_151.out
 have hms19_3 := NB167_168.out
 have hs20 : w18.cell? ⟨gb167, 1, none⟩ = some (.int .i64 0) := (blk_cell BK167.out 1).trans rfl
 have hfs20 := blk_frozen BK167.out 1
 have hns20_0 := NB150_167.out
 have hns20_1 := NB151_167.out
 have hns20_3 := NB168_167.out
 have hms20_0 := NB167_150.out
 have hms20_1 := NB167_151.out
 have hms20_3 := NB167_168.out
 have hs21 : w18.cell? ⟨gb167, 2, none⟩ = some (.int .i64 0) := (blk_cell BK167.out 2).trans rfl
 have hfs21 := blk_frozen BK167.out 2
 have hns21_0 := NB150_167.out
 have hns21_1 := NB151_167.out
 have hns21_3 := NB168_167.out
 have hms21_0 := NB167_150.out
 have hms21_1 := NB167_151.out
 have hms21_3 := NB167_168.out
 refine skip_ (w1 := ?_) (by rfl) rfl ?_ ?_
 rotate_left
 ·
  go_simp
  rfl
 refine hK.out _ _ ⟨((cell_far (p := ⟨gb167, _, none⟩) NB150_167.out _).trans (((cell_far (p := ⟨gb167, _, none⟩) NB150_167.out _).trans (((cell_far (p := ⟨gb167, _, none⟩) NB150_167.out _).trans (hHeld.1)))))), ((cell_far (p := ⟨gb167, _, none⟩) NB150_167.out _).trans (((cell_far (p := ⟨gb167, _, none⟩) NB150_167.out _).trans (((cell_far (p := ⟨gb167, _, none⟩) NB150_167.out _).trans (hHeld.2.1)))))), ((cell_far (p := ⟨gb167, _, none⟩) NB150_167.out _).trans (((cell_far (p := ⟨gb167, _, none⟩) NB150_167.out _).trans (((cell_far (p := ⟨gb167, _, none⟩) NB150_167.out _).trans (hHeld.2.2.1)))))), ((cell_far (p := ⟨gb167, _, none⟩) NB150_167.out _).trans (((cell_far (p := ⟨gb167, _, none⟩) NB150_167.out _).trans (((cell_far (p := ⟨gb167, _, none⟩) NB150_167.out _).trans (hHeld.2.2.2.1)))))), ((cell_far (p := ⟨gb167, _, none⟩) NB151_167.out _).trans (((cell_far (p := ⟨gb167, _, none⟩) NB151_167.out _).trans (((cell_far (p := ⟨gb167, _, none⟩) NB151_167.out _).trans (hHeld.2.2.2.2.1)))))), ((cell_far (p := ⟨gb167, _, none⟩) NB151_167.out _).trans (((cell_far (p := ⟨gb167, _, none⟩) NB151_167.out _).trans (((cell_far (p := ⟨gb167, _, none⟩) NB151_167.out _).trans (hHeld.2.2.2.2.2.1)))))), ((cell_far (p := ⟨gb167, _, none⟩) NB151_167.out _).trans (((cell_far (p := ⟨gb167, _, none⟩) NB151_167.out _).trans (((cell_far (p := ⟨gb167, _, none⟩) NB151_167.out _).trans (hHeld.2.2.2.2.2.2.1)))))), ((cell_far (p := ⟨gb167, _, none⟩) NB151_167.out _).trans (((cell_far (p := ⟨gb167, _, none⟩) NB151_167.out _).trans (((cell_far (p := ⟨gb167, _, none⟩) NB151_167.out _).trans (hHeld.2.2.2.2.2.2.2))))))⟩ (fun hHeld => ?_)
 clear hK K
 refine one_ (i := 12) (N := none) #[true, true, true, true, true, true, true, true, true, true, true, true, true, false] rfl rfl (one_of HT_.out (by kernel_rfl)) (by decide) (fun K hK => ?_)
 have hs22 : w18.cell? ⟨gb168, 0, none⟩ = some (.int .i64 0) := (blk_cell BK168.out 0).trans rfl
 have hfs22 := blk_frozen BK168.out 0
 have hns22_0 := NB150_168.out
 have hns22_1 := NB151_168.out
 have hns22_2 := NB167_168.out
 have hms22_0 := NB168_150.out
 have hms22_1 := NB168_151.out
 have hms22_2 := NB168_167.out
 have hs23 : w18.cell? ⟨gb168, 1, none⟩ = some (.int .i64 0) := (blk_cell BK168.out 1).trans rfl
 have hfs23 := blk_frozen BK168.out 1
 have hns23_0 := NB150_168.out
 have hns23_1 := NB151_168.out
 have hns23_2 := NB167_168.out
 have hms23_0 := NB168_150.out
 have hms23_1 := NB168_151.out
 have hms23_2 := NB168_167.out
 have hs24 : w18.cell? ⟨gb168, 2, none⟩ = some (.int .i64 0) := (blk_cell BK168.out 2).trans rfl
 have hfs24 := blk_frozen BK168.out 2
 have hns24_0 := NB150_168.out
 have hns24_1 := NB151_168.out
 have hns24_2 := NB167_168.out
 have hms24_0 := NB168_150.out
 have hms24_1 := NB168_151.out
 have hms24_2 := NB168_167.out
 refine skip_ (w1 := ?_) (by rfl) rfl ?_ ?_
 rotate_left
 ·
  go_simp
  rfl
 refine hK.out _ _ ⟨((cell_far (p := ⟨gb168, _, none⟩) NB150_168.out _).trans (((cell_far (p := ⟨gb168, _, none⟩) NB150_168.out _).trans (((cell_far (p := ⟨gb168, _, none⟩) NB150_168.out _).trans (hHeld.1)))))), ((cell_far (p := ⟨gb168, _, none⟩) NB150_168.out _).trans (((cell_far (p := ⟨gb168, _, none⟩) NB150_168.out _).trans (((cell_far (p := ⟨gb168, _, none⟩) NB150_168.out _).trans (hHeld.2.1)))))), ((cell_far (p := ⟨gb168, _, none⟩) NB150_168.out _).trans (((cell_far (p := ⟨gb168, _, none⟩) NB150_168.out _).trans (((cell_far (p := ⟨gb168, _, none⟩) NB150_168.out _).trans (hHeld.2.2.1)))))), ((cell_far (p := ⟨gb168, _, none⟩) NB150_168.out _).trans (((cell_far (p := ⟨gb168, _, none⟩) NB150_168.out _).trans (((cell_far (p := ⟨gb168, _, none⟩) NB150_168.out _).trans (hHeld.2.2.2.1)))))), ((cell_far (p := ⟨gb168, _, none⟩) NB151_168.out _).trans (((cell_far (p := ⟨gb168, _, none⟩) NB151_168.out _).trans (((cell_far (p := ⟨gb168, _, none⟩) NB151_168.out _).trans (hHeld.2.2.2.2.1)))))), ((cell_far (p := ⟨gb168, _, none⟩) NB151_168.out _).trans (((cell_far (p := ⟨gb168, _, none⟩) NB151_168.out _).trans (((cell_far (p := ⟨gb168, _, none⟩) NB151_168.out _).trans (hHeld.2.2.2.2.2.1)))))), ((cell_far (p := ⟨gb168, _, none⟩) NB151_168.out _).trans (((cell_far (p := ⟨gb168, _, none⟩) NB151_168.out _).trans (((cell_far (p := ⟨gb168, _, none⟩) NB151_168.out _).trans (hHeld.2.2.2.2.2.2.1)))))), ((cell_far (p := ⟨gb168, _, none⟩) NB151_168.out _).trans (((cell_far (p := ⟨gb168, _, none⟩) NB151_168.out _).trans (((cell_far (p := ⟨gb168, _, none⟩) NB151_168.out _).trans (hHeld.2.2.2.2.2.2.2))))))⟩ (fun hHeld => ?_)
 clear hK K
 refine pure_ (i := 13) (N := some 7) (v := ?_) (a' := ?_) #[true, true, true, true, true, true, true, true, true, true, true, true, true, true] rfl rfl (any_of HT_.out (by kernel_rfl)) (fun _ _ _ h => h) (Or.inl ⟨by rfl, ?_⟩) ?_ ?_
 rotate_left
 ·
  intro w'
  go_simp
  with_reducible rfl
 rotate_left
 ·
  simp only [Act.put, List.setIfInBounds_toArray, List.set_cons_zero, List.set_cons_succ, i64_w, i32_w]
  rfl
 refine done_ (done_of HT_.out (by kernel_rfl)) ?_
 try go_wp2
 have n0_ : Aside0 (((((((w18.setCell ⟨gb167, 0, none⟩ (.int .i64 t160)).setCell ⟨gb167, 1, none⟩ (.int .i64 t161)).setCell ⟨gb167, 2, none⟩ (.int .i64 t162)).setCell ⟨gb168, 0, none⟩ (.int .i64 t163)).setCell ⟨gb168, 1, none⟩ (.int .i64 t164)).setCell ⟨gb168, 2, none⟩ (.int .i64 t165)).heap[gb150]? = some (.cells #[.int .i64 a0_0, .int .i64 a0_1, .int .i64 a0_2, .int .i64 a0_3] 30 (0, 0))) := ⟨by (with_reducible repeat (first | refine blk_drewN ?_ _ | refine blk_drew ?_ | refine blk_alloc ?_ _)); refine blk_far ?_ NB150_168.out _; (with_reducible repeat (first | refine blk_drewN ?_ _ | refine blk_drew ?_ | refine blk_alloc ?_ _)); refine blk_far ?_ NB150_168.out _; (with_reducible repeat (first | refine blk_drewN ?_ _ | refine blk_drew ?_ | refine blk_alloc ?_ _)); refine blk_far ?_ NB150_168.out _; (with_reducible repeat (first | refine blk_drewN ?_ _ | refine blk_drew ?_ | refine blk_alloc ?_ _)); refine blk_far ?_ NB150_167.out _; (with_reducible repeat (first | refine blk_drewN ?_ _ | refine blk_drew ?_ | refine blk_alloc ?_ _)); refine blk_far ?_ NB150_167.out _; (with_reducible repeat (first | refine blk_drewN ?_ _ | refine blk_drew ?_ | refine blk_alloc ?_ _)); refine blk_far ?_ NB150_167.out _; (with_reducible repeat (first | refine blk_drewN ?_ _ | refine blk_drew ?_ | refine blk_alloc ?_ _)); exact BK150.out⟩
 have n1_ : Aside0 (((((((w18.setCell ⟨gb167, 0, none⟩ (.int .i64 t160)).setCell ⟨gb167, 1, none⟩ (.int .i64 t161)).setCell ⟨gb167, 2, none⟩ (.int .i64 t162)).setCell ⟨gb168, 0, none⟩ (.int .i64 t163)).setCell ⟨gb168, 1, none⟩ (.int .i64 t164)).setCell ⟨gb168, 2, none⟩ (.int .i64 t165)).heap[gb151]? = some (.cells #[.int .i64 a1_0, .int .i64 a1_1, .int .i64 a1_2, .int .i64 a1_3] 30 (0, 0))) := ⟨by (with_reducible repeat (first | refine blk_drewN ?_ _ | refine blk_drew ?_ | refine blk_alloc ?_ _)); refine blk_far ?_ NB151_168.out _; (with_reducible repeat (first | refine blk_drewN ?_ _ | refine blk_drew ?_ | refine blk_alloc ?_ _)); refine blk_far ?_ NB151_168.out _; (with_reducible repeat (first | refine blk_drewN ?_ _ | refine blk_drew ?_ | refine blk_alloc ?_ _)); refine blk_far ?_ NB151_168.out _; (with_reducible repeat (first | refine blk_drewN ?_ _ | refine blk_drew ?_ | refine blk_alloc ?_ _)); refine blk_far ?_ NB151_167.out _; (with_reducible repeat (first | refine blk_drewN ?_ _ | refine blk_drew ?_ | refine blk_alloc ?_ _)); refine blk_far ?_ NB151_167.out _; (with_reducible repeat (first | refine blk_drewN ?_ _ | refine blk_drew ?_ | refine blk_alloc ?_ _)); refine blk_far ?_ NB151_167.out _; (with_reducible repeat (first | refine blk_drewN ?_ _ | refine blk_drew ?_ | refine blk_alloc ?_ _)); exact BK151.out⟩
 have n2_ : Aside0 (((((((w18.setCell ⟨gb167, 0, none⟩ (.int .i64 t160)).setCell ⟨gb167, 1, none⟩ (.int .i64 t161)).setCell ⟨gb167, 2, none⟩ (.int .i64 t162)).setCell ⟨gb168, 0, none⟩ (.int .i64 t163)).setCell ⟨gb168, 1, none⟩ (.int .i64 t164)).setCell ⟨gb168, 2, none⟩ (.int .i64 t165)).heap[gb167]? = some (.cells #[.int .i64 t160, .int .i64 t161, .int .i64 t162] 24 (0, 0))) := ⟨by (with_reducible repeat (first | refine blk_drewN ?_ _ | refine blk_drew ?_ | refine blk_alloc ?_ _)); refine blk_far ?_ NB167_168.out _; (with_reducible repeat (first | refine blk_drewN ?_ _ | refine blk_drew ?_ | refine blk_alloc ?_ _)); refine blk_far ?_ NB167_168.out _; (with_reducible repeat (first | refine blk_drewN ?_ _ | refine blk_drew ?_ | refine blk_alloc ?_ _)); refine blk_far ?_ NB167_168.out _; (with_reducible repeat (first | refine blk_drewN ?_ _ | refine blk_drew ?_ | refine blk_alloc ?_ _)); refine blk_put (cs := #[.int .i64 t160, .int .i64 t161, .int .i64 0]) ?_ 2 _ rfl; (with_reducible repeat (first | refine blk_drewN ?_ _ | refine blk_drew ?_ | refine blk_alloc ?_ _)); refine blk_put (cs := #[.int .i64 t160, .int .i64 0, .int .i64 0]) ?_ 1 _ rfl; (with_reducible repeat (first | refine blk_drewN ?_ _ | refine blk_drew ?_ | refine blk_alloc ?_ _)); refine blk_put (cs := #[.int .i64 0, .int .i64 0, .int .i64 0]) ?_ 0 _ rfl; (with_reducible repeat (first | refine blk_drewN ?_ _ | refine blk_drew ?_ | refine blk_alloc ?_ _)); exact BK167.out⟩
 have n3_ : Aside0 (((((((w18.setCell ⟨gb167, 0, none⟩ (.int .i64 t160)).setCell ⟨gb167, 1, none⟩ (.int .i64 t161)).setCell ⟨gb167, 2, none⟩ (.int .i64 t162)).setCell ⟨gb168, 0, none⟩ (.int .i64 t163)).setCell ⟨gb168, 1, none⟩ (.int .i64 t164)).setCell ⟨gb168, 2, none⟩ (.int .i64 t165)).heap[gb168]? = some (.cells #[.int .i64 t163, .int .i64 t164, .int .i64 t165] 24 (0, 0))) := ⟨by (with_reducible repeat (first | refine blk_drewN ?_ _ | refine blk_drew ?_ | refine blk_alloc ?_ _)); refine blk_put (cs := #[.int .i64 t163, .int .i64 t164, .int .i64 0]) ?_ 2 _ rfl; (with_reducible repeat (first | refine blk_drewN ?_ _ | refine blk_drew ?_ | refine blk_alloc ?_ _)); refine blk_put (cs := #[.int .i64 t163, .int .i64 0, .int .i64 0]) ?_ 1 _ rfl; (with_reducible repeat (first | refine blk_drewN ?_ _ | refine blk_drew ?_ | refine blk_alloc ?_ _)); refine blk_put (cs := #[.int .i64 0, .int .i64 0, .int .i64 0]) ?_ 0 _ rfl; (with_reducible repeat (first | refine blk_drewN ?_ _ | refine blk_drew ?_ | refine blk_alloc ?_ _)); refine blk_far ?_ NB168_167.out _; (with_reducible repeat (first | refine blk_drewN ?_ _ | refine blk_drew ?_ | refine blk_alloc ?_ _)); refine blk_far ?_ NB168_167.out _; (with_reducible repeat (first | refine blk_drewN ?_ _ | refine blk_drew ?_ | refine blk_alloc ?_ _)); refine blk_far ?_ NB168_167.out _; (with_reducible repeat (first | refine blk_drewN ?_ _ | refine blk_drew ?_ | refine blk_alloc ?_ _)); exact BK168.out⟩
 have n4_ : Aside0 (Below w.heap.size w ((((((w18.setCell ⟨gb167, 0, none⟩ (.int .i64 t160)).setCell ⟨gb167, 1, none⟩ (.int .i64 t161)).setCell ⟨gb167, 2, none⟩ (.int .i64 t162)).setCell ⟨gb168, 0, none⟩ (.int .i64 t163)).setCell ⟨gb168, 1, none⟩ (.int .i64 t164)).setCell ⟨gb168, 2, none⟩ (.int .i64 t165))) := ⟨by repeat (first | (with_reducible first | exact HB.out | apply below_alloc | apply pw_below_drewN | apply below_drew1 | refine below_set ?_ GE150.out | refine below_set ?_ GE151.out | refine below_set ?_ GE167.out | refine below_set ?_ GE168.out) | exact HB.out)⟩
 (try clear BK150)
 (try clear BK151)
 (try clear BK167)
 (try clear BK168)
 (try clear HB)
 generalize ((((((w18.setCell ⟨gb167, 0, none⟩ (.int .i64 t160)).setCell ⟨gb167, 1, none⟩ (.int .i64 t161)).setCell ⟨gb167, 2, none⟩ (.int .i64 t162)).setCell ⟨gb168, 0, none⟩ (.int .i64 t163)).setCell ⟨gb168, 1, none⟩ (.int .i64 t164)).setCell ⟨gb168, 2, none⟩ (.int .i64 t165)) = w25 at n0_ n1_ n2_ n3_ n4_ ⊢
 have BK150 := n0_
 have BK151 := n1_
 have BK167 := n2_
 have BK168 := n3_
 have HB := n4_
 clear n0_ n1_ n2_ n3_ n4_
 replace BK150 := Aside0.mk (blk_drew BK150.out)
 replace BK151 := Aside0.mk (blk_drew BK151.out)
 replace BK167 := Aside0.mk (blk_drew BK167.out)
 replace BK168 := Aside0.mk (blk_drew BK168.out)
 replace HB := Aside0.mk (below_drew1 HB.out)
 refine start_ (n := 14) (S := fun w' => w'.cell? ⟨gb150, 0, none⟩ = some (.int .i64 a0_0) ∧ w'.cell? ⟨gb150, 1, none⟩ = some (.int .i64 a0_1) ∧ w'.cell? ⟨gb150, 2, none⟩ = some (.int .i64 a0_2) ∧ w'.cell? ⟨gb150, 3, none⟩ = some (.int .i64 a0_3) ∧ w'.cell? ⟨gb151, 0, none⟩ = some (.int .i64 a1_0) ∧ w'.cell? ⟨gb151, 1, none⟩ = some (.int .i64 a1_1) ∧ w'.cell? ⟨gb151, 2, none⟩ = some (.int .i64 a1_2) ∧ w'.cell? ⟨gb151, 3, none⟩ = some (.int .i64 a1_3)) (ds := []) #[false, false, false, false, false, false, false, false, false, false, false, false, false, false] (by kernel_rfl) rfl rfl ⟨(blk_cell BK150.out 0).trans rfl, (blk_cell BK150.out 1).trans rfl, (blk_cell BK150.out 2).trans rfl, (blk_cell BK150.out 3).trans rfl, (blk_cell BK151.out 0).trans rfl, (blk_cell BK151.out 1).trans rfl, (blk_cell BK151.out 2).trans rfl, (blk_cell BK151.out 3).trans rfl⟩ (fun hHeld => ?_); refine with_tabW laws_FnExactCourseOf.tab2 laws_FnExactCourseOf.bits2 (fun HT_ HW_ => ?_)
 generalize w25.drew = w26 at BK150 BK151 BK167 BK168 HB hHeld ⊢
 refine take_ (i := 0) (N := some 21) (v := ?_) (a' := ?_) #[true, false, false, false, false, false, false, false, false, false, false, false, false, false] rfl rfl (take_ofW HT_.out HW_.out (by kernel_rfl)) (fun _ _ _ h => h) (Or.inl ⟨by rfl, ?_⟩) hHeld ?_ ?_
 rotate_left
 ·
  rintro w' ⟨s0, s1, s2, s3, s4, s5, s6, s7⟩
  go_simp
  with_reducible rfl
 rotate_left
 ·
  simp only [Act.put, List.setIfInBounds_toArray, List.set_cons_zero, List.set_cons_succ, i64_w, i32_w]
  rfl
 refine take_ (i := 2) (N := some 23) (v := ?_) (a' := ?_) #[true, false, true, false, false, false, false, false, false, false, false, false, false, false] rfl rfl (take_ofW HT_.out HW_.out (by kernel_rfl)) (fun _ _ _ h => h) (Or.inl ⟨by rfl, ?_⟩) hHeld ?_ ?_
 rotate_left
 ·
  rintro w' ⟨s0, s1, s2, s3, s4, s5, s6, s7⟩
  go_simp
  with_reducible rfl
 rotate_left
 ·
  simp only [Act.put, List.setIfInBounds_toArray, List.set_cons_zero, List.set_cons_succ, i64_w, i32_w]
  rfl
 refine join_ (σ := Nat × Nat) 3 #[true, true, true, true, true, true, true, true, true, true, true, false, false, false] (fun s_ => [(22, .agg #[.int .i64 t169, .int .i64 t170, .int .i64 t171, .int .i64 t172]), (24, .agg #[.int .i64 t173, .int .i64 t174, .int .i64 t175, .int .i64 t176]), (25, .tuple #[.agg #[.int .i64 t177, .int .i64 t178, .int .i64 t179], .agg #[.int .i64 t180, .int .i64 t181, .int .i64 t182], .bool t183]), (8, .pointer (some ⟨s_.1, 0, none⟩)), (9, .pointer (some ⟨s_.2, 0, none⟩)), (20, .tuple #[.agg #[.int .i64 t177, .int .i64 t178, .int .i64 t179], .agg #[.int .i64 t180, .int .i64 t181, .int .i64 t182], .bool t183]), (26, .agg #[.int .i64 t177, .int .i64 t178, .int .i64 t179]), (27, .agg #[.int .i64 t180, .int .i64 t181, .int .i64 t182]), (28, .bool t183)]) (fun s_ w' => (w'.cell? ⟨gb150, 0, none⟩ = some (.int .i64 a0_0) ∧ w'.cell? ⟨gb150, 1, none⟩ = some (.int .i64 a0_1) ∧ w'.cell? ⟨gb150, 2, none⟩ = some (.int .i64 a0_2) ∧ w'.cell? ⟨gb150, 3, none⟩ = some (.int .i64 a0_3) ∧ w'.cell? ⟨gb151, 0, none⟩ = some (.int .i64 a1_0) ∧ w'.cell? ⟨gb151, 1, none⟩ = some (.int .i64 a1_1) ∧ w'.cell? ⟨gb151, 2, none⟩ = some (.int .i64 a1_2) ∧ w'.cell? ⟨gb151, 3, none⟩ = some (.int .i64 a1_3)) ∧ (w'.heap[gb150]? = some (.cells #[.int .i64 a0_0, .int .i64 a0_1, .int .i64 a0_2, .int .i64 a0_3] 30 (0, 0))) ∧ (w'.heap[gb151]? = some (.cells #[.int .i64 a1_0, .int .i64 a1_1, .int .i64 a1_2, .int .i64 a1_3] 30 (0, 0))) ∧ (w'.heap[gb167]? = some (.cells #[.int .i64 t160, .int .i64 t161, .int .i64 t162] 24 (0, 0))) ∧ (w'.heap[gb168]? = some (.cells #[.int .i64 t163, .int .i64 t164, .int .i64 t165] 24 (0, 0))) ∧ (w'.heap[s_.1]? = some (.cells #[.int .i64 0, .int .i64 0, .int .i64 0] 24 (0, 0))) ∧ (w'.heap[s_.2]? = some (.cells #[.int .i64 0, .int .i64 0, .int .i64 0] 24 (0, 0))) ∧ (w.heap.size ≤ s_.1) ∧ (w.heap.size ≤ s_.1) ∧ (gb150 ≠ s_.1) ∧ (s_.1 ≠ gb150) ∧ (gb151 ≠ s_.1) ∧ (s_.1 ≠ gb151) ∧ (gb167 ≠ s_.1) ∧ (s_.1 ≠ gb167) ∧ (gb168 ≠ s_.1) ∧ (s_.1 ≠ gb168) ∧ (s_.2 ≠ s_.1) ∧ (s_.1 ≠ s_.2) ∧ (w.heap.size ≤ s_.2) ∧ (w.heap.size ≤ s_.2) ∧ (gb150 ≠ s_.2) ∧ (s_.2 ≠ gb150) ∧ (gb151 ≠ s_.2) ∧ (s_.2 ≠ gb151) ∧ (gb167 ≠ s_.2) ∧ (s_.2 ≠ gb167) ∧ (gb168 ≠ s_.2) ∧ (s_.2 ≠ gb168) ∧ (Below w.heap.size w w')) ?_ ?_
 rotate_left
 ·
  intro hJ1_3_4_9_10
  refine join_ (σ := Nat) 4 #[true, true, true, true, true, true, true, true, true, true, false, false, false, false] (fun s_ => [(22, .agg #[.int .i64 t169, .int .i64 t170, .int .i64 t171, .int .i64 t172]), (24, .agg #[.int .i64 t173, .int .i64 t174, .int .i64 t175, .int .i64 t176]), (25, .tuple #[.agg #[.int .i64 t177, .int .i64 t178, .int .i64 t179], .agg #[.int .i64 t180, .int .i64 t181, .int .i64 t182], .bool t183]), (8, .pointer (some ⟨s_, 0, none⟩)), (20, .tuple #[.agg #[.int .i64 t177, .int .i64 t178, .int .i64 t179], .agg #[.int .i64 t180, .int .i64 t181, .int .i64 t182], .bool t183]), (26, .agg #[.int .i64 t177, .int .i64 t178, .int .i64 t179]), (27, .agg #[.int .i64 t180, .int .i64 t181, .int .i64 t182]), (28, .bool t183)]) (fun s_ w' => (w'.cell? ⟨gb150, 0, none⟩ = some (.int .i64 a0_0) ∧ w'.cell? ⟨gb150, 1, none⟩ = some (.int .i64 a0_1) ∧ w'.cell? ⟨gb150, 2, none⟩ = some (.int .i64 a0_2) ∧ w'.cell? ⟨gb150, 3, none⟩ = some (.int .i64 a0_3) ∧ w'.cell? ⟨gb151, 0, none⟩ = some (.int .i64 a1_0) ∧ w'.cell? ⟨gb151, 1, none⟩ = some (.int .i64 a1_1) ∧ w'.cell? ⟨gb151, 2, none⟩ = some (.int .i64 a1_2) ∧ w'.cell? ⟨gb151, 3, none⟩ = some (.int .i64 a1_3)) ∧ (w'.heap[gb150]? = some (.cells #[.int .i64 a0_0, .int .i64 a0_1, .int .i64 a0_2, .int .i64 a0_3] 30 (0, 0))) ∧ (w'.heap[gb151]? = some (.cells #[.int .i64 a1_0, .int .i64 a1_1, .int .i64 a1_2, .int .i64 a1_3] 30 (0, 0))) ∧ (w'.heap[gb167]? = some (.cells #[.int .i64 t160, .int .i64 t161, .int .i64 t162] 24 (0, 0))) ∧ (w'.heap[gb168]? = some (.cells #[.int .i64 t163, .int .i64 t164, .int .i64 t165] 24 (0, 0))) ∧ (w'.heap[s_]? = some (.cells #[.int .i64 0, .int .i64 0, .int .i64 0] 24 (0, 0))) ∧ (w.heap.size ≤ s_) ∧ (w.heap.size ≤ s_) ∧ (gb150 ≠ s_) ∧ (s_ ≠ gb150) ∧ (gb151 ≠ s_) ∧ (s_ ≠ gb151) ∧ (gb167 ≠ s_) ∧ (s_ ≠ gb167) ∧ (gb168 ≠ s_) ∧ (s_ ≠ gb168) ∧ (Below w.heap.size w w')) ?_ ?_
  rotate_left
  ·
   intro hJ1_3_4_9
   refine join_ (σ := Nat) 4 #[true, true, true, true, true, true, true, true, true, false, true, false, false, false] (fun s_ => [(22, .agg #[.int .i64 t169, .int .i64 t170, .int .i64 t171, .int .i64 t172]), (24, .agg #[.int .i64 t173, .int .i64 t174, .int .i64 t175, .int .i64 t176]), (25, .tuple #[.agg #[.int .i64 t177, .int .i64 t178, .int .i64 t179], .agg #[.int .i64 t180, .int .i64 t181, .int .i64 t182], .bool t183]), (9, .pointer (some ⟨s_, 0, none⟩)), (20, .tuple #[.agg #[.int .i64 t177, .int .i64 t178, .int .i64 t179], .agg #[.int .i64 t180, .int .i64 t181, .int .i64 t182], .bool t183]), (26, .agg #[.int .i64 t177, .int .i64 t178, .int .i64 t179]), (27, .agg #[.int .i64 t180, .int .i64 t181, .int .i64 t182]), (28, .bool t183)]) (fun s_ w' => (w'.cell? ⟨gb150, 0, none⟩ = some (.int .i64 a0_0) ∧ w'.cell? ⟨gb150, 1, none⟩ = some (.int .i64 a0_1) ∧ w'.cell? ⟨gb150, 2, none⟩ = some (.int .i64 a0_2) ∧ w'.cell? ⟨gb150, 3, none⟩ = some (.int .i64 a0_3) ∧ w'.cell? ⟨gb151, 0, none⟩ = some (.int .i64 a1_0) ∧ w'.cell? ⟨gb151, 1, none⟩ = some (.int .i64 a1_1) ∧ w'.cell? ⟨gb151, 2, none⟩ = some (.int .i64 a1_2) ∧ w'.cell? ⟨gb151, 3, none⟩ = some (.int .i64 a1_3)) ∧ (w'.heap[gb150]? = some (.cells #[.int .i64 a0_0, .int .i64 a0_1, .int .i64 a0_2, .int .i64 a0_3] 30 (0, 0))) ∧ (w'.heap[gb151]? = some (.cells #[.int .i64 a1_0, .int .i64 a1_1, .int .i64 a1_2, .int .i64 a1_3] 30 (0, 0))) ∧ (w'.heap[gb167]? = some (.cells #[.int .i64 t160, .int .i64 t161, .int .i64 t162] 24 (0, 0))) ∧ (w'.heap[gb168]? = some (.cells #[.int .i64 t163, .int .i64 t164, .int .i64 t165] 24 (0, 0))) ∧ (w'.heap[s_]? = some (.cells #[.int .i64 0, .int .i64 0, .int .i64 0] 24 (0, 0))) ∧ (w.heap.size ≤ s_) ∧ (w.heap.size ≤ s_) ∧ (gb150 ≠ s_) ∧ (s_ ≠ gb150) ∧ (gb151 ≠ s_) ∧ (s_ ≠ gb151) ∧ (gb167 ≠ s_) ∧ (s_ ≠ gb167) ∧ (gb168 ≠ s_) ∧ (s_ ≠ gb168) ∧ (Below w.heap.size w w')) ?_ ?_
   rotate_left
   ·
    intro hJ1_3_4_10
    refine join_ (σ := Nat × Nat) 8 #[true, true, true, true, false, false, false, false, false, true, true, false, false, false] (fun s_ => [(22, .agg #[.int .i64 t169, .int .i64 t170, .int .i64 t171, .int .i64 t172]), (24, .agg #[.int .i64 t173, .int .i64 t174, .int .i64 t175, .int .i64 t176]), (8, .pointer (some ⟨s_.1, 0, none⟩)), (9, .pointer (some ⟨s_.2, 0, none⟩))]) (fun s_ w' => (w'.cell? ⟨gb150, 0, none⟩ = some (.int .i64 a0_0) ∧ w'.cell? ⟨gb150, 1, none⟩ = some (.int .i64 a0_1) ∧ w'.cell? ⟨gb150, 2, none⟩ = some (.int .i64 a0_2) ∧ w'.cell? ⟨gb150, 3, none⟩ = some (.int .i64 a0_3) ∧ w'.cell? ⟨gb151, 0, none⟩ = some (.int .i64 a1_0) ∧ w'.cell? ⟨gb151, 1, none⟩ = some (.int .i64 a1_1) ∧ w'.cell? ⟨gb151, 2, none⟩ = some (.int .i64 a1_2) ∧ w'.cell? ⟨gb151, 3, none⟩ = some (.int .i64 a1_3)) ∧ (w'.heap[gb150]? = some (.cells #[.int .i64 a0_0, .int .i64 a0_1, .int .i64 a0_2, .int .i64 a0_3] 30 (0, 0))) ∧ (w'.heap[gb151]? = some (.cells #[.int .i64 a1_0, .int .i64 a1_1, .int .i64 a1_2, .int .i64 a1_3] 30 (0, 0))) ∧ (w'.heap[gb167]? = some (.cells #[.int .i64 t160, .int .i64 t161, .int .i64 t162] 24 (0, 0))) ∧ (w'.heap[gb168]? = some (.cells #[.int .i64 t163, .int .i64 t164, .int .i64 t165] 24 (0, 0))) ∧ (w'.heap[s_.1]? = some (.cells #[.int .i64 0, .int .i64 0, .int .i64 0] 24 (0, 0))) ∧ (w'.heap[s_.2]? = some (.cells #[.int .i64 0, .int .i64 0, .int .i64 0] 24 (0, 0))) ∧ (w.heap.size ≤ s_.1) ∧ (w.heap.size ≤ s_.1) ∧ (gb150 ≠ s_.1) ∧ (s_.1 ≠ gb150) ∧ (gb151 ≠ s_.1) ∧ (s_.1 ≠ gb151) ∧ (gb167 ≠ s_.1) ∧ (s_.1 ≠ gb167) ∧ (gb168 ≠ s_.1) ∧ (s_.1 ≠ gb168) ∧ (s_.2 ≠ s_.1) ∧ (s_.1 ≠ s_.2) ∧ (w.heap.size ≤ s_.2) ∧ (w.heap.size ≤ s_.2) ∧ (gb150 ≠ s_.2) ∧ (s_.2 ≠ gb150) ∧ (gb151 ≠ s_.2) ∧ (s_.2 ≠ gb151) ∧ (gb167 ≠ s_.2) ∧ (s_.2 ≠ gb167) ∧ (gb168 ≠ s_.2) ∧ (s_.2 ≠ gb168) ∧ (Below w.heap.size w w')) ?_ ?_
    rotate_left
    ·
     intro hJ1_3_9_10
     refine join_ (σ := Unit) 5 #[true, true, true, true, true, true, true, true, true, false, false, false, false, false] (fun s_ => [(22, .agg #[.int .i64 t169, .int .i64 t170, .int .i64 t171, .int .i64 t172]), (24, .agg #[.int .i64 t173, .int .i64 t174, .int .i64 t175, .int .i64 t176]), (25, .tuple #[.agg #[.int .i64 t177, .int .i64 t178, .int .i64 t179], .agg #[.int .i64 t180, .int .i64 t181, .int .i64 t182], .bool t183]), (20, .tuple #[.agg #[.int .i64 t177, .int .i64 t178, .int .i64 t179], .agg #[.int .i64 t180, .int .i64 t181, .int .i64 t182], .bool t183]), (26, .agg #[.int .i64 t177, .int .i64 t178, .int .i64 t179]), (27, .agg #[.int .i64 t180, .int .i64 t181, .int .i64 t182]), (28, .bool t183)]) (fun s_ w' => (w'.cell? ⟨gb150, 0, none⟩ = some (.int .i64 a0_0) ∧ w'.cell? ⟨gb150, 1, none⟩ = some (.int .i64 a0_1) ∧ w'.cell? ⟨gb150, 2, none⟩ = some (.int .i64 a0_2) ∧ w'.cell? ⟨gb150, 3, none⟩ = some (.int .i64 a0_3) ∧ w'.cell? ⟨gb151, 0, none⟩ = some (.int .i64 a1_0) ∧ w'.cell? ⟨gb151, 1, none⟩ = some (.int .i64 a1_1) ∧ w'.cell? ⟨gb151, 2, none⟩ = some (.int .i64 a1_2) ∧ w'.cell? ⟨gb151, 3, none⟩ = some (.int .i64 a1_3)) ∧ (w'.heap[gb150]? = some (.cells #[.int .i64 a0_0, .int .i64 a0_1, .int .i64 a0_2, .int .i64 a0_3] 30 (0, 0))) ∧ (w'.heap[gb151]? = some (.cells #[.int .i64 a1_0, .int .i64 a1_1, .int .i64 a1_2, .int .i64 a1_3] 30 (0, 0))) ∧ (w'.heap[gb167]? = some (.cells #[.int .i64 t160, .int .i64 t161, .int .i64 t162] 24 (0, 0))) ∧ (w'.heap[gb168]? = some (.cells #[.int .i64 t163, .int .i64 t164, .int .i64 t165] 24 (0, 0))) ∧ (Below w.heap.size w w')) ?_ ?_
     rotate_left
     ·
      intro hJ1_3_4
      refine join_ (σ := Nat) 9 #[true, true, true, true, false, false, false, false, false, true, false, false, false, false] (fun s_ => [(22, .agg #[.int .i64 t169, .int .i64 t170, .int .i64 t171, .int .i64 t172]), (24, .agg #[.int .i64 t173, .int .i64 t174, .int .i64 t175, .int .i64 t176]), (8, .pointer (some ⟨s_, 0, none⟩))]) (fun s_ w' => (w'.cell? ⟨gb150, 0, none⟩ = some (.int .i64 a0_0) ∧ w'.cell? ⟨gb150, 1, none⟩ = some (.int .i64 a0_1) ∧ w'.cell? ⟨gb150, 2, none⟩ = some (.int .i64 a0_2) ∧ w'.cell? ⟨gb150, 3, none⟩ = some (.int .i64 a0_3) ∧ w'.cell? ⟨gb151, 0, none⟩ = some (.int .i64 a1_0) ∧ w'.cell? ⟨gb151, 1, none⟩ = some (.int .i64 a1_1) ∧ w'.cell? ⟨gb151, 2, none⟩ = some (.int .i64 a1_2) ∧ w'.cell? ⟨gb151, 3, none⟩ = some (.int .i64 a1_3)) ∧ (w'.heap[gb150]? = some (.cells #[.int .i64 a0_0, .int .i64 a0_1, .int .i64 a0_2, .int .i64 a0_3] 30 (0, 0))) ∧ (w'.heap[gb151]? = some (.cells #[.int .i64 a1_0, .int .i64 a1_1, .int .i64 a1_2, .int .i64 a1_3] 30 (0, 0))) ∧ (w'.heap[gb167]? = some (.cells #[.int .i64 t160, .int .i64 t161, .int .i64 t162] 24 (0, 0))) ∧ (w'.heap[gb168]? = some (.cells #[.int .i64 t163, .int .i64 t164, .int .i64 t165] 24 (0, 0))) ∧ (w'.heap[s_]? = some (.cells #[.int .i64 0, .int .i64 0, .int .i64 0] 24 (0, 0))) ∧ (w.heap.size ≤ s_) ∧ (w.heap.size ≤ s_) ∧ (gb150 ≠ s_) ∧ (s_ ≠ gb150) ∧ (gb151 ≠ s_) ∧ (s_ ≠ gb151) ∧ (gb167 ≠ s_) ∧ (s_ ≠ gb167) ∧ (gb168 ≠ s_) ∧ (s_ ≠ gb168) ∧ (Below w.heap.size w w')) ?_ ?_
      rotate_left
      ·
       intro hJ1_3_9
       refine join_ (σ := Nat) 9 #[true, true, true, true, false, false, false, false, false, false, true, false, false, false] (fun s_ => [(22, .agg #[.int .i64 t169, .int .i64 t170, .int .i64 t171, .int .i64 t172]), (24, .agg #[.int .i64 t173, .int .i64 t174, .int .i64 t175, .int .i64 t176]), (9, .pointer (some ⟨s_, 0, none⟩))]) (fun s_ w' => (w'.cell? ⟨gb150, 0, none⟩ = some (.int .i64 a0_0) ∧ w'.cell? ⟨gb150, 1, none⟩ = some (.int .i64 a0_1) ∧ w'.cell? ⟨gb150, 2, none⟩ = some (.int .i64 a0_2) ∧ w'.cell? ⟨gb150, 3, none⟩ = some (.int .i64 a0_3) ∧ w'.cell? ⟨gb151, 0, none⟩ = some (.int .i64 a1_0) ∧ w'.cell? ⟨gb151, 1, none⟩ = some (.int .i64 a1_1) ∧ w'.cell? ⟨gb151, 2, none⟩ = some (.int .i64 a1_2) ∧ w'.cell? ⟨gb151, 3, none⟩ = some (.int .i64 a1_3)) ∧ (w'.heap[gb150]? = some (.cells #[.int .i64 a0_0, .int .i64 a0_1, .int .i64 a0_2, .int .i64 a0_3] 30 (0, 0))) ∧ (w'.heap[gb151]? = some (.cells #[.int .i64 a1_0, .int .i64 a1_1, .int .i64 a1_2, .int .i64 a1_3] 30 (0, 0))) ∧ (w'.heap[gb167]? = some (.cells #[.int .i64 t160, .int .i64 t161, .int .i64 t162] 24 (0, 0))) ∧ (w'.heap[gb168]? = some (.cells #[.int .i64 t163, .int .i64 t164, .int .i64 t165] 24 (0, 0))) ∧ (w'.heap[s_]? = some (.cells #[.int .i64 0, .int .i64 0, .int .i64 0] 24 (0, 0))) ∧ (w.heap.size ≤ s_) ∧ (w.heap.size ≤ s_) ∧ (gb150 ≠ s_) ∧ (s_ ≠ gb150) ∧ (gb151 ≠ s_) ∧ (s_ ≠ gb151) ∧ (gb167 ≠ s_) ∧ (s_ ≠ gb167) ∧ (gb168 ≠ s_) ∧ (s_ ≠ gb168) ∧ (Below w.heap.size w w')) ?_ ?_
       rotate_left
       ·
        intro hJ1_3_10
        refine join_ (σ := Nat × Nat) 9 #[true, true, true, false, false, false, false, false, false, true, true, false, false, false] (fun s_ => [(22, .agg #[.int .i64 t169, .int .i64 t170, .int .i64 t171, .int .i64 t172]), (8, .pointer (some ⟨s_.1, 0, none⟩)), (9, .pointer (some ⟨s_.2, 0, none⟩))]) (fun s_ w' => (w'.cell? ⟨gb150, 0, none⟩ = some (.int .i64 a0_0) ∧ w'.cell? ⟨gb150, 1, none⟩ = some (.int .i64 a0_1) ∧ w'.cell? ⟨gb150, 2, none⟩ = some (.int .i64 a0_2) ∧ w'.cell? ⟨gb150, 3, none⟩ = some (.int .i64 a0_3) ∧ w'.cell? ⟨gb151, 0, none⟩ = some (.int .i64 a1_0) ∧ w'.cell? ⟨gb151, 1, none⟩ = some (.int .i64 a1_1) ∧ w'.cell? ⟨gb151, 2, none⟩ = some (.int .i64 a1_2) ∧ w'.cell? ⟨gb151, 3, none⟩ = some (.int .i64 a1_3)) ∧ (w'.heap[gb150]? = some (.cells #[.int .i64 a0_0, .int .i64 a0_1, .int .i64 a0_2, .int .i64 a0_3] 30 (0, 0))) ∧ (w'.heap[gb151]? = some (.cells #[.int .i64 a1_0, .int .i64 a1_1, .int .i64 a1_2, .int .i64 a1_3] 30 (0, 0))) ∧ (w'.heap[gb167]? = some (.cells #[.int .i64 t160, .int .i64 t161, .int .i64 t162] 24 (0, 0))) ∧ (w'.heap[gb168]? = some (.cells #[.int .i64 t163, .int .i64 t164, .int .i64 t165] 24 (0, 0))) ∧ (w'.heap[s_.1]? = some (.cells #[.int .i64 0, .int .i64 0, .int .i64 0] 24 (0, 0))) ∧ (w'.heap[s_.2]? = some (.cells #[.int .i64 0, .int .i64 0, .int .i64 0] 24 (0, 0))) ∧ (w.heap.size ≤ s_.1) ∧ (w.heap.size ≤ s_.1) ∧ (gb150 ≠ s_.1) ∧ (s_.1 ≠ gb150) ∧ (gb151 ≠ s_.1) ∧ (s_.1 ≠ gb151) ∧ (gb167 ≠ s_.1) ∧ (s_.1 ≠ gb167) ∧ (gb168 ≠ s_.1) ∧ (s_.1 ≠ gb168) ∧ (s_.2 ≠ s_.1) ∧ (s_.1 ≠ s_.2) ∧ (w.heap.size ≤ s_.2) ∧ (w.heap.size ≤ s_.2) ∧ (gb150 ≠ s_.2) ∧ (s_.2 ≠ gb150) ∧ (gb151 ≠ s_.2) ∧ (s_.2 ≠ gb151) ∧ (gb167 ≠ s_.2) ∧ (s_.2 ≠ gb167) ∧ (gb168 ≠ s_.2) ∧ (s_.2 ≠ gb168) ∧ (Below w.heap.size w w')) ?_ ?_
        rotate_left
        ·
         intro hJ1_9_10
         refine join_ (σ := Unit) 10 #[true, true, true, true, false, false, false, false, false, false, false, false, false, false] (fun s_ => [(22, .agg #[.int .i64 t169, .int .i64 t170, .int .i64 t171, .int .i64 t172]), (24, .agg #[.int .i64 t173, .int .i64 t174, .int .i64 t175, .int .i64 t176])]) (fun s_ w' => (w'.cell? ⟨gb150, 0, none⟩ = some (.int .i64 a0_0) ∧ w'.cell? ⟨gb150, 1, none⟩ = some (.int .i64 a0_1) ∧ w'.cell? ⟨gb150, 2, none⟩ = some (.int .i64 a0_2) ∧ w'.cell? ⟨gb150, 3, none⟩ = some (.int .i64 a0_3) ∧ w'.cell? ⟨gb151, 0, none⟩ = some (.int .i64 a1_0) ∧ w'.cell? ⟨gb151, 1, none⟩ = some (.int .i64 a1_1) ∧ w'.cell? ⟨gb151, 2, none⟩ = some (.int .i64 a1_2) ∧ w'.cell? ⟨gb151, 3, none⟩ = some (.int .i64 a1_3)) ∧ (w'.heap[gb150]? = some (.cells #[.int .i64 a0_0, .int .i64 a0_1, .int .i64 a0_2, .int .i64 a0_3] 30 (0, 0))) ∧ (w'.heap[gb151]? = some (.cells #[.int .i64 a1_0, .int .i64 a1_1, .int .i64 a1_2, .int .i64 a1_3] 30 (0, 0))) ∧ (w'.heap[gb167]? = some (.cells #[.int .i64 t160, .int .i64 t161, .int .i64 t162] 24 (0, 0))) ∧ (w'.heap[gb168]? = some (.cells #[.int .i64 t163, .int .i64 t164, .int .i64 t165] 24 (0, 0))) ∧ (Below w.heap.size w w')) ?_ ?_
         rotate_left
         ·
          intro hJ1_3
          refine join_ (σ := Nat) 10 #[true, true, true, false, false, false, false, false, false, true, false, false, false, false] (fun s_ => [(22, .agg #[.int .i64 t169, .int .i64 t170, .int .i64 t171, .int .i64 t172]), (8, .pointer (some ⟨s_, 0, none⟩))]) (fun s_ w' => (w'.cell? ⟨gb150, 0, none⟩ = some (.int .i64 a0_0) ∧ w'.cell? ⟨gb150, 1, none⟩ = some (.int .i64 a0_1) ∧ w'.cell? ⟨gb150, 2, none⟩ = some (.int .i64 a0_2) ∧ w'.cell? ⟨gb150, 3, none⟩ = some (.int .i64 a0_3) ∧ w'.cell? ⟨gb151, 0, none⟩ = some (.int .i64 a1_0) ∧ w'.cell? ⟨gb151, 1, none⟩ = some (.int .i64 a1_1) ∧ w'.cell? ⟨gb151, 2, none⟩ = some (.int .i64 a1_2) ∧ w'.cell? ⟨gb151, 3, none⟩ = some (.int .i64 a1_3)) ∧ (w'.heap[gb150]? = some (.cells #[.int .i64 a0_0, .int .i64 a0_1, .int .i64 a0_2, .int .i64 a0_3] 30 (0, 0))) ∧ (w'.heap[gb151]? = some (.cells #[.int .i64 a1_0, .int .i64 a1_1, .int .i64 a1_2, .int .i64 a1_3] 30 (0, 0))) ∧ (w'.heap[gb167]? = some (.cells #[.int .i64 t160, .int .i64 t161, .int .i64 t162] 24 (0, 0))) ∧ (w'.heap[gb168]? = some (.cells #[.int .i64 t163, .int .i64 t164, .int .i64 t165] 24 (0, 0))) ∧ (w'.heap[s_]? = some (.cells #[.int .i64 0, .int .i64 0, .int .i64 0] 24 (0, 0))) ∧ (w.heap.size ≤ s_) ∧ (w.heap.size ≤ s_) ∧ (gb150 ≠ s_) ∧ (s_ ≠ gb150) ∧ (gb151 ≠ s_) ∧ (s_ ≠ gb151) ∧ (gb167 ≠ s_) ∧ (s_ ≠ gb167) ∧ (gb168 ≠ s_) ∧ (s_ ≠ gb168) ∧ (Below w.heap.size w w')) ?_ ?_
          rotate_left
          ·
           intro hJ1_9
           refine join_ (σ := Nat) 10 #[true, true, true, false, false, false, false, false, false, false, true, false, false, false] (fun s_ => [(22, .agg #[.int .i64 t169, .int .i64 t170, .int .i64 t171, .int .i64 t172]), (9, .pointer (some ⟨s_, 0, none⟩))]) (fun s_ w' => (w'.cell? ⟨gb150, 0, none⟩ = some (.int .i64 a0_0) ∧ w'.cell? ⟨gb150, 1, none⟩ = some (.int .i64 a0_1) ∧ w'.cell? ⟨gb150, 2, none⟩ = some (.int .i64 a0_2) ∧ w'.cell? ⟨gb150, 3, none⟩ = some (.int .i64 a0_3) ∧ w'.cell? ⟨gb151, 0, none⟩ = some (.int .i64 a1_0) ∧ w'.cell? ⟨gb151, 1, none⟩ = some (.int .i64 a1_1) ∧ w'.cell? ⟨gb151, 2, none⟩ = some (.int .i64 a1_2) ∧ w'.cell? ⟨gb151, 3, none⟩ = some (.int .i64 a1_3)) ∧ (w'.heap[gb150]? = some (.cells #[.int .i64 a0_0, .int .i64 a0_1, .int .i64 a0_2, .int .i64 a0_3] 30 (0, 0))) ∧ (w'.heap[gb151]? = some (.cells #[.int .i64 a1_0, .int .i64 a1_1, .int .i64 a1_2, .int .i64 a1_3] 30 (0, 0))) ∧ (w'.heap[gb167]? = some (.cells #[.int .i64 t160, .int .i64 t161, .int .i64 t162] 24 (0, 0))) ∧ (w'.heap[gb168]? = some (.cells #[.int .i64 t163, .int .i64 t164, .int .i64 t165] 24 (0, 0))) ∧ (w'.heap[s_]? = some (.cells #[.int .i64 0, .int .i64 0, .int .i64 0] 24 (0, 0))) ∧ (w.heap.size ≤ s_) ∧ (w.heap.size ≤ s_) ∧ (gb150 ≠ s_) ∧ (s_ ≠ gb150) ∧ (gb151 ≠ s_) ∧ (s_ ≠ gb151) ∧ (gb167 ≠ s_) ∧ (s_ ≠ gb167) ∧ (gb168 ≠ s_) ∧ (s_ ≠ gb168) ∧ (Below w.heap.size w w')) ?_ ?_
           rotate_left
           ·
            intro hJ1_10
            refine join_ (σ := Nat × Nat) 10 #[true, false, true, false, false, false, false, false, false, true, true, false, false, false] (fun s_ => [(8, .pointer (some ⟨s_.1, 0, none⟩)), (9, .pointer (some ⟨s_.2, 0, none⟩))]) (fun s_ w' => (w'.cell? ⟨gb150, 0, none⟩ = some (.int .i64 a0_0) ∧ w'.cell? ⟨gb150, 1, none⟩ = some (.int .i64 a0_1) ∧ w'.cell? ⟨gb150, 2, none⟩ = some (.int .i64 a0_2) ∧ w'.cell? ⟨gb150, 3, none⟩ = some (.int .i64 a0_3) ∧ w'.cell? ⟨gb151, 0, none⟩ = some (.int .i64 a1_0) ∧ w'.cell? ⟨gb151, 1, none⟩ = some (.int .i64 a1_1) ∧ w'.cell? ⟨gb151, 2, none⟩ = some (.int .i64 a1_2) ∧ w'.cell? ⟨gb151, 3, none⟩ = some (.int .i64 a1_3)) ∧ (w'.heap[gb150]? = some (.cells #[.int .i64 a0_0, .int .i64 a0_1, .int .i64 a0_2, .int .i64 a0_3] 30 (0, 0))) ∧ (w'.heap[gb151]? = some (.cells #[.int .i64 a1_0, .int .i64 a1_1, .int .i64 a1_2, .int .i64 a1_3] 30 (0, 0))) ∧ (w'.heap[gb167]? = some (.cells #[.int .i64 t160, .int .i64 t161, .int .i64 t162] 24 (0, 0))) ∧ (w'.heap[gb168]? = some (.cells #[.int .i64 t163, .int .i64 t164, .int .i64 t165] 24 (0, 0))) ∧ (w'.heap[s_.1]? = some (.cells #[.int .i64 0, .int .i64 0, .int .i64 0] 24 (0, 0))) ∧ (w'.heap[s_.2]? = some (.cells #[.int .i64 0, .int .i64 0, .int .i64 0] 24 (0, 0))) ∧ (w.heap.size ≤ s_.1) ∧ (w.heap.size ≤ s_.1) ∧ (gb150 ≠ s_.1) ∧ (s_.1 ≠ gb150) ∧ (gb151 ≠ s_.1) ∧ (s_.1 ≠ gb151) ∧ (gb167 ≠ s_.1) ∧ (s_.1 ≠ gb167) ∧ (gb168 ≠ s_.1) ∧ (s_.1 ≠ gb168) ∧ (s_.2 ≠ s_.1) ∧ (s_.1 ≠ s_.2) ∧ (w.heap.size ≤ s_.2) ∧ (w.heap.size ≤ s_.2) ∧ (gb150 ≠ s_.2) ∧ (s_.2 ≠ gb150) ∧ (gb151 ≠ s_.2) ∧ (s_.2 ≠ gb151) ∧ (gb167 ≠ s_.2) ∧ (s_.2 ≠ gb167) ∧ (gb168 ≠ s_.2) ∧ (s_.2 ≠ gb168) ∧ (Below w.heap.size w w')) ?_ ?_
            rotate_left
            ·
             intro hJ9_10
             refine join_ (σ := Unit) 11 #[true, true, true, false, false, false, false, false, false, false, false, false, false, false] (fun s_ => [(22, .agg #[.int .i64 t169, .int .i64 t170, .int .i64 t171, .int .i64 t172])]) (fun s_ w' => (w'.cell? ⟨gb150, 0, none⟩ = some (.int .i64 a0_0) ∧ w'.cell? ⟨gb150, 1, none⟩ = some (.int .i64 a0_1) ∧ w'.cell? ⟨gb150, 2, none⟩ = some (.int .i64 a0_2) ∧ w'.cell? ⟨gb150, 3, none⟩ = some (.int .i64 a0_3) ∧ w'.cell? ⟨gb151, 0, none⟩ = some (.int .i64 a1_0) ∧ w'.cell? ⟨gb151, 1, none⟩ = some (.int .i64 a1_1) ∧ w'.cell? ⟨gb151, 2, none⟩ = some (.int .i64 a1_2) ∧ w'.cell? ⟨gb151, 3, none⟩ = some (.int .i64 a1_3)) ∧ (w'.heap[gb150]? = some (.cells #[.int .i64 a0_0, .int .i64 a0_1, .int .i64 a0_2, .int .i64 a0_3] 30 (0, 0))) ∧ (w'.heap[gb151]? = some (.cells #[.int .i64 a1_0, .int .i64 a1_1, .int .i64 a1_2, .int .i64 a1_3] 30 (0, 0))) ∧ (w'.heap[gb167]? = some (.cells #[.int .i64 t160, .int .i64 t161, .int .i64 t162] 24 (0, 0))) ∧ (w'.heap[gb168]? = some (.cells #[.int .i64 t163, .int .i64 t164, .int .i64 t165] 24 (0, 0))) ∧ (Below w.heap.size w w')) ?_ ?_
             rotate_left
             ·
              intro hJ1
              refine join_ (σ := Nat) 11 #[true, false, true, false, false, false, false, false, false, true, false, false, false, false] (fun s_ => [(8, .pointer (some ⟨s_, 0, none⟩))]) (fun s_ w' => (w'.cell? ⟨gb150, 0, none⟩ = some (.int .i64 a0_0) ∧ w'.cell? ⟨gb150, 1, none⟩ = some (.int .i64 a0_1) ∧ w'.cell? ⟨gb150, 2, none⟩ = some (.int .i64 a0_2) ∧ w'.cell? ⟨gb150, 3, none⟩ = some (.int .i64 a0_3) ∧ w'.cell? ⟨gb151, 0, none⟩ = some (.int .i64 a1_0) ∧ w'.cell? ⟨gb151, 1, none⟩ = some (.int .i64 a1_1) ∧ w'.cell? ⟨gb151, 2, none⟩ = some (.int .i64 a1_2) ∧ w'.cell? ⟨gb151, 3, none⟩ = some (.int .i64 a1_3)) ∧ (w'.heap[gb150]? = some (.cells #[.int .i64 a0_0, .int .i64 a0_1, .int .i64 a0_2, .int .i64 a0_3] 30 (0, 0))) ∧ (w'.heap[gb151]? = some (.cells #[.int .i64 a1_0, .int .i64 a1_1, .int .i64 a1_2, .int .i64 a1_3] 30 (0, 0))) ∧ (w'.heap[gb167]? = some (.cells #[.int .i64 t160, .int .i64 t161, .int .i64 t162] 24 (0, 0))) ∧ (w'.heap[gb168]? = some (.cells #[.int .i64 t163, .int .i64 t164, .int .i64 t165] 24 (0, 0))) ∧ (w'.heap[s_]? = some (.cells #[.int .i64 0, .int .i64 0, .int .i64 0] 24 (0, 0))) ∧ (w.heap.size ≤ s_) ∧ (w.heap.size ≤ s_) ∧ (gb150 ≠ s_) ∧ (s_ ≠ gb150) ∧ (gb151 ≠ s_) ∧ (s_ ≠ gb151) ∧ (gb167 ≠ s_) ∧ (s_ ≠ gb167) ∧ (gb168 ≠ s_) ∧ (s_ ≠ gb168) ∧ (Below w.heap.size w w')) ?_ ?_
              rotate_left
              ·
               intro hJ9
               refine join_ (σ := Nat) 11 #[true, false, true, false, false, false, false, false, false, false, true, false, false, false] (fun s_ => [(9, .pointer (some ⟨s_, 0, none⟩))]) (fun s_ w' => (w'.cell? ⟨gb150, 0, none⟩ = some (.int .i64 a0_0) ∧ w'.cell? ⟨gb150, 1, none⟩ = some (.int .i64 a0_1) ∧ w'.cell? ⟨gb150, 2, none⟩ = some (.int .i64 a0_2) ∧ w'.cell? ⟨gb150, 3, none⟩ = some (.int .i64 a0_3) ∧ w'.cell? ⟨gb151, 0, none⟩ = some (.int .i64 a1_0) ∧ w'.cell? ⟨gb151, 1, none⟩ = some (.int .i64 a1_1) ∧ w'.cell? ⟨gb151, 2, none⟩ = some (.int .i64 a1_2) ∧ w'.cell? ⟨gb151, 3, none⟩ = some (.int .i64 a1_3)) ∧ (w'.heap[gb150]? = some (.cells #[.int .i64 a0_0, .int .i64 a0_1, .int .i64 a0_2, .int .i64 a0_3] 30 (0, 0))) ∧ (w'.heap[gb151]? = some (.cells #[.int .i64 a1_0, .int .i64 a1_1, .int .i64 a1_2, .int .i64 a1_3] 30 (0, 0))) ∧ (w'.heap[gb167]? = some (.cells #[.int .i64 t160, .int .i64 t161, .int .i64 t162] 24 (0, 0))) ∧ (w'.heap[gb168]? = some (.cells #[.int .i64 t163, .int .i64 t164, .int .i64 t165] 24 (0, 0))) ∧ (w'.heap[s_]? = some (.cells #[.int .i64 0, .int .i64 0, .int .i64 0] 24 (0, 0))) ∧ (w.heap.size ≤ s_) ∧ (w.heap.size ≤ s_) ∧ (gb150 ≠ s_) ∧ (s_ ≠ gb150) ∧ (gb151 ≠ s_) ∧ (s_ ≠ gb151) ∧ (gb167 ≠ s_) ∧ (s_ ≠ gb167) ∧ (gb168 ≠ s_) ∧ (s_ ≠ gb168) ∧ (Below w.heap.size w w')) ?_ ?_
               rotate_left
               ·
                intro hJ10
                refine three_ (i := 1) (j := 9) (k := 10) (Ni := some 22) (Nj := some 8) (Nk := some 9) #[true, true, true, false, false, false, false, false, false, false, false, false, false, false] #[true, false, true, false, false, false, false, false, false, true, false, false, false, false] #[true, false, true, false, false, false, false, false, false, false, true, false, false, false] rfl rfl rfl rfl rfl rfl (three_of HT_.out (by kernel_rfl)) (by decide) (by decide) (by decide) (fun K hK => ?_) (fun K hK => ?_) (fun K hK => ?_)
                ·
                 skip
                 refine goes_ Try.func18 (by kernel_rfl) rfl #[.agg #[.int .i64 a0_0, .int .i64 a0_1, .int .i64 a0_2, .int .i64 a0_3]] (by rfl) rfl rfl (by (try simp only [List.map_toArray, List.map_cons, List.map_nil]); first | done | rfl | (simp only [List.length_drop, List.length_take]; rfl)) ?_
                 with_reducible refine (laws_toPose.calls a0_0 a0_1 a0_2 a0_3 t169 t170 t171 t172 _ A6.out).mono ?_
                 rintro e w27 ⟨rfl, hb⟩
                 refine ⟨_, rfl, ?_⟩
                 replace BK150 := Aside0.mk (blk_below BK150.out hb)
                 replace BK151 := Aside0.mk (blk_below BK151.out hb)
                 replace BK167 := Aside0.mk (blk_below BK167.out hb)
                 replace BK168 := Aside0.mk (blk_below BK168.out hb)
                 replace HB := Aside0.mk (below_step HB.out hb)
                 (try clear hb)
                 (try clear hb2)
                 (try clear hk)
                 (try clear hi)
                 refine hK.out _ _ ⟨(blk_cell BK150.out 0).trans rfl, (blk_cell BK150.out 1).trans rfl, (blk_cell BK150.out 2).trans rfl, (blk_cell BK150.out 3).trans rfl, (blk_cell BK151.out 0).trans rfl, (blk_cell BK151.out 1).trans rfl, (blk_cell BK151.out 2).trans rfl, (blk_cell BK151.out 3).trans rfl⟩ (fun hHeld => ?_)
                 clear hK K
                 refine norm_ (a' := ?_) ?_ ?_
                 rotate_left
                 ·
                  show Act.put _ (some 22) _ = _
                  simp only [Act.put, List.setIfInBounds_toArray, List.set_cons_zero, List.set_cons_succ, i64_w, i32_w]
                  rfl
                 exact norm_ (by first | (simp only [putAll, Act.put, List.setIfInBounds_toArray, List.set_cons_zero, List.set_cons_succ]; done) | (simp only [putAll, Act.put, List.setIfInBounds_toArray, List.set_cons_zero, List.set_cons_succ]; rfl)) (hJ1 () _ ⟨hHeld, BK150.out, BK151.out, BK167.out, BK168.out, HB.out⟩)
                ·
                 skip
                 refine box_step ?hg (N := 8) ?hd (cs := #[.int .i64 0, .int .i64 0, .int .i64 0]) (t := 24) ?hr ?_; (case hd => rfl); (case hg => rfl); (case hr => first | (go_simp; done) | (go_simp; rfl))
                 intro gb184 hg w27 hbox hb
                 have BK184 := Aside0.mk (hbox)
                 have GW184 := Aside0.mk (laws_FnExactCourseOf.sh_le hg HB.out)
                 have GE184 := Aside0.mk (laws_FnExactCourseOf.sh_le hg HB.out)
                 have NB150_184 := Aside0.mk (laws_FnExactCourseOf.sh_lt hg BK150.out)
                 have NB184_150 := Aside0.mk (laws_FnExactCourseOf.sh_gt hg BK150.out)
                 have NB151_184 := Aside0.mk (laws_FnExactCourseOf.sh_lt hg BK151.out)
                 have NB184_151 := Aside0.mk (laws_FnExactCourseOf.sh_gt hg BK151.out)
                 have NB167_184 := Aside0.mk (laws_FnExactCourseOf.sh_lt hg BK167.out)
                 have NB184_167 := Aside0.mk (laws_FnExactCourseOf.sh_gt hg BK167.out)
                 have NB168_184 := Aside0.mk (laws_FnExactCourseOf.sh_lt hg BK168.out)
                 have NB184_168 := Aside0.mk (laws_FnExactCourseOf.sh_gt hg BK168.out)
                 replace BK150 := Aside0.mk (blk_below BK150.out hb)
                 replace BK151 := Aside0.mk (blk_below BK151.out hb)
                 replace BK167 := Aside0.mk (blk_below BK167.out hb)
                 replace BK168 := Aside0.mk (blk_below BK168.out hb)
                 replace HB := Aside0.mk (below_step HB.out hb)
                 clear hb hbox hg
                 refine hK.out _ _ ⟨(blk_cell BK150.out 0).trans rfl, (blk_cell BK150.out 1).trans rfl, (blk_cell BK150.out 2).trans rfl, (blk_cell BK150.out 3).trans rfl, (blk_cell BK151.out 0).trans rfl, (blk_cell BK151.out 1).trans rfl, (blk_cell BK151.out 2).trans rfl, (blk_cell BK151.out 3).trans rfl⟩ (fun hHeld => ?_)
                 clear hK K
                 refine norm_ (a' := ?_) ?_ ?_
                 rotate_left
                 ·
                  show Act.put _ (some 8) _ = _
                  simp only [Act.put, List.setIfInBounds_toArray, List.set_cons_zero, List.set_cons_succ, i64_w, i32_w]
                  rfl
                 exact norm_ (by first | (simp only [putAll, Act.put, List.setIfInBounds_toArray, List.set_cons_zero, List.set_cons_succ]; done) | (simp only [putAll, Act.put, List.setIfInBounds_toArray, List.set_cons_zero, List.set_cons_succ]; rfl)) (hJ9 (gb184) _ ⟨hHeld, BK150.out, BK151.out, BK167.out, BK168.out, BK184.out, GW184.out, GE184.out, NB150_184.out, NB184_150.out, NB151_184.out, NB184_151.out, NB167_184.out, NB184_167.out, NB168_184.out, NB184_168.out, HB.out⟩)
                ·
                 skip
                 refine box_step ?hg (N := 9) ?hd (cs := #[.int .i64 0, .int .i64 0, .int .i64 0]) (t := 24) ?hr ?_; (case hd => rfl); (case hg => rfl); (case hr => first | (go_simp; done) | (go_simp; rfl))
                 intro gb185 hg w27 hbox hb
                 have BK185 := Aside0.mk (hbox)
                 have GW185 := Aside0.mk (laws_FnExactCourseOf.sh_le hg HB.out)
                 have GE185 := Aside0.mk (laws_FnExactCourseOf.sh_le hg HB.out)
                 have NB150_185 := Aside0.mk (laws_FnExactCourseOf.sh_lt hg BK150.out)
                 have NB185_150 := Aside0.mk (laws_FnExactCourseOf.sh_gt hg BK150.out)
                 have NB151_185 := Aside0.mk (laws_FnExactCourseOf.sh_lt hg BK151.out)
                 have NB185_151 := Aside0.mk (laws_FnExactCourseOf.sh_gt hg BK151.out)
                 have NB167_185 := Aside0.mk (laws_FnExactCourseOf.sh_lt hg BK167.out)
                 have NB185_167 := Aside0.mk (laws_FnExactCourseOf.sh_gt hg BK167.out)
                 have NB168_185 := Aside0.mk (laws_FnExactCourseOf.sh_lt hg BK168.out)
                 have NB185_168 := Aside0.mk (laws_FnExactCourseOf.sh_gt hg BK168.out)
                 replace BK150 := Aside0.mk (blk_below BK150.out hb)
                 replace BK151 := Aside0.mk (blk_below BK151.out hb)
                 replace BK167 := Aside0.mk (blk_below BK167.out hb)
                 replace BK168 := Aside0.mk (blk_below BK168.out hb)
                 replace HB := Aside0.mk (below_step HB.out hb)
                 clear hb hbox hg
                 refine hK.out _ _ ⟨(blk_cell BK150.out 0).trans rfl, (blk_cell BK150.out 1).trans rfl, (blk_cell BK150.out 2).trans rfl, (blk_cell BK150.out 3).trans rfl, (blk_cell BK151.out 0).trans rfl, (blk_cell BK151.out 1).trans rfl, (blk_cell BK151.out 2).trans rfl, (blk_cell BK151.out 3).trans rfl⟩ (fun hHeld => ?_)
                 clear hK K
                 refine norm_ (a' := ?_) ?_ ?_
                 rotate_left
                 ·
                  show Act.put _ (some 9) _ = _
                  simp only [Act.put, List.setIfInBounds_toArray, List.set_cons_zero, List.set_cons_succ, i64_w, i32_w]
                  rfl
                 exact norm_ (by first | (simp only [putAll, Act.put, List.setIfInBounds_toArray, List.set_cons_zero, List.set_cons_succ]; done) | (simp only [putAll, Act.put, List.setIfInBounds_toArray, List.set_cons_zero, List.set_cons_succ]; rfl)) (hJ10 (gb185) _ ⟨hHeld, BK150.out, BK151.out, BK167.out, BK168.out, BK185.out, GW185.out, GE185.out, NB150_185.out, NB185_150.out, NB151_185.out, NB185_151.out, NB167_185.out, NB185_167.out, NB168_185.out, NB185_168.out, HB.out⟩)
               ·
                skip
                rintro gb185 w28 ⟨hS_, h0_, h1_, h2_, h3_, h4_, h5_, h6_, h7_, h8_, h9_, h10_, h11_, h12_, h13_, h14_, h15_⟩
                clear BK150 BK151 BK167 BK168 HB
                have BK185 := Aside0.mk h4_
                have GW185 := Aside0.mk h5_
                have GE185 := Aside0.mk h6_
                have NB150_185 := Aside0.mk h7_
                have NB185_150 := Aside0.mk h8_
                have NB151_185 := Aside0.mk h9_
                have NB185_151 := Aside0.mk h10_
                have NB167_185 := Aside0.mk h11_
                have NB185_167 := Aside0.mk h12_
                have NB168_185 := Aside0.mk h13_
                have NB185_168 := Aside0.mk h14_
                have BK150 := Aside0.mk h0_
                have BK151 := Aside0.mk h1_
                have BK167 := Aside0.mk h2_
                have BK168 := Aside0.mk h3_
                have HB := Aside0.mk h15_
                clear h0_ h1_ h2_ h3_ h4_ h5_ h6_ h7_ h8_ h9_ h10_ h11_ h12_ h13_ h14_ h15_
                have hHeld := hS_
                refine norm_ (a' := ?_) ?_ ?_
                rotate_left
                ·
                 simp only [putAll, Act.put, List.setIfInBounds_toArray, List.set_cons_zero, List.set_cons_succ]
                 rfl
                refine two_ (i := 1) (j := 9) (Ni := some 22) (Nj := some 8) #[true, true, true, false, false, false, false, false, false, false, true, false, false, false] #[true, false, true, false, false, false, false, false, false, true, true, false, false, false] rfl rfl rfl rfl (two_of HT_.out (by kernel_rfl)) (by decide) (by decide) (fun K hK => ?_) (fun K hK => ?_)
                ·
                 skip
                 refine goes_ Try.func18 (by kernel_rfl) rfl #[.agg #[.int .i64 a0_0, .int .i64 a0_1, .int .i64 a0_2, .int .i64 a0_3]] (by rfl) rfl rfl (by (try simp only [List.map_toArray, List.map_cons, List.map_nil]); first | done | rfl | (simp only [List.length_drop, List.length_take]; rfl)) ?_
                 with_reducible refine (laws_toPose.calls a0_0 a0_1 a0_2 a0_3 t169 t170 t171 t172 _ A6.out).mono ?_
                 rintro e w29 ⟨rfl, hb⟩
                 refine ⟨_, rfl, ?_⟩
                 replace BK150 := Aside0.mk (blk_below BK150.out hb)
                 replace BK151 := Aside0.mk (blk_below BK151.out hb)
                 replace BK167 := Aside0.mk (blk_below BK167.out hb)
                 replace BK168 := Aside0.mk (blk_below BK168.out hb)
                 replace BK185 := Aside0.mk (blk_below BK185.out hb)
                 replace HB := Aside0.mk (below_step HB.out hb)
                 (try clear hb)
                 (try clear hb2)
                 (try clear hk)
                 (try clear hi)
                 refine hK.out _ _ ⟨(blk_cell BK150.out 0).trans rfl, (blk_cell BK150.out 1).trans rfl, (blk_cell BK150.out 2).trans rfl, (blk_cell BK150.out 3).trans rfl, (blk_cell BK151.out 0).trans rfl, (blk_cell BK151.out 1).trans rfl, (blk_cell BK151.out 2).trans rfl, (blk_cell BK151.out 3).trans rfl⟩ (fun hHeld => ?_)
                 clear hK K
                 refine norm_ (a' := ?_) ?_ ?_
                 rotate_left
                 ·
                  show Act.put _ (some 22) _ = _
                  simp only [Act.put, List.setIfInBounds_toArray, List.set_cons_zero, List.set_cons_succ, i64_w, i32_w]
                  rfl
                 exact norm_ (by first | (simp only [putAll, Act.put, List.setIfInBounds_toArray, List.set_cons_zero, List.set_cons_succ]; done) | (simp only [putAll, Act.put, List.setIfInBounds_toArray, List.set_cons_zero, List.set_cons_succ]; rfl)) (hJ1_10 (gb185) _ ⟨hHeld, BK150.out, BK151.out, BK167.out, BK168.out, BK185.out, GW185.out, GE185.out, NB150_185.out, NB185_150.out, NB151_185.out, NB185_151.out, NB167_185.out, NB185_167.out, NB168_185.out, NB185_168.out, HB.out⟩)
                ·
                 skip
                 refine box_step ?hg (N := 8) ?hd (cs := #[.int .i64 0, .int .i64 0, .int .i64 0]) (t := 24) ?hr ?_; (case hd => rfl); (case hg => rfl); (case hr => first | (go_simp; done) | (go_simp; rfl))
                 intro gb184 hg w29 hbox hb
                 have BK184 := Aside0.mk (hbox)
                 have GW184 := Aside0.mk (laws_FnExactCourseOf.sh_le hg HB.out)
                 have GE184 := Aside0.mk (laws_FnExactCourseOf.sh_le hg HB.out)
                 have NB150_184 := Aside0.mk (laws_FnExactCourseOf.sh_lt hg BK150.out)
                 have NB184_150 := Aside0.mk (laws_FnExactCourseOf.sh_gt hg BK150.out)
                 have NB151_184 := Aside0.mk (laws_FnExactCourseOf.sh_lt hg BK151.out)
                 have NB184_151 := Aside0.mk (laws_FnExactCourseOf.sh_gt hg BK151.out)
                 have NB167_184 := Aside0.mk (laws_FnExactCourseOf.sh_lt hg BK167.out)
                 have NB184_167 := Aside0.mk (laws_FnExactCourseOf.sh_gt hg BK167.out)
                 have NB168_184 := Aside0.mk (laws_FnExactCourseOf.sh_lt hg BK168.out)
                 have NB184_168 := Aside0.mk (laws_FnExactCourseOf.sh_gt hg BK168.out)
                 have NB185_184 := Aside0.mk (laws_FnExactCourseOf.sh_lt hg BK185.out)
                 have NB184_185 := Aside0.mk (laws_FnExactCourseOf.sh_gt hg BK185.out)
                 replace BK150 := Aside0.mk (blk_below BK150.out hb)
                 replace BK151 := Aside0.mk (blk_below BK151.out hb)
                 replace BK167 := Aside0.mk (blk_below BK167.out hb)
                 replace BK168 := Aside0.mk (blk_below BK168.out hb)
                 replace BK185 := Aside0.mk (blk_below BK185.out hb)
                 replace HB := Aside0.mk (below_step HB.out hb)
                 clear hb hbox hg
                 refine hK.out _ _ ⟨(blk_cell BK150.out 0).trans rfl, (blk_cell BK150.out 1).trans rfl, (blk_cell BK150.out 2).trans rfl, (blk_cell BK150.out 3).trans rfl, (blk_cell BK151.out 0).trans rfl, (blk_cell BK151.out 1).trans rfl, (blk_cell BK151.out 2).trans rfl, (blk_cell BK151.out 3).trans rfl⟩ (fun hHeld => ?_)
                 clear hK K
                 refine norm_ (a' := ?_) ?_ ?_
                 rotate_left
                 ·
                  show Act.put _ (some 8) _ = _
                  simp only [Act.put, List.setIfInBounds_toArray, List.set_cons_zero, List.set_cons_succ, i64_w, i32_w]
                  rfl
                 exact norm_ (by first | (simp only [putAll, Act.put, List.setIfInBounds_toArray, List.set_cons_zero, List.set_cons_succ]; done) | (simp only [putAll, Act.put, List.setIfInBounds_toArray, List.set_cons_zero, List.set_cons_succ]; rfl)) (hJ9_10 (gb184, gb185) _ ⟨hHeld, BK150.out, BK151.out, BK167.out, BK168.out, BK184.out, BK185.out, GW184.out, GE184.out, NB150_184.out, NB184_150.out, NB151_184.out, NB184_151.out, NB167_184.out, NB184_167.out, NB168_184.out, NB184_168.out, NB185_184.out, NB184_185.out, GW185.out, GE185.out, NB150_185.out, NB185_150.out, NB151_185.out, NB185_151.out, NB167_185.out, NB185_167.out, NB168_185.out, NB185_168.out, HB.out⟩)
              ·
               skip
               rintro gb184 w28 ⟨hS_, h0_, h1_, h2_, h3_, h4_, h5_, h6_, h7_, h8_, h9_, h10_, h11_, h12_, h13_, h14_, h15_⟩
               clear BK150 BK151 BK167 BK168 HB
               have BK184 := Aside0.mk h4_
               have GW184 := Aside0.mk h5_
               have GE184 := Aside0.mk h6_
               have NB150_184 := Aside0.mk h7_
               have NB184_150 := Aside0.mk h8_
               have NB151_184 := Aside0.mk h9_
               have NB184_151 := Aside0.mk h10_
               have NB167_184 := Aside0.mk h11_
               have NB184_167 := Aside0.mk h12_
               have NB168_184 := Aside0.mk h13_
               have NB184_168 := Aside0.mk h14_
               have BK150 := Aside0.mk h0_
               have BK151 := Aside0.mk h1_
               have BK167 := Aside0.mk h2_
               have BK168 := Aside0.mk h3_
               have HB := Aside0.mk h15_
               clear h0_ h1_ h2_ h3_ h4_ h5_ h6_ h7_ h8_ h9_ h10_ h11_ h12_ h13_ h14_ h15_
               have hHeld := hS_
               refine norm_ (a' := ?_) ?_ ?_
               rotate_left
               ·
                simp only [putAll, Act.put, List.setIfInBounds_toArray, List.set_cons_zero, List.set_cons_succ]
                rfl
               refine two_ (i := 1) (j := 10) (Ni := some 22) (Nj := some 9) #[true, true, true, false, false, false, false, false, false, true, false, false, false, false] #[true, false, true, false, false, false, false, false, false, true, true, false, false, false] rfl rfl rfl rfl (two_of HT_.out (by kernel_rfl)) (by decide) (by decide) (fun K hK => ?_) (fun K hK => ?_)
               ·
                skip
                refine goes_ Try.func18 (by kernel_rfl) rfl #[.agg #[.int .i64 a0_0, .int .i64 a0_1, .int .i64 a0_2, .int .i64 a0_3]] (by rfl) rfl rfl (by (try simp only [List.map_toArray, List.map_cons, List.map_nil]); first | done | rfl | (simp only [List.length_drop, List.length_take]; rfl)) ?_
                with_reducible refine (laws_toPose.calls a0_0 a0_1 a0_2 a0_3 t169 t170 t171 t172 _ A6.out).mono ?_
                rintro e w29 ⟨rfl, hb⟩
                refine ⟨_, rfl, ?_⟩
                replace BK150 := Aside0.mk (blk_below BK150.out hb)
                replace BK151 := Aside0.mk (blk_below BK151.out hb)
                replace BK167 := Aside0.mk (blk_below BK167.out hb)
                replace BK168 := Aside0.mk (blk_below BK168.out hb)
                replace BK184 := Aside0.mk (blk_below BK184.out hb)
                replace HB := Aside0.mk (below_step HB.out hb)
                (try clear hb)
                (try clear hb2)
                (try clear hk)
                (try clear hi)
                refine hK.out _ _ ⟨(blk_cell BK150.out 0).trans rfl, (blk_cell BK150.out 1).trans rfl, (blk_cell BK150.out 2).trans rfl, (blk_cell BK150.out 3).trans rfl, (blk_cell BK151.out 0).trans rfl, (blk_cell BK151.out 1).trans rfl, (blk_cell BK151.out 2).trans rfl, (blk_cell BK151.out 3).trans rfl⟩ (fun hHeld => ?_)
                clear hK K
                refine norm_ (a' := ?_) ?_ ?_
                rotate_left
                ·
                 show Act.put _ (some 22) _ = _
                 simp only [Act.put, List.setIfInBounds_toArray, List.set_cons_zero, List.set_cons_succ, i64_w, i32_w]
                 rfl
                exact norm_ (by first | (simp only [putAll, Act.put, List.setIfInBounds_toArray, List.set_cons_zero, List.set_cons_succ]; done) | (simp only [putAll, Act.put, List.setIfInBounds_toArray, List.set_cons_zero, List.set_cons_succ]; rfl)) (hJ1_9 (gb184) _ ⟨hHeld, BK150.out, BK151.out, BK167.out, BK168.out, BK184.out, GW184.out, GE184.out, NB150_184.out, NB184_150.out, NB151_184.out, NB184_151.out, NB167_184.out, NB184_167.out, NB168_184.out, NB184_168.out, HB.out⟩)
               ·
                skip
                refine box_step ?hg (N := 9) ?hd (cs := #[.int .i64 0, .int .i64 0, .int .i64 0]) (t := 24) ?hr ?_; (case hd => rfl); (case hg => rfl); (case hr => first | (go_simp; done) | (go_simp; rfl))
                intro gb185 hg w29 hbox hb
                have BK185 := Aside0.mk (hbox)
                have GW185 := Aside0.mk (laws_FnExactCourseOf.sh_le hg HB.out)
                have GE185 := Aside0.mk (laws_FnExactCourseOf.sh_le hg HB.out)
                have NB150_185 := Aside0.mk (laws_FnExactCourseOf.sh_lt hg BK150.out)
                have NB185_150 := Aside0.mk (laws_FnExactCourseOf.sh_gt hg BK150.out)
                have NB151_185 := Aside0.mk (laws_FnExactCourseOf.sh_lt hg BK151.out)
                have NB185_151 := Aside0.mk (laws_FnExactCourseOf.sh_gt hg BK151.out)
                have NB167_185 := Aside0.mk (laws_FnExactCourseOf.sh_lt hg BK167.out)
                have NB185_167 := Aside0.mk (laws_FnExactCourseOf.sh_gt hg BK167.out)
                have NB168_185 := Aside0.mk (laws_FnExactCourseOf.sh_lt hg BK168.out)
                have NB185_168 := Aside0.mk (laws_FnExactCourseOf.sh_gt hg BK168.out)
                have NB184_185 := Aside0.mk (laws_FnExactCourseOf.sh_lt hg BK184.out)
                have NB185_184 := Aside0.mk (laws_FnExactCourseOf.sh_gt hg BK184.out)
                replace BK150 := Aside0.mk (blk_below BK150.out hb)
                replace BK151 := Aside0.mk (blk_below BK151.out hb)
                replace BK167 := Aside0.mk (blk_below BK167.out hb)
                replace BK168 := Aside0.mk (blk_below BK168.out hb)
                replace BK184 := Aside0.mk (blk_below BK184.out hb)
                replace HB := Aside0.mk (below_step HB.out hb)
                clear hb hbox hg
                refine hK.out _ _ ⟨(blk_cell BK150.out 0).trans rfl, (blk_cell BK150.out 1).trans rfl, (blk_cell BK150.out 2).trans rfl, (blk_cell BK150.out 3).trans rfl, (blk_cell BK151.out 0).trans rfl, (blk_cell BK151.out 1).trans rfl, (blk_cell BK151.out 2).trans rfl, (blk_cell BK151.out 3).trans rfl⟩ (fun hHeld => ?_)
                clear hK K
                refine norm_ (a' := ?_) ?_ ?_
                rotate_left
                ·
                 show Act.put _ (some 9) _ = _
                 simp only [Act.put, List.setIfInBounds_toArray, List.set_cons_zero, List.set_cons_succ, i64_w, i32_w]
                 rfl
                exact norm_ (by first | (simp only [putAll, Act.put, List.setIfInBounds_toArray, List.set_cons_zero, List.set_cons_succ]; done) | (simp only [putAll, Act.put, List.setIfInBounds_toArray, List.set_cons_zero, List.set_cons_succ]; rfl)) (hJ9_10 (gb184, gb185) _ ⟨hHeld, BK150.out, BK151.out, BK167.out, BK168.out, BK184.out, BK185.out, GW184.out, GE184.out, NB150_184.out, NB184_150.out, NB151_184.out, NB184_151.out, NB167_184.out, NB184_167.out, NB168_184.out, NB184_168.out, NB185_184.out, NB184_185.out, GW185.out, GE185.out, NB150_185.out, NB185_150.out, NB151_185.out, NB185_151.out, NB167_185.out, NB185_167.out, NB168_185.out, NB185_168.out, HB.out⟩)
             ·
              skip
              rintro _ w28 ⟨hS_, h0_, h1_, h2_, h3_, h4_⟩
              clear BK150 BK151 BK167 BK168 HB
              have BK150 := Aside0.mk h0_
              have BK151 := Aside0.mk h1_
              have BK167 := Aside0.mk h2_
              have BK168 := Aside0.mk h3_
              have HB := Aside0.mk h4_
              clear h0_ h1_ h2_ h3_ h4_
              have hHeld := hS_
              refine norm_ (a' := ?_) ?_ ?_
              rotate_left
              ·
               simp only [putAll, Act.put, List.setIfInBounds_toArray, List.set_cons_zero, List.set_cons_succ]
               rfl
              refine three_ (i := 3) (j := 9) (k := 10) (Ni := some 24) (Nj := some 8) (Nk := some 9) #[true, true, true, true, false, false, false, false, false, false, false, false, false, false] #[true, true, true, false, false, false, false, false, false, true, false, false, false, false] #[true, true, true, false, false, false, false, false, false, false, true, false, false, false] rfl rfl rfl rfl rfl rfl (three_of HT_.out (by kernel_rfl)) (by decide) (by decide) (by decide) (fun K hK => ?_) (fun K hK => ?_) (fun K hK => ?_)
              ·
               skip
               refine goes_ Try.func18 (by kernel_rfl) rfl #[.agg #[.int .i64 a1_0, .int .i64 a1_1, .int .i64 a1_2, .int .i64 a1_3]] (by rfl) rfl rfl (by (try simp only [List.map_toArray, List.map_cons, List.map_nil]); first | done | rfl | (simp only [List.length_drop, List.length_take]; rfl)) ?_
               with_reducible refine (laws_toPose.calls a1_0 a1_1 a1_2 a1_3 t173 t174 t175 t176 _ A7.out).mono ?_
               rintro e w29 ⟨rfl, hb⟩
               refine ⟨_, rfl, ?_⟩
               replace BK150 := Aside0.mk (blk_below BK150.out hb)
               replace BK151 := Aside0.mk (blk_below BK151.out hb)
               replace BK167 := Aside0.mk (blk_below BK167.out hb)
               replace BK168 := Aside0.mk (blk_below BK168.out hb)
               replace HB := Aside0.mk (below_step HB.out hb)
               (try clear hb)
               (try clear hb2)
               (try clear hk)
               (try clear hi)
               refine hK.out _ _ ⟨(blk_cell BK150.out 0).trans rfl, (blk_cell BK150.out 1).trans rfl, (blk_cell BK150.out 2).trans rfl, (blk_cell BK150.out 3).trans rfl, (blk_cell BK151.out 0).trans rfl, (blk_cell BK151.out 1).trans rfl, (blk_cell BK151.out 2).trans rfl, (blk_cell BK151.out 3).trans rfl⟩ (fun hHeld => ?_)
               clear hK K
               refine norm_ (a' := ?_) ?_ ?_
               rotate_left
               ·
                show Act.put _ (some 24) _ = _
                simp only [Act.put, List.setIfInBounds_toArray, List.set_cons_zero, List.set_cons_succ, i64_w, i32_w]
                rfl
               exact norm_ (by first | (simp only [putAll, Act.put, List.setIfInBounds_toArray, List.set_cons_zero, List.set_cons_succ]; done) | (simp only [putAll, Act.put, List.setIfInBounds_toArray, List.set_cons_zero, List.set_cons_succ]; rfl)) (hJ1_3 () _ ⟨hHeld, BK150.out, BK151.out, BK167.out, BK168.out, HB.out⟩)
              ·
               skip
               refine box_step ?hg (N := 8) ?hd (cs := #[.int .i64 0, .int .i64 0, .int .i64 0]) (t := 24) ?hr ?_; (case hd => rfl); (case hg => rfl); (case hr => first | (go_simp; done) | (go_simp; rfl))
               intro gb184 hg w29 hbox hb
               have BK184 := Aside0.mk (hbox)
               have GW184 := Aside0.mk (laws_FnExactCourseOf.sh_le hg HB.out)
               have GE184 := Aside0.mk (laws_FnExactCourseOf.sh_le hg HB.out)
               have NB150_184 := Aside0.mk (laws_FnExactCourseOf.sh_lt hg BK150.out)
               have NB184_150 := Aside0.mk (laws_FnExactCourseOf.sh_gt hg BK150.out)
               have NB151_184 := Aside0.mk (laws_FnExactCourseOf.sh_lt hg BK151.out)
               have NB184_151 := Aside0.mk (laws_FnExactCourseOf.sh_gt hg BK151.out)
               have NB167_184 := Aside0.mk (laws_FnExactCourseOf.sh_lt hg BK167.out)
               have NB184_167 := Aside0.mk (laws_FnExactCourseOf.sh_gt hg BK167.out)
               have NB168_184 := Aside0.mk (laws_FnExactCourseOf.sh_lt hg BK168.out)
               have NB184_168 := Aside0.mk (laws_FnExactCourseOf.sh_gt hg BK168.out)
               replace BK150 := Aside0.mk (blk_below BK150.out hb)
               replace BK151 := Aside0.mk (blk_below BK151.out hb)
               replace BK167 := Aside0.mk (blk_below BK167.out hb)
               replace BK168 := Aside0.mk (blk_below BK168.out hb)
               replace HB := Aside0.mk (below_step HB.out hb)
               clear hb hbox hg
               refine hK.out _ _ ⟨(blk_cell BK150.out 0).trans rfl, (blk_cell BK150.out 1).trans rfl, (blk_cell BK150.out 2).trans rfl, (blk_cell BK150.out 3).trans rfl, (blk_cell BK151.out 0).trans rfl, (blk_cell BK151.out 1).trans rfl, (blk_cell BK151.out 2).trans rfl, (blk_cell BK151.out 3).trans rfl⟩ (fun hHeld => ?_)
               clear hK K
               refine norm_ (a' := ?_) ?_ ?_
               rotate_left
               ·
                show Act.put _ (some 8) _ = _
                simp only [Act.put, List.setIfInBounds_toArray, List.set_cons_zero, List.set_cons_succ, i64_w, i32_w]
                rfl
               exact norm_ (by first | (simp only [putAll, Act.put, List.setIfInBounds_toArray, List.set_cons_zero, List.set_cons_succ]; done) | (simp only [putAll, Act.put, List.setIfInBounds_toArray, List.set_cons_zero, List.set_cons_succ]; rfl)) (hJ1_9 (gb184) _ ⟨hHeld, BK150.out, BK151.out, BK167.out, BK168.out, BK184.out, GW184.out, GE184.out, NB150_184.out, NB184_150.out, NB151_184.out, NB184_151.out, NB167_184.out, NB184_167.out, NB168_184.out, NB184_168.out, HB.out⟩)
              ·
               skip
               refine box_step ?hg (N := 9) ?hd (cs := #[.int .i64 0, .int .i64 0, .int .i64 0]) (t := 24) ?hr ?_; (case hd => rfl); (case hg => rfl); (case hr => first | (go_simp; done) | (go_simp; rfl))
               intro gb185 hg w29 hbox hb
               have BK185 := Aside0.mk (hbox)
               have GW185 := Aside0.mk (laws_FnExactCourseOf.sh_le hg HB.out)
               have GE185 := Aside0.mk (laws_FnExactCourseOf.sh_le hg HB.out)
               have NB150_185 := Aside0.mk (laws_FnExactCourseOf.sh_lt hg BK150.out)
               have NB185_150 := Aside0.mk (laws_FnExactCourseOf.sh_gt hg BK150.out)
               have NB151_185 := Aside0.mk (laws_FnExactCourseOf.sh_lt hg BK151.out)
               have NB185_151 := Aside0.mk (laws_FnExactCourseOf.sh_gt hg BK151.out)
               have NB167_185 := Aside0.mk (laws_FnExactCourseOf.sh_lt hg BK167.out)
               have NB185_167 := Aside0.mk (laws_FnExactCourseOf.sh_gt hg BK167.out)
               have NB168_185 := Aside0.mk (laws_FnExactCourseOf.sh_lt hg BK168.out)
               have NB185_168 := Aside0.mk (laws_FnExactCourseOf.sh_gt hg BK168.out)
               replace BK150 := Aside0.mk (blk_below BK150.out hb)
               replace BK151 := Aside0.mk (blk_below BK151.out hb)
               replace BK167 := Aside0.mk (blk_below BK167.out hb)
               replace BK168 := Aside0.mk (blk_below BK168.out hb)
               replace HB := Aside0.mk (below_step HB.out hb)
               clear hb hbox hg
               refine hK.out _ _ ⟨(blk_cell BK150.out 0).trans rfl, (blk_cell BK150.out 1).trans rfl, (blk_cell BK150.out 2).trans rfl, (blk_cell BK150.out 3).trans rfl, (blk_cell BK151.out 0).trans rfl, (blk_cell BK151.out 1).trans rfl, (blk_cell BK151.out 2).trans rfl, (blk_cell BK151.out 3).trans rfl⟩ (fun hHeld => ?_)
               clear hK K
               refine norm_ (a' := ?_) ?_ ?_
               rotate_left
               ·
                show Act.put _ (some 9) _ = _
                simp only [Act.put, List.setIfInBounds_toArray, List.set_cons_zero, List.set_cons_succ, i64_w, i32_w]
                rfl
               exact norm_ (by first | (simp only [putAll, Act.put, List.setIfInBounds_toArray, List.set_cons_zero, List.set_cons_succ]; done) | (simp only [putAll, Act.put, List.setIfInBounds_toArray, List.set_cons_zero, List.set_cons_succ]; rfl)) (hJ1_10 (gb185) _ ⟨hHeld, BK150.out, BK151.out, BK167.out, BK168.out, BK185.out, GW185.out, GE185.out, NB150_185.out, NB185_150.out, NB151_185.out, NB185_151.out, NB167_185.out, NB185_167.out, NB168_185.out, NB185_168.out, HB.out⟩)
            ·
             skip
             rintro ⟨gb184, gb185⟩ w29 ⟨hS_, h0_, h1_, h2_, h3_, h4_, h5_, h6_, h7_, h8_, h9_, h10_, h11_, h12_, h13_, h14_, h15_, h16_, h17_, h18_, h19_, h20_, h21_, h22_, h23_, h24_, h25_, h26_, h27_, h28_⟩
             clear BK150 BK151 BK167 BK168 HB
             have BK184 := Aside0.mk h4_
             have BK185 := Aside0.mk h5_
             have GW184 := Aside0.mk h6_
             have GE184 := Aside0.mk h7_
             have NB150_184 := Aside0.mk h8_
             have NB184_150 := Aside0.mk h9_
             have NB151_184 := Aside0.mk h10_
             have NB184_151 := Aside0.mk h11_
             have NB167_184 := Aside0.mk h12_
             have NB184_167 := Aside0.mk h13_
             have NB168_184 := Aside0.mk h14_
             have NB184_168 := Aside0.mk h15_
             have NB185_184 := Aside0.mk h16_
             have NB184_185 := Aside0.mk h17_
             have GW185 := Aside0.mk h18_
             have GE185 := Aside0.mk h19_
             have NB150_185 := Aside0.mk h20_
             have NB185_150 := Aside0.mk h21_
             have NB151_185 := Aside0.mk h22_
             have NB185_151 := Aside0.mk h23_
             have NB167_185 := Aside0.mk h24_
             have NB185_167 := Aside0.mk h25_
             have NB168_185 := Aside0.mk h26_
             have NB185_168 := Aside0.mk h27_
             have BK150 := Aside0.mk h0_
             have BK151 := Aside0.mk h1_
             have BK167 := Aside0.mk h2_
             have BK168 := Aside0.mk h3_
             have HB := Aside0.mk h28_
             clear h0_ h1_ h2_ h3_ h4_ h5_ h6_ h7_ h8_ h9_ h10_ h11_ h12_ h13_ h14_ h15_ h16_ h17_ h18_ h19_ h20_ h21_ h22_ h23_ h24_ h25_ h26_ h27_ h28_
             have hHeld := hS_
             refine norm_ (a' := ?_) ?_ ?_
             rotate_left
             ·
              simp only [putAll, Act.put, List.setIfInBounds_toArray, List.set_cons_zero, List.set_cons_succ]
              rfl
             refine one_ (i := 1) (N := some 22) #[true, true, true, false, false, false, false, false, false, true, true, false, false, false] rfl rfl (one_of HT_.out (by kernel_rfl)) (by decide) (fun K hK => ?_)
             refine goes_ Try.func18 (by kernel_rfl) rfl #[.agg #[.int .i64 a0_0, .int .i64 a0_1, .int .i64 a0_2, .int .i64 a0_3]] (by rfl) rfl rfl (by (try simp only [List.map_toArray, List.map_cons, List.map_nil]); first | done | rfl | (simp only [List.length_drop, List.length_take]; rfl)) ?_
             with_reducible refine (laws_toPose.calls a0_0 a0_1 a0_2 a0_3 t169 t170 t171 t172 _ A6.out).mono ?_
             rintro e w30 ⟨rfl, hb⟩
             refine ⟨_, rfl, ?_⟩
             replace BK150 := Aside0.mk (blk_below BK150.out hb)
             replace BK151 := Aside0.mk (blk_below BK151.out hb)
             replace BK167 := Aside0.mk (blk_below BK167.out hb)
             replace BK168 := Aside0.mk (blk_below BK168.out hb)
             replace BK184 := Aside0.mk (blk_below BK184.out hb)
             replace BK185 := Aside0.mk (blk_below BK185.out hb)
             replace HB := Aside0.mk (below_step HB.out hb)
             (try clear hb)
             (try clear hb2)
             (try clear hk)
             (try clear hi)
             refine hK.out _ _ ⟨(blk_cell BK150.out 0).trans rfl, (blk_cell BK150.out 1).trans rfl, (blk_cell BK150.out 2).trans rfl, (blk_cell BK150.out 3).trans rfl, (blk_cell BK151.out 0).trans rfl, (blk_cell BK151.out 1).trans rfl, (blk_cell BK151.out 2).trans rfl, (blk_cell BK151.out 3).trans rfl⟩ (fun hHeld => ?_)
             clear hK K
             refine norm_ (a' := ?_) ?_ ?_
             rotate_left
             ·
              show Act.put _ (some 22) _ = _
              simp only [Act.put, List.setIfInBounds_toArray, List.set_cons_zero, List.set_cons_succ, i64_w, i32_w]
              rfl
             exact norm_ (by first | (simp only [putAll, Act.put, List.setIfInBounds_toArray, List.set_cons_zero, List.set_cons_succ]; done) | (simp only [putAll, Act.put, List.setIfInBounds_toArray, List.set_cons_zero, List.set_cons_succ]; rfl)) (hJ1_9_10 (gb184, gb185) _ ⟨hHeld, BK150.out, BK151.out, BK167.out, BK168.out, BK184.out, BK185.out, GW184.out, GE184.out, NB150_184.out, NB184_150.out, NB151_184.out, NB184_151.out, NB167_184.out, NB184_167.out, NB168_184.out, NB184_168.out, NB185_184.out, NB184_185.out, GW185.out, GE185.out, NB150_185.out, NB185_150.out, NB151_185.out, NB185_151.out, NB167_185.out, NB185_167.out, NB168_185.out, NB185_168.out, HB.out⟩)
           ·
            skip
            rintro gb185 w29 ⟨hS_, h0_, h1_, h2_, h3_, h4_, h5_, h6_, h7_, h8_, h9_, h10_, h11_, h12_, h13_, h14_, h15_⟩
            clear BK150 BK151 BK167 BK168 HB
            have BK185 := Aside0.mk h4_
            have GW185 := Aside0.mk h5_
            have GE185 := Aside0.mk h6_
            have NB150_185 := Aside0.mk h7_
            have NB185_150 := Aside0.mk h8_
            have NB151_185 := Aside0.mk h9_
            have NB185_151 := Aside0.mk h10_
            have NB167_185 := Aside0.mk h11_
            have NB185_167 := Aside0.mk h12_
            have NB168_185 := Aside0.mk h13_
            have NB185_168 := Aside0.mk h14_
            have BK150 := Aside0.mk h0_
            have BK151 := Aside0.mk h1_
            have BK167 := Aside0.mk h2_
            have BK168 := Aside0.mk h3_
            have HB := Aside0.mk h15_
            clear h0_ h1_ h2_ h3_ h4_ h5_ h6_ h7_ h8_ h9_ h10_ h11_ h12_ h13_ h14_ h15_
            have hHeld := hS_
            refine norm_ (a' := ?_) ?_ ?_
            rotate_left
            ·
             simp only [putAll, Act.put, List.setIfInBounds_toArray, List.set_cons_zero, List.set_cons_succ]
             rfl
            refine two_ (i := 3) (j := 9) (Ni := some 24) (Nj := some 8) #[true, true, true, true, false, false, false, false, false, false, true, false, false, false] #[true, true, true, false, false, false, false, false, false, true, true, false, false, false] rfl rfl rfl rfl (two_of HT_.out (by kernel_rfl)) (by decide) (by decide) (fun K hK => ?_) (fun K hK => ?_)
            ·
             skip
             refine goes_ Try.func18 (by kernel_rfl) rfl #[.agg #[.int .i64 a1_0, .int .i64 a1_1, .int .i64 a1_2, .int .i64 a1_3]] (by rfl) rfl rfl (by (try simp only [List.map_toArray, List.map_cons, List.map_nil]); first | done | rfl | (simp only [List.length_drop, List.length_take]; rfl)) ?_
             with_reducible refine (laws_toPose.calls a1_0 a1_1 a1_2 a1_3 t173 t174 t175 t176 _ A7.out).mono ?_
             rintro e w30 ⟨rfl, hb⟩
             refine ⟨_, rfl, ?_⟩
             replace BK150 := Aside0.mk (blk_below BK150.out hb)
             replace BK151 := Aside0.mk (blk_below BK151.out hb)
             replace BK167 := Aside0.mk (blk_below BK167.out hb)
             replace BK168 := Aside0.mk (blk_below BK168.out hb)
             replace BK185 := Aside0.mk (blk_below BK185.out hb)
             replace HB := Aside0.mk (below_step HB.out hb)
             (try clear hb)
             (try clear hb2)
             (try clear hk)
             (try clear hi)
             refine hK.out _ _ ⟨(blk_cell BK150.out 0).trans rfl, (blk_cell BK150.out 1).trans rfl, (blk_cell BK150.out 2).trans rfl, (blk_cell BK150.out 3).trans rfl, (blk_cell BK151.out 0).trans rfl, (blk_cell BK151.out 1).trans rfl, (blk_cell BK151.out 2).trans rfl, (blk_cell BK151.out 3).trans rfl⟩ (fun hHeld => ?_)
             clear hK K
             refine norm_ (a' := ?_) ?_ ?_
             rotate_left
             ·
              show Act.put _ (some 24) _ = _
              simp only [Act.put, List.setIfInBounds_toArray, List.set_cons_zero, List.set_cons_succ, i64_w, i32_w]
              rfl
             exact norm_ (by first | (simp only [putAll, Act.put, List.setIfInBounds_toArray, List.set_cons_zero, List.set_cons_succ]; done) | (simp only [putAll, Act.put, List.setIfInBounds_toArray, List.set_cons_zero, List.set_cons_succ]; rfl)) (hJ1_3_10 (gb185) _ ⟨hHeld, BK150.out, BK151.out, BK167.out, BK168.out, BK185.out, GW185.out, GE185.out, NB150_185.out, NB185_150.out, NB151_185.out, NB185_151.out, NB167_185.out, NB185_167.out, NB168_185.out, NB185_168.out, HB.out⟩)
            ·
             skip
             refine box_step ?hg (N := 8) ?hd (cs := #[.int .i64 0, .int .i64 0, .int .i64 0]) (t := 24) ?hr ?_; (case hd => rfl); (case hg => rfl); (case hr => first | (go_simp; done) | (go_simp; rfl))
             intro gb184 hg w30 hbox hb
             have BK184 := Aside0.mk (hbox)
             have GW184 := Aside0.mk (laws_FnExactCourseOf.sh_le hg HB.out)
             have GE184 := Aside0.mk (laws_FnExactCourseOf.sh_le hg HB.out)
             have NB150_184 := Aside0.mk (laws_FnExactCourseOf.sh_lt hg BK150.out)
             have NB184_150 := Aside0.mk (laws_FnExactCourseOf.sh_gt hg BK150.out)
             have NB151_184 := Aside0.mk (laws_FnExactCourseOf.sh_lt hg BK151.out)
             have NB184_151 := Aside0.mk (laws_FnExactCourseOf.sh_gt hg BK151.out)
             have NB167_184 := Aside0.mk (laws_FnExactCourseOf.sh_lt hg BK167.out)
             have NB184_167 := Aside0.mk (laws_FnExactCourseOf.sh_gt hg BK167.out)
             have NB168_184 := Aside0.mk (laws_FnExactCourseOf.sh_lt hg BK168.out)
             have NB184_168 := Aside0.mk (laws_FnExactCourseOf.sh_gt hg BK168.out)
             have NB185_184 := Aside0.mk (laws_FnExactCourseOf.sh_lt hg BK185.out)
             have NB184_185 := Aside0.mk (laws_FnExactCourseOf.sh_gt hg BK185.out)
             replace BK150 := Aside0.mk (blk_below BK150.out hb)
             replace BK151 := Aside0.mk (blk_below BK151.out hb)
             replace BK167 := Aside0.mk (blk_below BK167.out hb)
             replace BK168 := Aside0.mk (blk_below BK168.out hb)
             replace BK185 := Aside0.mk (blk_below BK185.out hb)
             replace HB := Aside0.mk (below_step HB.out hb)
             clear hb hbox hg
             refine hK.out _ _ ⟨(blk_cell BK150.out 0).trans rfl, (blk_cell BK150.out 1).trans rfl, (blk_cell BK150.out 2).trans rfl, (blk_cell BK150.out 3).trans rfl, (blk_cell BK151.out 0).trans rfl, (blk_cell BK151.out 1).trans rfl, (blk_cell BK151.out 2).trans rfl, (blk_cell BK151.out 3).trans rfl⟩ (fun hHeld => ?_)
             clear hK K
             refine norm_ (a' := ?_) ?_ ?_
             rotate_left
             ·
              show Act.put _ (some 8) _ = _
              simp only [Act.put, List.setIfInBounds_toArray, List.set_cons_zero, List.set_cons_succ, i64_w, i32_w]
              rfl
             exact norm_ (by first | (simp only [putAll, Act.put, List.setIfInBounds_toArray, List.set_cons_zero, List.set_cons_succ]; done) | (simp only [putAll, Act.put, List.setIfInBounds_toArray, List.set_cons_zero, List.set_cons_succ]; rfl)) (hJ1_9_10 (gb184, gb185) _ ⟨hHeld, BK150.out, BK151.out, BK167.out, BK168.out, BK184.out, BK185.out, GW184.out, GE184.out, NB150_184.out, NB184_150.out, NB151_184.out, NB184_151.out, NB167_184.out, NB184_167.out, NB168_184.out, NB184_168.out, NB185_184.out, NB184_185.out, GW185.out, GE185.out, NB150_185.out, NB185_150.out, NB151_185.out, NB185_151.out, NB167_185.out, NB185_167.out, NB168_185.out, NB185_168.out, HB.out⟩)
          ·
           skip
           rintro gb184 w29 ⟨hS_, h0_, h1_, h2_, h3_, h4_, h5_, h6_, h7_, h8_, h9_, h10_, h11_, h12_, h13_, h14_, h15_⟩
           clear BK150 BK151 BK167 BK168 HB
           have BK184 := Aside0.mk h4_
           have GW184 := Aside0.mk h5_
           have GE184 := Aside0.mk h6_
           have NB150_184 := Aside0.mk h7_
           have NB184_150 := Aside0.mk h8_
           have NB151_184 := Aside0.mk h9_
           have NB184_151 := Aside0.mk h10_
           have NB167_184 := Aside0.mk h11_
           have NB184_167 := Aside0.mk h12_
           have NB168_184 := Aside0.mk h13_
           have NB184_168 := Aside0.mk h14_
           have BK150 := Aside0.mk h0_
           have BK151 := Aside0.mk h1_
           have BK167 := Aside0.mk h2_
           have BK168 := Aside0.mk h3_
           have HB := Aside0.mk h15_
           clear h0_ h1_ h2_ h3_ h4_ h5_ h6_ h7_ h8_ h9_ h10_ h11_ h12_ h13_ h14_ h15_
           have hHeld := hS_
           refine norm_ (a' := ?_) ?_ ?_
           rotate_left
           ·
            simp only [putAll, Act.put, List.setIfInBounds_toArray, List.set_cons_zero, List.set_cons_succ]
            rfl
           refine two_ (i := 3) (j := 10) (Ni := some 24) (Nj := some 9) #[true, true, true, true, false, false, false, false, false, true, false, false, false, false] #[true, true, true, false, false, false, false, false, false, true, true, false, false, false] rfl rfl rfl rfl (two_of HT_.out (by kernel_rfl)) (by decide) (by decide) (fun K hK => ?_) (fun K hK => ?_)
           ·
            skip
            refine goes_ Try.func18 (by kernel_rfl) rfl #[.agg #[.int .i64 a1_0, .int .i64 a1_1, .int .i64 a1_2, .int .i64 a1_3]] (by rfl) rfl rfl (by (try simp only [List.map_toArray, List.map_cons, List.map_nil]); first | done | rfl | (simp only [List.length_drop, List.length_take]; rfl)) ?_
            with_reducible refine (laws_toPose.calls a1_0 a1_1 a1_2 a1_3 t173 t174 t175 t176 _ A7.out).mono ?_
            rintro e w30 ⟨rfl, hb⟩
            refine ⟨_, rfl, ?_⟩
            replace BK150 := Aside0.mk (blk_below BK150.out hb)
            replace BK151 := Aside0.mk (blk_below BK151.out hb)
            replace BK167 := Aside0.mk (blk_below BK167.out hb)
            replace BK168 := Aside0.mk (blk_below BK168.out hb)
            replace BK184 := Aside0.mk (blk_below BK184.out hb)
            replace HB := Aside0.mk (below_step HB.out hb)
            (try clear hb)
            (try clear hb2)
            (try clear hk)
            (try clear hi)
            refine hK.out _ _ ⟨(blk_cell BK150.out 0).trans rfl, (blk_cell BK150.out 1).trans rfl, (blk_cell BK150.out 2).trans rfl, (blk_cell BK150.out 3).trans rfl, (blk_cell BK151.out 0).trans rfl, (blk_cell BK151.out 1).trans rfl, (blk_cell BK151.out 2).trans rfl, (blk_cell BK151.out 3).trans rfl⟩ (fun hHeld => ?_)
            clear hK K
            refine norm_ (a' := ?_) ?_ ?_
            rotate_left
            ·
             show Act.put _ (some 24) _ = _
             simp only [Act.put, List.setIfInBounds_toArray, List.set_cons_zero, List.set_cons_succ, i64_w, i32_w]
             rfl
            exact norm_ (by first | (simp only [putAll, Act.put, List.setIfInBounds_toArray, List.set_cons_zero, List.set_cons_succ]; done) | (simp only [putAll, Act.put, List.setIfInBounds_toArray, List.set_cons_zero, List.set_cons_succ]; rfl)) (hJ1_3_9 (gb184) _ ⟨hHeld, BK150.out, BK151.out, BK167.out, BK168.out, BK184.out, GW184.out, GE184.out, NB150_184.out, NB184_150.out, NB151_184.out, NB184_151.out, NB167_184.out, NB184_167.out, NB168_184.out, NB184_168.out, HB.out⟩)
           ·
            skip
            refine box_step ?hg (N := 9) ?hd (cs := #[.int .i64 0, .int .i64 0, .int .i64 0]) (t := 24) ?hr ?_; (case hd => rfl); (case hg => rfl); (case hr => first | (go_simp; done) | (go_simp; rfl))
            intro gb185 hg w30 hbox hb
            have BK185 := Aside0.mk (hbox)
            have GW185 := Aside0.mk (laws_FnExactCourseOf.sh_le hg HB.out)
            have GE185 := Aside0.mk (laws_FnExactCourseOf.sh_le hg HB.out)
            have NB150_185 := Aside0.mk (laws_FnExactCourseOf.sh_lt hg BK150.out)
            have NB185_150 := Aside0.mk (laws_FnExactCourseOf.sh_gt hg BK150.out)
            have NB151_185 := Aside0.mk (laws_FnExactCourseOf.sh_lt hg BK151.out)
            have NB185_151 := Aside0.mk (laws_FnExactCourseOf.sh_gt hg BK151.out)
            have NB167_185 := Aside0.mk (laws_FnExactCourseOf.sh_lt hg BK167.out)
            have NB185_167 := Aside0.mk (laws_FnExactCourseOf.sh_gt hg BK167.out)
            have NB168_185 := Aside0.mk (laws_FnExactCourseOf.sh_lt hg BK168.out)
            have NB185_168 := Aside0.mk (laws_FnExactCourseOf.sh_gt hg BK168.out)
            have NB184_185 := Aside0.mk (laws_FnExactCourseOf.sh_lt hg BK184.out)
            have NB185_184 := Aside0.mk (laws_FnExactCourseOf.sh_gt hg BK184.out)
            replace BK150 := Aside0.mk (blk_below BK150.out hb)
            replace BK151 := Aside0.mk (blk_below BK151.out hb)
            replace BK167 := Aside0.mk (blk_below BK167.out hb)
            replace BK168 := Aside0.mk (blk_below BK168.out hb)
            replace BK184 := Aside0.mk (blk_below BK184.out hb)
            replace HB := Aside0.mk (below_step HB.out hb)
            clear hb hbox hg
            refine hK.out _ _ ⟨(blk_cell BK150.out 0).trans rfl, (blk_cell BK150.out 1).trans rfl, (blk_cell BK150.out 2).trans rfl, (blk_cell BK150.out 3).trans rfl, (blk_cell BK151.out 0).trans rfl, (blk_cell BK151.out 1).trans rfl, (blk_cell BK151.out 2).trans rfl, (blk_cell BK151.out 3).trans rfl⟩ (fun hHeld => ?_)
            clear hK K
            refine norm_ (a' := ?_) ?_ ?_
            rotate_left
            ·
             show Act.put _ (some 9) _ = _
             simp only [Act.put, List.setIfInBounds_toArray, List.set_cons_zero, List.set_cons_succ, i64_w, i32_w]
             rfl
            exact norm_ (by first | (simp only [putAll, Act.put, List.setIfInBounds_toArray, List.set_cons_zero, List.set_cons_succ]; done) | (simp only [putAll, Act.put, List.setIfInBounds_toArray, List.set_cons_zero, List.set_cons_succ]; rfl)) (hJ1_9_10 (gb184, gb185) _ ⟨hHeld, BK150.out, BK151.out, BK167.out, BK168.out, BK184.out, BK185.out, GW184.out, GE184.out, NB150_184.out, NB184_150.out, NB151_184.out, NB184_151.out, NB167_184.out, NB184_167.out, NB168_184.out, NB184_168.out, NB185_184.out, NB184_185.out, GW185.out, GE185.out, NB150_185.out, NB185_150.out, NB151_185.out, NB185_151.out, NB167_185.out, NB185_167.out, NB168_185.out, NB185_168.out, HB.out⟩)
         ·
          skip
          rintro _ w29 ⟨hS_, h0_, h1_, h2_, h3_, h4_⟩
          clear BK150 BK151 BK167 BK168 HB
          have BK150 := Aside0.mk h0_
          have BK151 := Aside0.mk h1_
          have BK167 := Aside0.mk h2_
          have BK168 := Aside0.mk h3_
          have HB := Aside0.mk h4_
          clear h0_ h1_ h2_ h3_ h4_
          have hHeld := hS_
          refine norm_ (a' := ?_) ?_ ?_
          rotate_left
          ·
           simp only [putAll, Act.put, List.setIfInBounds_toArray, List.set_cons_zero, List.set_cons_succ]
           rfl
          refine three_ (i := 4) (j := 9) (k := 10) (Ni := some 25) (Nj := some 8) (Nk := some 9) #[true, true, true, true, true, false, false, false, false, false, false, false, false, false] #[true, true, true, true, false, false, false, false, false, true, false, false, false, false] #[true, true, true, true, false, false, false, false, false, false, true, false, false, false] rfl rfl rfl rfl rfl rfl (three_of HT_.out (by kernel_rfl)) (by decide) (by decide) (by decide) (fun K hK => ?_) (fun K hK => ?_) (fun K hK => ?_)
          ·
           skip
           refine goes_ Try.func19 (by kernel_rfl) rfl #[.agg #[.int .i64 t169, .int .i64 t170, .int .i64 t171, .int .i64 t172], .agg #[.int .i64 t173, .int .i64 t174, .int .i64 t175, .int .i64 t176]] (by rfl) rfl rfl (by (try simp only [List.map_toArray, List.map_cons, List.map_nil]); first | done | rfl | (simp only [List.length_drop, List.length_take]; rfl)) ?_
           with_reducible refine (impl_CourseOf.calls k t169 t170 t171 t172 t173 t174 t175 t176 t177 t178 t179 t180 t181 t182 t183 _ A8.out).mono ?_
           rintro e w30 ⟨rfl, hb⟩
           refine ⟨_, rfl, ?_⟩
           replace BK150 := Aside0.mk (blk_below BK150.out hb)
           replace BK151 := Aside0.mk (blk_below BK151.out hb)
           replace BK167 := Aside0.mk (blk_below BK167.out hb)
           replace BK168 := Aside0.mk (blk_below BK168.out hb)
           replace HB := Aside0.mk (below_step HB.out hb)
           (try clear hb)
           (try clear hb2)
           (try clear hk)
           (try clear hi)
           refine hK.out _ _ ⟨(blk_cell BK150.out 0).trans rfl, (blk_cell BK150.out 1).trans rfl, (blk_cell BK150.out 2).trans rfl, (blk_cell BK150.out 3).trans rfl, (blk_cell BK151.out 0).trans rfl, (blk_cell BK151.out 1).trans rfl, (blk_cell BK151.out 2).trans rfl, (blk_cell BK151.out 3).trans rfl⟩ (fun hHeld => ?_)
           clear hK K
           refine norm_ (a' := ?_) ?_ ?_
           rotate_left
           ·
            show Act.put _ (some 25) _ = _
            simp only [Act.put, List.setIfInBounds_toArray, List.set_cons_zero, List.set_cons_succ, i64_w, i32_w]
            rfl
           refine pure_ (i := 5) (N := some 20) (v := ?_) (a' := ?_) #[true, true, true, true, true, true, false, false, false, false, false, false, false, false] rfl rfl (any_of HT_.out (by kernel_rfl)) (fun _ _ _ h => h) (Or.inl ⟨by rfl, ?_⟩) ?_ ?_
           rotate_left
           ·
            intro w'
            go_simp
            with_reducible rfl
           rotate_left
           ·
            simp only [Act.put, List.setIfInBounds_toArray, List.set_cons_zero, List.set_cons_succ, i64_w, i32_w]
            rfl
           refine pure_ (i := 6) (N := some 26) (v := ?_) (a' := ?_) #[true, true, true, true, true, true, true, false, false, false, false, false, false, false] rfl rfl (any_of HT_.out (by kernel_rfl)) (fun _ _ _ h => h) (Or.inl ⟨by rfl, ?_⟩) ?_ ?_
           rotate_left
           ·
            intro w'
            go_simp
            with_reducible rfl
           rotate_left
           ·
            simp only [Act.put, List.setIfInBounds_toArray, List.set_cons_zero, List.set_cons_succ, i64_w, i32_w]
            rfl
           refine pure_ (i := 7) (N := some 27) (v := ?_) (a' := ?_) #[true, true, true, true, true, true, true, true, false, false, false, false, false, false] rfl rfl (any_of HT_.out (by kernel_rfl)) (fun _ _ _ h => h) (Or.inl ⟨by rfl, ?_⟩) ?_ ?_
           rotate_left
           ·
            intro w'
            go_simp
            with_reducible rfl
           rotate_left
           ·
            simp only [Act.put, List.setIfInBounds_toArray, List.set_cons_zero, List.set_cons_succ, i64_w, i32_w]
            rfl
           refine pure_ (i := 8) (N := some 28) (v := ?_) (a' := ?_) #[true, true, true, true, true, true, true, true, true, false, false, false, false, false] rfl rfl (any_of HT_.out (by kernel_rfl)) (fun _ _ _ h => h) (Or.inl ⟨by rfl, ?_⟩) ?_ ?_
           rotate_left
           ·
            intro w'
            go_simp
            with_reducible rfl
           rotate_left
           ·
            simp only [Act.put, List.setIfInBounds_toArray, List.set_cons_zero, List.set_cons_succ, i64_w, i32_w]
            rfl
           exact norm_ (by first | (simp only [putAll, Act.put, List.setIfInBounds_toArray, List.set_cons_zero, List.set_cons_succ]; done) | (simp only [putAll, Act.put, List.setIfInBounds_toArray, List.set_cons_zero, List.set_cons_succ]; rfl)) (hJ1_3_4 () _ ⟨hHeld, BK150.out, BK151.out, BK167.out, BK168.out, HB.out⟩)
          ·
           skip
           refine box_step ?hg (N := 8) ?hd (cs := #[.int .i64 0, .int .i64 0, .int .i64 0]) (t := 24) ?hr ?_; (case hd => rfl); (case hg => rfl); (case hr => first | (go_simp; done) | (go_simp; rfl))
           intro gb184 hg w30 hbox hb
           have BK184 := Aside0.mk (hbox)
           have GW184 := Aside0.mk (laws_FnExactCourseOf.sh_le hg HB.out)
           have GE184 := Aside0.mk (laws_FnExactCourseOf.sh_le hg HB.out)
           have NB150_184 := Aside0.mk (laws_FnExactCourseOf.sh_lt hg BK150.out)
           have NB184_150 := Aside0.mk (laws_FnExactCourseOf.sh_gt hg BK150.out)
           have NB151_184 := Aside0.mk (laws_FnExactCourseOf.sh_lt hg BK151.out)
           have NB184_151 := Aside0.mk (laws_FnExactCourseOf.sh_gt hg BK151.out)
           have NB167_184 := Aside0.mk (laws_FnExactCourseOf.sh_lt hg BK167.out)
           have NB184_167 := Aside0.mk (laws_FnExactCourseOf.sh_gt hg BK167.out)
           have NB168_184 := Aside0.mk (laws_FnExactCourseOf.sh_lt hg BK168.out)
           have NB184_168 := Aside0.mk (laws_FnExactCourseOf.sh_gt hg BK168.out)
           replace BK150 := Aside0.mk (blk_below BK150.out hb)
           replace BK151 := Aside0.mk (blk_below BK151.out hb)
           replace BK167 := Aside0.mk (blk_below BK167.out hb)
           replace BK168 := Aside0.mk (blk_below BK168.out hb)
           replace HB := Aside0.mk (below_step HB.out hb)
           clear hb hbox hg
           refine hK.out _ _ ⟨(blk_cell BK150.out 0).trans rfl, (blk_cell BK150.out 1).trans rfl, (blk_cell BK150.out 2).trans rfl, (blk_cell BK150.out 3).trans rfl, (blk_cell BK151.out 0).trans rfl, (blk_cell BK151.out 1).trans rfl, (blk_cell BK151.out 2).trans rfl, (blk_cell BK151.out 3).trans rfl⟩ (fun hHeld => ?_)
           clear hK K
           refine norm_ (a' := ?_) ?_ ?_
           rotate_left
           ·
            show Act.put _ (some 8) _ = _
            simp only [Act.put, List.setIfInBounds_toArray, List.set_cons_zero, List.set_cons_succ, i64_w, i32_w]
            rfl
           exact norm_ (by first | (simp only [putAll, Act.put, List.setIfInBounds_toArray, List.set_cons_zero, List.set_cons_succ]; done) | (simp only [putAll, Act.put, List.setIfInBounds_toArray, List.set_cons_zero, List.set_cons_succ]; rfl)) (hJ1_3_9 (gb184) _ ⟨hHeld, BK150.out, BK151.out, BK167.out, BK168.out, BK184.out, GW184.out, GE184.out, NB150_184.out, NB184_150.out, NB151_184.out, NB184_151.out, NB167_184.out, NB184_167.out, NB168_184.out, NB184_168.out, HB.out⟩)
          ·
           skip
           refine box_step ?hg (N := 9) ?hd (cs := #[.int .i64 0, .int .i64 0, .int .i64 0]) (t := 24) ?hr ?_; (case hd => rfl); (case hg => rfl); (case hr => first | (go_simp; done) | (go_simp; rfl))
           intro gb185 hg w30 hbox hb
           have BK185 := Aside0.mk (hbox)
           have GW185 := Aside0.mk (laws_FnExactCourseOf.sh_le hg HB.out)
           have GE185 := Aside0.mk (laws_FnExactCourseOf.sh_le hg HB.out)
           have NB150_185 := Aside0.mk (laws_FnExactCourseOf.sh_lt hg BK150.out)
           have NB185_150 := Aside0.mk (laws_FnExactCourseOf.sh_gt hg BK150.out)
           have NB151_185 := Aside0.mk (laws_FnExactCourseOf.sh_lt hg BK151.out)
           have NB185_151 := Aside0.mk (laws_FnExactCourseOf.sh_gt hg BK151.out)
           have NB167_185 := Aside0.mk (laws_FnExactCourseOf.sh_lt hg BK167.out)
           have NB185_167 := Aside0.mk (laws_FnExactCourseOf.sh_gt hg BK167.out)
           have NB168_185 := Aside0.mk (laws_FnExactCourseOf.sh_lt hg BK168.out)
           have NB185_168 := Aside0.mk (laws_FnExactCourseOf.sh_gt hg BK168.out)
           replace BK150 := Aside0.mk (blk_below BK150.out hb)
           replace BK151 := Aside0.mk (blk_below BK151.out hb)
           replace BK167 := Aside0.mk (blk_below BK167.out hb)
           replace BK168 := Aside0.mk (blk_below BK168.out hb)
           replace HB := Aside0.mk (below_step HB.out hb)
           clear hb hbox hg
           refine hK.out _ _ ⟨(blk_cell BK150.out 0).trans rfl, (blk_cell BK150.out 1).trans rfl, (blk_cell BK150.out 2).trans rfl, (blk_cell BK150.out 3).trans rfl, (blk_cell BK151.out 0).trans rfl, (blk_cell BK151.out 1).trans rfl, (blk_cell BK151.out 2).trans rfl, (blk_cell BK151.out 3).trans rfl⟩ (fun hHeld => ?_)
           clear hK K
           refine norm_ (a' := ?_) ?_ ?_
           rotate_left
           ·
            show Act.put _ (some 9) _ = _
            simp only [Act.put, List.setIfInBounds_toArray, List.set_cons_zero, List.set_cons_succ, i64_w, i32_w]
            rfl
           exact norm_ (by first | (simp only [putAll, Act.put, List.setIfInBounds_toArray, List.set_cons_zero, List.set_cons_succ]; done) | (simp only [putAll, Act.put, List.setIfInBounds_toArray, List.set_cons_zero, List.set_cons_succ]; rfl)) (hJ1_3_10 (gb185) _ ⟨hHeld, BK150.out, BK151.out, BK167.out, BK168.out, BK185.out, GW185.out, GE185.out, NB150_185.out, NB185_150.out, NB151_185.out, NB185_151.out, NB167_185.out, NB185_167.out, NB168_185.out, NB185_168.out, HB.out⟩)
        ·
         skip
         rintro ⟨gb184, gb185⟩ w30 ⟨hS_, h0_, h1_, h2_, h3_, h4_, h5_, h6_, h7_, h8_, h9_, h10_, h11_, h12_, h13_, h14_, h15_, h16_, h17_, h18_, h19_, h20_, h21_, h22_, h23_, h24_, h25_, h26_, h27_, h28_⟩
         clear BK150 BK151 BK167 BK168 HB
         have BK184 := Aside0.mk h4_
         have BK185 := Aside0.mk h5_
         have GW184 := Aside0.mk h6_
         have GE184 := Aside0.mk h7_
         have NB150_184 := Aside0.mk h8_
         have NB184_150 := Aside0.mk h9_
         have NB151_184 := Aside0.mk h10_
         have NB184_151 := Aside0.mk h11_
         have NB167_184 := Aside0.mk h12_
         have NB184_167 := Aside0.mk h13_
         have NB168_184 := Aside0.mk h14_
         have NB184_168 := Aside0.mk h15_
         have NB185_184 := Aside0.mk h16_
         have NB184_185 := Aside0.mk h17_
         have GW185 := Aside0.mk h18_
         have GE185 := Aside0.mk h19_
         have NB150_185 := Aside0.mk h20_
         have NB185_150 := Aside0.mk h21_
         have NB151_185 := Aside0.mk h22_
         have NB185_151 := Aside0.mk h23_
         have NB167_185 := Aside0.mk h24_
         have NB185_167 := Aside0.mk h25_
         have NB168_185 := Aside0.mk h26_
         have NB185_168 := Aside0.mk h27_
         have BK150 := Aside0.mk h0_
         have BK151 := Aside0.mk h1_
         have BK167 := Aside0.mk h2_
         have BK168 := Aside0.mk h3_
         have HB := Aside0.mk h28_
         clear h0_ h1_ h2_ h3_ h4_ h5_ h6_ h7_ h8_ h9_ h10_ h11_ h12_ h13_ h14_ h15_ h16_ h17_ h18_ h19_ h20_ h21_ h22_ h23_ h24_ h25_ h26_ h27_ h28_
         have hHeld := hS_
         refine norm_ (a' := ?_) ?_ ?_
         rotate_left
         ·
          simp only [putAll, Act.put, List.setIfInBounds_toArray, List.set_cons_zero, List.set_cons_succ]
          rfl
         refine one_ (i := 3) (N := some 24) #[true, true, true, true, false, false, false, false, false, true, true, false, false, false] rfl rfl (one_of HT_.out (by kernel_rfl)) (by decide) (fun K hK => ?_)
         refine goes_ Try.func18 (by kernel_rfl) rfl #[.agg #[.int .i64 a1_0, .int .i64 a1_1, .int .i64 a1_2, .int .i64 a1_3]] (by rfl) rfl rfl (by (try simp only [List.map_toArray, List.map_cons, List.map_nil]); first | done | rfl | (simp only [List.length_drop, List.length_take]; rfl)) ?_
         with_reducible refine (laws_toPose.calls a1_0 a1_1 a1_2 a1_3 t173 t174 t175 t176 _ A7.out).mono ?_
         rintro e w31 ⟨rfl, hb⟩
         refine ⟨_, rfl, ?_⟩
         replace BK150 := Aside0.mk (blk_below BK150.out hb)
         replace BK151 := Aside0.mk (blk_below BK151.out hb)
         replace BK167 := Aside0.mk (blk_below BK167.out hb)
         replace BK168 := Aside0.mk (blk_below BK168.out hb)
         replace BK184 := Aside0.mk (blk_below BK184.out hb)
         replace BK185 := Aside0.mk (blk_below BK185.out hb)
         replace HB := Aside0.mk (below_step HB.out hb)
         (try clear hb)
         (try clear hb2)
         (try clear hk)
         (try clear hi)
         refine hK.out _ _ ⟨(blk_cell BK150.out 0).trans rfl, (blk_cell BK150.out 1).trans rfl, (blk_cell BK150.out 2).trans rfl, (blk_cell BK150.out 3).trans rfl, (blk_cell BK151.out 0).trans rfl, (blk_cell BK151.out 1).trans rfl, (blk_cell BK151.out 2).trans rfl, (blk_cell BK151.out 3).trans rfl⟩ (fun hHeld => ?_)
         clear hK K
         refine norm_ (a' := ?_) ?_ ?_
         rotate_left
         ·
          show Act.put _ (some 24) _ = _
          simp only [Act.put, List.setIfInBounds_toArray, List.set_cons_zero, List.set_cons_succ, i64_w, i32_w]
          rfl
         exact norm_ (by first | (simp only [putAll, Act.put, List.setIfInBounds_toArray, List.set_cons_zero, List.set_cons_succ]; done) | (simp only [putAll, Act.put, List.setIfInBounds_toArray, List.set_cons_zero, List.set_cons_succ]; rfl)) (hJ1_3_9_10 (gb184, gb185) _ ⟨hHeld, BK150.out, BK151.out, BK167.out, BK168.out, BK184.out, BK185.out, GW184.out, GE184.out, NB150_184.out, NB184_150.out, NB151_184.out, NB184_151.out, NB167_184.out, NB184_167.out, NB168_184.out, NB184_168.out, NB185_184.out, NB184_185.out, GW185.out, GE185.out, NB150_185.out, NB185_150.out, NB151_185.out, NB185_151.out, NB167_185.out, NB185_167.out, NB168_185.out, NB185_168.out, HB.out⟩)
       ·
        skip
        rintro gb185 w30 ⟨hS_, h0_, h1_, h2_, h3_, h4_, h5_, h6_, h7_, h8_, h9_, h10_, h11_, h12_, h13_, h14_, h15_⟩
        clear BK150 BK151 BK167 BK168 HB
        have BK185 := Aside0.mk h4_
        have GW185 := Aside0.mk h5_
        have GE185 := Aside0.mk h6_
        have NB150_185 := Aside0.mk h7_
        have NB185_150 := Aside0.mk h8_
        have NB151_185 := Aside0.mk h9_
        have NB185_151 := Aside0.mk h10_
        have NB167_185 := Aside0.mk h11_
        have NB185_167 := Aside0.mk h12_
        have NB168_185 := Aside0.mk h13_
        have NB185_168 := Aside0.mk h14_
        have BK150 := Aside0.mk h0_
        have BK151 := Aside0.mk h1_
        have BK167 := Aside0.mk h2_
        have BK168 := Aside0.mk h3_
        have HB := Aside0.mk h15_
        clear h0_ h1_ h2_ h3_ h4_ h5_ h6_ h7_ h8_ h9_ h10_ h11_ h12_ h13_ h14_ h15_
        have hHeld := hS_
        refine norm_ (a' := ?_) ?_ ?_
        rotate_left
        ·
         simp only [putAll, Act.put, List.setIfInBounds_toArray, List.set_cons_zero, List.set_cons_succ]
         rfl
        refine two_ (i := 4) (j := 9) (Ni := some 25) (Nj := some 8) #[true, true, true, true, true, false, false, false, false, false, true, false, false, false] #[true, true, true, true, false, false, false, false, false, true, true, false, false, false] rfl rfl rfl rfl (two_of HT_.out (by kernel_rfl)) (by decide) (by decide) (fun K hK => ?_) (fun K hK => ?_)
        ·
         skip
         refine goes_ Try.func19 (by kernel_rfl) rfl #[.agg #[.int .i64 t169, .int .i64 t170, .int .i64 t171, .int .i64 t172], .agg #[.int .i64 t173, .int .i64 t174, .int .i64 t175, .int .i64 t176]] (by rfl) rfl rfl (by (try simp only [List.map_toArray, List.map_cons, List.map_nil]); first | done | rfl | (simp only [List.length_drop, List.length_take]; rfl)) ?_
         with_reducible refine (impl_CourseOf.calls k t169 t170 t171 t172 t173 t174 t175 t176 t177 t178 t179 t180 t181 t182 t183 _ A8.out).mono ?_
         rintro e w31 ⟨rfl, hb⟩
         refine ⟨_, rfl, ?_⟩
         replace BK150 := Aside0.mk (blk_below BK150.out hb)
         replace BK151 := Aside0.mk (blk_below BK151.out hb)
         replace BK167 := Aside0.mk (blk_below BK167.out hb)
         replace BK168 := Aside0.mk (blk_below BK168.out hb)
         replace BK185 := Aside0.mk (blk_below BK185.out hb)
         replace HB := Aside0.mk (below_step HB.out hb)
         (try clear hb)
         (try clear hb2)
         (try clear hk)
         (try clear hi)
         refine hK.out _ _ ⟨(blk_cell BK150.out 0).trans rfl, (blk_cell BK150.out 1).trans rfl, (blk_cell BK150.out 2).trans rfl, (blk_cell BK150.out 3).trans rfl, (blk_cell BK151.out 0).trans rfl, (blk_cell BK151.out 1).trans rfl, (blk_cell BK151.out 2).trans rfl, (blk_cell BK151.out 3).trans rfl⟩ (fun hHeld => ?_)
         clear hK K
         refine norm_ (a' := ?_) ?_ ?_
         rotate_left
         ·
          show Act.put _ (some 25) _ = _
          simp only [Act.put, List.setIfInBounds_toArray, List.set_cons_zero, List.set_cons_succ, i64_w, i32_w]
          rfl
         refine pure_ (i := 5) (N := some 20) (v := ?_) (a' := ?_) #[true, true, true, true, true, true, false, false, false, false, true, false, false, false] rfl rfl (any_of HT_.out (by kernel_rfl)) (fun _ _ _ h => h) (Or.inl ⟨by rfl, ?_⟩) ?_ ?_
         rotate_left
         ·
          intro w'
          go_simp
          with_reducible rfl
         rotate_left
         ·
          simp only [Act.put, List.setIfInBounds_toArray, List.set_cons_zero, List.set_cons_succ, i64_w, i32_w]
          rfl
         refine pure_ (i := 6) (N := some 26) (v := ?_) (a' := ?_) #[true, true, true, true, true, true, true, false, false, false, true, false, false, false] rfl rfl (any_of HT_.out (by kernel_rfl)) (fun _ _ _ h => h) (Or.inl ⟨by rfl, ?_⟩) ?_ ?_
         rotate_left
         ·
          intro w'
          go_simp
          with_reducible rfl
         rotate_left
         ·
          simp only [Act.put, List.setIfInBounds_toArray, List.set_cons_zero, List.set_cons_succ, i64_w, i32_w]
          rfl
         refine pure_ (i := 7) (N := some 27) (v := ?_) (a' := ?_) #[true, true, true, true, true, true, true, true, false, false, true, false, false, false] rfl rfl (any_of HT_.out (by kernel_rfl)) (fun _ _ _ h => h) (Or.inl ⟨by rfl, ?_⟩) ?_ ?_
         rotate_left
         ·
          intro w'
          go_simp
          with_reducible rfl
         rotate_left
         ·
          simp only [Act.put, List.setIfInBounds_toArray, List.set_cons_zero, List.set_cons_succ, i64_w, i32_w]
          rfl
         refine pure_ (i := 8) (N := some 28) (v := ?_) (a' := ?_) #[true, true, true, true, true, true, true, true, true, false, true, false, false, false] rfl rfl (any_of HT_.out (by kernel_rfl)) (fun _ _ _ h => h) (Or.inl ⟨by rfl, ?_⟩) ?_ ?_
         rotate_left
         ·
          intro w'
          go_simp
          with_reducible rfl
         rotate_left
         ·
          simp only [Act.put, List.setIfInBounds_toArray, List.set_cons_zero, List.set_cons_succ, i64_w, i32_w]
          rfl
         exact norm_ (by first | (simp only [putAll, Act.put, List.setIfInBounds_toArray, List.set_cons_zero, List.set_cons_succ]; done) | (simp only [putAll, Act.put, List.setIfInBounds_toArray, List.set_cons_zero, List.set_cons_succ]; rfl)) (hJ1_3_4_10 (gb185) _ ⟨hHeld, BK150.out, BK151.out, BK167.out, BK168.out, BK185.out, GW185.out, GE185.out, NB150_185.out, NB185_150.out, NB151_185.out, NB185_151.out, NB167_185.out, NB185_167.out, NB168_185.out, NB185_168.out, HB.out⟩)
        ·
         skip
         refine box_step ?hg (N := 8) ?hd (cs := #[.int .i64 0, .int .i64 0, .int .i64 0]) (t := 24) ?hr ?_; (case hd => rfl); (case hg => rfl); (case hr => first | (go_simp; done) | (go_simp; rfl))
         intro gb184 hg w31 hbox hb
         have BK184 := Aside0.mk (hbox)
         have GW184 := Aside0.mk (laws_FnExactCourseOf.sh_le hg HB.out)
         have GE184 := Aside0.mk (laws_FnExactCourseOf.sh_le hg HB.out)
         have NB150_184 := Aside0.mk (laws_FnExactCourseOf.sh_lt hg BK150.out)
         have NB184_150 := Aside0.mk (laws_FnExactCourseOf.sh_gt hg BK150.out)
         have NB151_184 := Aside0.mk (laws_FnExactCourseOf.sh_lt hg BK151.out)
         have NB184_151 := Aside0.mk (laws_FnExactCourseOf.sh_gt hg BK151.out)
         have NB167_184 := Aside0.mk (laws_FnExactCourseOf.sh_lt hg BK167.out)
         have NB184_167 := Aside0.mk (laws_FnExactCourseOf.sh_gt hg BK167.out)
         have NB168_184 := Aside0.mk (laws_FnExactCourseOf.sh_lt hg BK168.out)
         have NB184_168 := Aside0.mk (laws_FnExactCourseOf.sh_gt hg BK168.out)
         have NB185_184 := Aside0.mk (laws_FnExactCourseOf.sh_lt hg BK185.out)
         have NB184_185 := Aside0.mk (laws_FnExactCourseOf.sh_gt hg BK185.out)
         replace BK150 := Aside0.mk (blk_below BK150.out hb)
         replace BK151 := Aside0.mk (blk_below BK151.out hb)
         replace BK167 := Aside0.mk (blk_below BK167.out hb)
         replace BK168 := Aside0.mk (blk_below BK168.out hb)
         replace BK185 := Aside0.mk (blk_below BK185.out hb)
         replace HB := Aside0.mk (below_step HB.out hb)
         clear hb hbox hg
         refine hK.out _ _ ⟨(blk_cell BK150.out 0).trans rfl, (blk_cell BK150.out 1).trans rfl, (blk_cell BK150.out 2).trans rfl, (blk_cell BK150.out 3).trans rfl, (blk_cell BK151.out 0).trans rfl, (blk_cell BK151.out 1).trans rfl, (blk_cell BK151.out 2).trans rfl, (blk_cell BK151.out 3).trans rfl⟩ (fun hHeld => ?_)
         clear hK K
         refine norm_ (a' := ?_) ?_ ?_
         rotate_left
         ·
          show Act.put _ (some 8) _ = _
          simp only [Act.put, List.setIfInBounds_toArray, List.set_cons_zero, List.set_cons_succ, i64_w, i32_w]
          rfl
         exact norm_ (by first | (simp only [putAll, Act.put, List.setIfInBounds_toArray, List.set_cons_zero, List.set_cons_succ]; done) | (simp only [putAll, Act.put, List.setIfInBounds_toArray, List.set_cons_zero, List.set_cons_succ]; rfl)) (hJ1_3_9_10 (gb184, gb185) _ ⟨hHeld, BK150.out, BK151.out, BK167.out, BK168.out, BK184.out, BK185.out, GW184.out, GE184.out, NB150_184.out, NB184_150.out, NB151_184.out, NB184_151.out, NB167_184.out, NB184_167.out, NB168_184.out, NB184_168.out, NB185_184.out, NB184_185.out, GW185.out, GE185.out, NB150_185.out, NB185_150.out, NB151_185.out, NB185_151.out, NB167_185.out, NB185_167.out, NB168_185.out, NB185_168.out, HB.out⟩)
      ·
       skip
       rintro gb184 w30 ⟨hS_, h0_, h1_, h2_, h3_, h4_, h5_, h6_, h7_, h8_, h9_, h10_, h11_, h12_, h13_, h14_, h15_⟩
       clear BK150 BK151 BK167 BK168 HB
       have BK184 := Aside0.mk h4_
       have GW184 := Aside0.mk h5_
       have GE184 := Aside0.mk h6_
       have NB150_184 := Aside0.mk h7_
       have NB184_150 := Aside0.mk h8_
       have NB151_184 := Aside0.mk h9_
       have NB184_151 := Aside0.mk h10_
       have NB167_184 := Aside0.mk h11_
       have NB184_167 := Aside0.mk h12_
       have NB168_184 := Aside0.mk h13_
       have NB184_168 := Aside0.mk h14_
       have BK150 := Aside0.mk h0_
       have BK151 := Aside0.mk h1_
       have BK167 := Aside0.mk h2_
       have BK168 := Aside0.mk h3_
       have HB := Aside0.mk h15_
       clear h0_ h1_ h2_ h3_ h4_ h5_ h6_ h7_ h8_ h9_ h10_ h11_ h12_ h13_ h14_ h15_
       have hHeld := hS_
       refine norm_ (a' := ?_) ?_ ?_
       rotate_left
       ·
        simp only [putAll, Act.put, List.setIfInBounds_toArray, List.set_cons_zero, List.set_cons_succ]
        rfl
       refine two_ (i := 4) (j := 10) (Ni := some 25) (Nj := some 9) #[true, true, true, true, true, false, false, false, false, true, false, false, false, false] #[true, true, true, true, false, false, false, false, false, true, true, false, false, false] rfl rfl rfl rfl (two_of HT_.out (by kernel_rfl)) (by decide) (by decide) (fun K hK => ?_) (fun K hK => ?_)
       ·
        skip
        refine goes_ Try.func19 (by kernel_rfl) rfl #[.agg #[.int .i64 t169, .int .i64 t170, .int .i64 t171, .int .i64 t172], .agg #[.int .i64 t173, .int .i64 t174, .int .i64 t175, .int .i64 t176]] (by rfl) rfl rfl (by (try simp only [List.map_toArray, List.map_cons, List.map_nil]); first | done | rfl | (simp only [List.length_drop, List.length_take]; rfl)) ?_
        with_reducible refine (impl_CourseOf.calls k t169 t170 t171 t172 t173 t174 t175 t176 t177 t178 t179 t180 t181 t182 t183 _ A8.out).mono ?_
        rintro e w31 ⟨rfl, hb⟩
        refine ⟨_, rfl, ?_⟩
        replace BK150 := Aside0.mk (blk_below BK150.out hb)
        replace BK151 := Aside0.mk (blk_below BK151.out hb)
        replace BK167 := Aside0.mk (blk_below BK167.out hb)
        replace BK168 := Aside0.mk (blk_below BK168.out hb)
        replace BK184 := Aside0.mk (blk_below BK184.out hb)
        replace HB := Aside0.mk (below_step HB.out hb)
        (try clear hb)
        (try clear hb2)
        (try clear hk)
        (try clear hi)
        refine hK.out _ _ ⟨(blk_cell BK150.out 0).trans rfl, (blk_cell BK150.out 1).trans rfl, (blk_cell BK150.out 2).trans rfl, (blk_cell BK150.out 3).trans rfl, (blk_cell BK151.out 0).trans rfl, (blk_cell BK151.out 1).trans rfl, (blk_cell BK151.out 2).trans rfl, (blk_cell BK151.out 3).trans rfl⟩ (fun hHeld => ?_)
        clear hK K
        refine norm_ (a' := ?_) ?_ ?_
        rotate_left
        ·
         show Act.put _ (some 25) _ = _
         simp only [Act.put, List.setIfInBounds_toArray, List.set_cons_zero, List.set_cons_succ, i64_w, i32_w]
         rfl
        refine pure_ (i := 5) (N := some 20) (v := ?_) (a' := ?_) #[true, true, true, true, true, true, false, false, false, true, false, false, false, false] rfl rfl (any_of HT_.out (by kernel_rfl)) (fun _ _ _ h => h) (Or.inl ⟨by rfl, ?_⟩) ?_ ?_
        rotate_left
        ·
         intro w'
         go_simp
         with_reducible rfl
        rotate_left
        ·
         simp only [Act.put, List.setIfInBounds_toArray, List.set_cons_zero, List.set_cons_succ, i64_w, i32_w]
         rfl
        refine pure_ (i := 6) (N := some 26) (v := ?_) (a' := ?_) #[true, true, true, true, true, true, true, false, false, true, false, false, false, false] rfl rfl (any_of HT_.out (by kernel_rfl)) (fun _ _ _ h => h) (Or.inl ⟨by rfl, ?_⟩) ?_ ?_
        rotate_left
        ·
         intro w'
         go_simp
         with_reducible rfl
        rotate_left
        ·
         simp only [Act.put, List.setIfInBounds_toArray, List.set_cons_zero, List.set_cons_succ, i64_w, i32_w]
         rfl
        refine pure_ (i := 7) (N := some 27) (v := ?_) (a' := ?_) #[true, true, true, true, true, true, true, true, false, true, false, false, false, false] rfl rfl (any_of HT_.out (by kernel_rfl)) (fun _ _ _ h => h) (Or.inl ⟨by rfl, ?_⟩) ?_ ?_
        rotate_left
        ·
         intro w'
         go_simp
         with_reducible rfl
        rotate_left
        ·
         simp only [Act.put, List.setIfInBounds_toArray, List.set_cons_zero, List.set_cons_succ, i64_w, i32_w]
         rfl
        refine pure_ (i := 8) (N := some 28) (v := ?_) (a' := ?_) #[true, true, true, true, true, true, true, true, true, true, false, false, false, false] rfl rfl (any_of HT_.out (by kernel_rfl)) (fun _ _ _ h => h) (Or.inl ⟨by rfl, ?_⟩) ?_ ?_
        rotate_left
        ·
         intro w'
         go_simp
         with_reducible rfl
        rotate_left
        ·
         simp only [Act.put, List.setIfInBounds_toArray, List.set_cons_zero, List.set_cons_succ, i64_w, i32_w]
         rfl
        exact norm_ (by first | (simp only [putAll, Act.put, List.setIfInBounds_toArray, List.set_cons_zero, List.set_cons_succ]; done) | (simp only [putAll, Act.put, List.setIfInBounds_toArray, List.set_cons_zero, List.set_cons_succ]; rfl)) (hJ1_3_4_9 (gb184) _ ⟨hHeld, BK150.out, BK151.out, BK167.out, BK168.out, BK184.out, GW184.out, GE184.out, NB150_184.out, NB184_150.out, NB151_184.out, NB184_151.out, NB167_184.out, NB184_167.out, NB168_184.out, NB184_168.out, HB.out⟩)
       ·
        skip
        refine box_step ?hg (N := 9) ?hd (cs := #[.int .i64 0, .int .i64 0, .int .i64 0]) (t := 24) ?hr ?_; (case hd => rfl); (case hg => rfl); (case hr => first | (go_simp; done) | (go_simp; rfl))
        intro gb185 hg w31 hbox hb
        have BK185 := Aside0.mk (hbox)
        have GW185 := Aside0.mk (laws_FnExactCourseOf.sh_le hg HB.out)
        have GE185 := Aside0.mk (laws_FnExactCourseOf.sh_le hg HB.out)
        have NB150_185 := Aside0.mk (laws_FnExactCourseOf.sh_lt hg BK150.out)
        have NB185_150 := Aside0.mk (laws_FnExactCourseOf.sh_gt hg BK150.out)
        have NB151_185 := Aside0.mk (laws_FnExactCourseOf.sh_lt hg BK151.out)
        have NB185_151 := Aside0.mk (laws_FnExactCourseOf.sh_gt hg BK151.out)
        have NB167_185 := Aside0.mk (laws_FnExactCourseOf.sh_lt hg BK167.out)
        have NB185_167 := Aside0.mk (laws_FnExactCourseOf.sh_gt hg BK167.out)
        have NB168_185 := Aside0.mk (laws_FnExactCourseOf.sh_lt hg BK168.out)
        have NB185_168 := Aside0.mk (laws_FnExactCourseOf.sh_gt hg BK168.out)
        have NB184_185 := Aside0.mk (laws_FnExactCourseOf.sh_lt hg BK184.out)
        have NB185_184 := Aside0.mk (laws_FnExactCourseOf.sh_gt hg BK184.out)
        replace BK150 := Aside0.mk (blk_below BK150.out hb)
        replace BK151 := Aside0.mk (blk_below BK151.out hb)
        replace BK167 := Aside0.mk (blk_below BK167.out hb)
        replace BK168 := Aside0.mk (blk_below BK168.out hb)
        replace BK184 := Aside0.mk (blk_below BK184.out hb)
        replace HB := Aside0.mk (below_step HB.out hb)
        clear hb hbox hg
        refine hK.out _ _ ⟨(blk_cell BK150.out 0).trans rfl, (blk_cell BK150.out 1).trans rfl, (blk_cell BK150.out 2).trans rfl, (blk_cell BK150.out 3).trans rfl, (blk_cell BK151.out 0).trans rfl, (blk_cell BK151.out 1).trans rfl, (blk_cell BK151.out 2).trans rfl, (blk_cell BK151.out 3).trans rfl⟩ (fun hHeld => ?_)
        clear hK K
        refine norm_ (a' := ?_) ?_ ?_
        rotate_left
        ·
         show Act.put _ (some 9) _ = _
         simp only [Act.put, List.setIfInBounds_toArray, List.set_cons_zero, List.set_cons_succ, i64_w, i32_w]
         rfl
        exact norm_ (by first | (simp only [putAll, Act.put, List.setIfInBounds_toArray, List.set_cons_zero, List.set_cons_succ]; done) | (simp only [putAll, Act.put, List.setIfInBounds_toArray, List.set_cons_zero, List.set_cons_succ]; rfl)) (hJ1_3_9_10 (gb184, gb185) _ ⟨hHeld, BK150.out, BK151.out, BK167.out, BK168.out, BK184.out, BK185.out, GW184.out, GE184.out, NB150_184.out, NB184_150.out, NB151_184.out, NB184_151.out, NB167_184.out, NB184_167.out, NB168_184.out, NB184_168.out, NB185_184.out, NB184_185.out, GW185.out, GE185.out, NB150_185.out, NB185_150.out, NB151_185.out, NB185_151.out, NB167_185.out, NB185_167.out, NB168_185.out, NB185_168.out, HB.out⟩)
     ·
      skip
      rintro _ w30 ⟨hS_, h0_, h1_, h2_, h3_, h4_⟩
      clear BK150 BK151 BK167 BK168 HB
      have BK150 := Aside0.mk h0_
      have BK151 := Aside0.mk h1_
      have BK167 := Aside0.mk h2_
      have BK168 := Aside0.mk h3_
      have HB := Aside0.mk h4_
      clear h0_ h1_ h2_ h3_ h4_
      have hHeld := hS_
      refine norm_ (a' := ?_) ?_ ?_
      rotate_left
      ·
       simp only [putAll, Act.put, List.setIfInBounds_toArray, List.set_cons_zero, List.set_cons_succ]
       rfl
      refine two_ (i := 9) (j := 10) (Ni := some 8) (Nj := some 9) #[true, true, true, true, true, true, true, true, true, true, false, false, false, false] #[true, true, true, true, true, true, true, true, true, false, true, false, false, false] rfl rfl rfl rfl (two_of HT_.out (by kernel_rfl)) (by decide) (by decide) (fun K hK => ?_) (fun K hK => ?_)
      ·
       skip
       refine box_step ?hg (N := 8) ?hd (cs := #[.int .i64 0, .int .i64 0, .int .i64 0]) (t := 24) ?hr ?_; (case hd => rfl); (case hg => rfl); (case hr => first | (go_simp; done) | (go_simp; rfl))
       intro gb184 hg w31 hbox hb
       have BK184 := Aside0.mk (hbox)
       have GW184 := Aside0.mk (laws_FnExactCourseOf.sh_le hg HB.out)
       have GE184 := Aside0.mk (laws_FnExactCourseOf.sh_le hg HB.out)
       have NB150_184 := Aside0.mk (laws_FnExactCourseOf.sh_lt hg BK150.out)
       have NB184_150 := Aside0.mk (laws_FnExactCourseOf.sh_gt hg BK150.out)
       have NB151_184 := Aside0.mk (laws_FnExactCourseOf.sh_lt hg BK151.out)
       have NB184_151 := Aside0.mk (laws_FnExactCourseOf.sh_gt hg BK151.out)
       have NB167_184 := Aside0.mk (laws_FnExactCourseOf.sh_lt hg BK167.out)
       have NB184_167 := Aside0.mk (laws_FnExactCourseOf.sh_gt hg BK167.out)
       have NB168_184 := Aside0.mk (laws_FnExactCourseOf.sh_lt hg BK168.out)
       have NB184_168 := Aside0.mk (laws_FnExactCourseOf.sh_gt hg BK168.out)
       replace BK150 := Aside0.mk (blk_below BK150.out hb)
       replace BK151 := Aside0.mk (blk_below BK151.out hb)
       replace BK167 := Aside0.mk (blk_below BK167.out hb)
       replace BK168 := Aside0.mk (blk_below BK168.out hb)
       replace HB := Aside0.mk (below_step HB.out hb)
       clear hb hbox hg
       refine hK.out _ _ ⟨(blk_cell BK150.out 0).trans rfl, (blk_cell BK150.out 1).trans rfl, (blk_cell BK150.out 2).trans rfl, (blk_cell BK150.out 3).trans rfl, (blk_cell BK151.out 0).trans rfl, (blk_cell BK151.out 1).trans rfl, (blk_cell BK151.out 2).trans rfl, (blk_cell BK151.out 3).trans rfl⟩ (fun hHeld => ?_)
       clear hK K
       refine norm_ (a' := ?_) ?_ ?_
       rotate_left
       ·
        show Act.put _ (some 8) _ = _
        simp only [Act.put, List.setIfInBounds_toArray, List.set_cons_zero, List.set_cons_succ, i64_w, i32_w]
        rfl
       exact norm_ (by first | (simp only [putAll, Act.put, List.setIfInBounds_toArray, List.set_cons_zero, List.set_cons_succ]; done) | (simp only [putAll, Act.put, List.setIfInBounds_toArray, List.set_cons_zero, List.set_cons_succ]; rfl)) (hJ1_3_4_9 (gb184) _ ⟨hHeld, BK150.out, BK151.out, BK167.out, BK168.out, BK184.out, GW184.out, GE184.out, NB150_184.out, NB184_150.out, NB151_184.out, NB184_151.out, NB167_184.out, NB184_167.out, NB168_184.out, NB184_168.out, HB.out⟩)
      ·
       skip
       refine box_step ?hg (N := 9) ?hd (cs := #[.int .i64 0, .int .i64 0, .int .i64 0]) (t := 24) ?hr ?_; (case hd => rfl); (case hg => rfl); (case hr => first | (go_simp; done) | (go_simp; rfl))
       intro gb185 hg w31 hbox hb
       have BK185 := Aside0.mk (hbox)
       have GW185 := Aside0.mk (laws_FnExactCourseOf.sh_le hg HB.out)
       have GE185 := Aside0.mk (laws_FnExactCourseOf.sh_le hg HB.out)
       have NB150_185 := Aside0.mk (laws_FnExactCourseOf.sh_lt hg BK150.out)
       have NB185_150 := Aside0.mk (laws_FnExactCourseOf.sh_gt hg BK150.out)
       have NB151_185 := Aside0.mk (laws_FnExactCourseOf.sh_lt hg BK151.out)
       have NB185_151 := Aside0.mk (laws_FnExactCourseOf.sh_gt hg BK151.out)
       have NB167_185 := Aside0.mk (laws_FnExactCourseOf.sh_lt hg BK167.out)
       have NB185_167 := Aside0.mk (laws_FnExactCourseOf.sh_gt hg BK167.out)
       have NB168_185 := Aside0.mk (laws_FnExactCourseOf.sh_lt hg BK168.out)
       have NB185_168 := Aside0.mk (laws_FnExactCourseOf.sh_gt hg BK168.out)
       replace BK150 := Aside0.mk (blk_below BK150.out hb)
       replace BK151 := Aside0.mk (blk_below BK151.out hb)
       replace BK167 := Aside0.mk (blk_below BK167.out hb)
       replace BK168 := Aside0.mk (blk_below BK168.out hb)
       replace HB := Aside0.mk (below_step HB.out hb)
       clear hb hbox hg
       refine hK.out _ _ ⟨(blk_cell BK150.out 0).trans rfl, (blk_cell BK150.out 1).trans rfl, (blk_cell BK150.out 2).trans rfl, (blk_cell BK150.out 3).trans rfl, (blk_cell BK151.out 0).trans rfl, (blk_cell BK151.out 1).trans rfl, (blk_cell BK151.out 2).trans rfl, (blk_cell BK151.out 3).trans rfl⟩ (fun hHeld => ?_)
       clear hK K
       refine norm_ (a' := ?_) ?_ ?_
       rotate_left
       ·
        show Act.put _ (some 9) _ = _
        simp only [Act.put, List.setIfInBounds_toArray, List.set_cons_zero, List.set_cons_succ, i64_w, i32_w]
        rfl
       exact norm_ (by first | (simp only [putAll, Act.put, List.setIfInBounds_toArray, List.set_cons_zero, List.set_cons_succ]; done) | (simp only [putAll, Act.put, List.setIfInBounds_toArray, List.set_cons_zero, List.set_cons_succ]; rfl)) (hJ1_3_4_10 (gb185) _ ⟨hHeld, BK150.out, BK151.out, BK167.out, BK168.out, BK185.out, GW185.out, GE185.out, NB150_185.out, NB185_150.out, NB151_185.out, NB185_151.out, NB167_185.out, NB185_167.out, NB168_185.out, NB185_168.out, HB.out⟩)
    ·
     skip
     rintro ⟨gb184, gb185⟩ w31 ⟨hS_, h0_, h1_, h2_, h3_, h4_, h5_, h6_, h7_, h8_, h9_, h10_, h11_, h12_, h13_, h14_, h15_, h16_, h17_, h18_, h19_, h20_, h21_, h22_, h23_, h24_, h25_, h26_, h27_, h28_⟩
     clear BK150 BK151 BK167 BK168 HB
     have BK184 := Aside0.mk h4_
     have BK185 := Aside0.mk h5_
     have GW184 := Aside0.mk h6_
     have GE184 := Aside0.mk h7_
     have NB150_184 := Aside0.mk h8_
     have NB184_150 := Aside0.mk h9_
     have NB151_184 := Aside0.mk h10_
     have NB184_151 := Aside0.mk h11_
     have NB167_184 := Aside0.mk h12_
     have NB184_167 := Aside0.mk h13_
     have NB168_184 := Aside0.mk h14_
     have NB184_168 := Aside0.mk h15_
     have NB185_184 := Aside0.mk h16_
     have NB184_185 := Aside0.mk h17_
     have GW185 := Aside0.mk h18_
     have GE185 := Aside0.mk h19_
     have NB150_185 := Aside0.mk h20_
     have NB185_150 := Aside0.mk h21_
     have NB151_185 := Aside0.mk h22_
     have NB185_151 := Aside0.mk h23_
     have NB167_185 := Aside0.mk h24_
     have NB185_167 := Aside0.mk h25_
     have NB168_185 := Aside0.mk h26_
     have NB185_168 := Aside0.mk h27_
     have BK150 := Aside0.mk h0_
     have BK151 := Aside0.mk h1_
     have BK167 := Aside0.mk h2_
     have BK168 := Aside0.mk h3_
     have HB := Aside0.mk h28_
     clear h0_ h1_ h2_ h3_ h4_ h5_ h6_ h7_ h8_ h9_ h10_ h11_ h12_ h13_ h14_ h15_ h16_ h17_ h18_ h19_ h20_ h21_ h22_ h23_ h24_ h25_ h26_ h27_ h28_
     have hHeld := hS_
     refine norm_ (a' := ?_) ?_ ?_
     rotate_left
     ·
      simp only [putAll, Act.put, List.setIfInBounds_toArray, List.set_cons_zero, List.set_cons_succ]
      rfl
     refine one_ (i := 4) (N := some 25) #[true, true, true, true, true, false, false, false, false, true, true, false, false, false] rfl rfl (one_of HT_.out (by kernel_rfl)) (by decide) (fun K hK => ?_)
     refine goes_ Try.func19 (by kernel_rfl) rfl #[.agg #[.int .i64 t169, .int .i64 t170, .int .i64 t171, .int .i64 t172], .agg #[.int .i64 t173, .int .i64 t174, .int .i64 t175, .int .i64 t176]] (by rfl) rfl rfl (by (try simp only [List.map_toArray, List.map_cons, List.map_nil]); first | done | rfl | (simp only [List.length_drop, List.length_take]; rfl)) ?_
     with_reducible refine (impl_CourseOf.calls k t169 t170 t171 t172 t173 t174 t175 t176 t177 t178 t179 t180 t181 t182 t183 _ A8.out).mono ?_
     rintro e w32 ⟨rfl, hb⟩
     refine ⟨_, rfl, ?_⟩
     replace BK150 := Aside0.mk (blk_below BK150.out hb)
     replace BK151 := Aside0.mk (blk_below BK151.out hb)
     replace BK167 := Aside0.mk (blk_below BK167.out hb)
     replace BK168 := Aside0.mk (blk_below BK168.out hb)
     replace BK184 := Aside0.mk (blk_below BK184.out hb)
     replace BK185 := Aside0.mk (blk_below BK185.out hb)
     replace HB := Aside0.mk (below_step HB.out hb)
     (try clear hb)
     (try clear hb2)
     (try clear hk)
     (try clear hi)
     refine hK.out _ _ ⟨(blk_cell BK150.out 0).trans rfl, (blk_cell BK150.out 1).trans rfl, (blk_cell BK150.out 2).trans rfl, (blk_cell BK150.out 3).trans rfl, (blk_cell BK151.out 0).trans rfl, (blk_cell BK151.out 1).trans rfl, (blk_cell BK151.out 2).trans rfl, (blk_cell BK151.out 3).trans rfl⟩ (fun hHeld => ?_)
     clear hK K
     refine norm_ (a' := ?_) ?_ ?_
     rotate_left
     ·
      show Act.put _ (some 25) _ = _
      simp only [Act.put, List.setIfInBounds_toArray, List.set_cons_zero, List.set_cons_succ, i64_w, i32_w]
      rfl
     refine pure_ (i := 5) (N := some 20) (v := ?_) (a' := ?_) #[true, true, true, true, true, true, false, false, false, true, true, false, false, false] rfl rfl (any_of HT_.out (by kernel_rfl)) (fun _ _ _ h => h) (Or.inl ⟨by rfl, ?_⟩) ?_ ?_
     rotate_left
     ·
      intro w'
      go_simp
      with_reducible rfl
     rotate_left
     ·
      simp only [Act.put, List.setIfInBounds_toArray, List.set_cons_zero, List.set_cons_succ, i64_w, i32_w]
      rfl
     refine pure_ (i := 6) (N := some 26) (v := ?_) (a' := ?_) #[true, true, true, true, true, true, true, false, false, true, true, false, false, false] rfl rfl (any_of HT_.out (by kernel_rfl)) (fun _ _ _ h => h) (Or.inl ⟨by rfl, ?_⟩) ?_ ?_
     rotate_left
     ·
      intro w'
      go_simp
      with_reducible rfl
     rotate_left
     ·
      simp only [Act.put, List.setIfInBounds_toArray, List.set_cons_zero, List.set_cons_succ, i64_w, i32_w]
      rfl
     refine pure_ (i := 7) (N := some 27) (v := ?_) (a' := ?_) #[true, true, true, true, true, true, true, true, false, true, true, false, false, false] rfl rfl (any_of HT_.out (by kernel_rfl)) (fun _ _ _ h => h) (Or.inl ⟨by rfl, ?_⟩) ?_ ?_
     rotate_left
     ·
      intro w'
      go_simp
      with_reducible rfl
     rotate_left
     ·
      simp only [Act.put, List.setIfInBounds_toArray, List.set_cons_zero, List.set_cons_succ, i64_w, i32_w]
      rfl
     refine pure_ (i := 8) (N := some 28) (v := ?_) (a' := ?_) #[true, true, true, true, true, true, true, true, true, true, true, false, false, false] rfl rfl (any_of HT_.out (by kernel_rfl)) (fun _ _ _ h => h) (Or.inl ⟨by rfl, ?_⟩) ?_ ?_
     rotate_left
     ·
      intro w'
      go_simp
      with_reducible rfl
     rotate_left
     ·
      simp only [Act.put, List.setIfInBounds_toArray, List.set_cons_zero, List.set_cons_succ, i64_w, i32_w]
      rfl
     exact norm_ (by first | (simp only [putAll, Act.put, List.setIfInBounds_toArray, List.set_cons_zero, List.set_cons_succ]; done) | (simp only [putAll, Act.put, List.setIfInBounds_toArray, List.set_cons_zero, List.set_cons_succ]; rfl)) (hJ1_3_4_9_10 (gb184, gb185) _ ⟨hHeld, BK150.out, BK151.out, BK167.out, BK168.out, BK184.out, BK185.out, GW184.out, GE184.out, NB150_184.out, NB184_150.out, NB151_184.out, NB184_151.out, NB167_184.out, NB184_167.out, NB168_184.out, NB184_168.out, NB185_184.out, NB184_185.out, GW185.out, GE185.out, NB150_185.out, NB185_150.out, NB151_185.out, NB185_151.out, NB167_185.out, NB185_167.out, NB168_185.out, NB185_168.out, HB.out⟩)
   ·
    skip
    rintro gb185 w31 ⟨hS_, h0_, h1_, h2_, h3_, h4_, h5_, h6_, h7_, h8_, h9_, h10_, h11_, h12_, h13_, h14_, h15_⟩
    clear BK150 BK151 BK167 BK168 HB
    have BK185 := Aside0.mk h4_
    have GW185 := Aside0.mk h5_
    have GE185 := Aside0.mk h6_
    have NB150_185 := Aside0.mk h7_
    have NB185_150 := Aside0.mk h8_
    have NB151_185 := Aside0.mk h9_
    have NB185_151 := Aside0.mk h10_
    have NB167_185 := Aside0.mk h11_
    have NB185_167 := Aside0.mk h12_
    have NB168_185 := Aside0.mk h13_
    have NB185_168 := Aside0.mk h14_
    have BK150 := Aside0.mk h0_
    have BK151 := Aside0.mk h1_
    have BK167 := Aside0.mk h2_
    have BK168 := Aside0.mk h3_
    have HB := Aside0.mk h15_
    clear h0_ h1_ h2_ h3_ h4_ h5_ h6_ h7_ h8_ h9_ h10_ h11_ h12_ h13_ h14_ h15_
    have hHeld := hS_
    refine norm_ (a' := ?_) ?_ ?_
    rotate_left
    ·
     simp only [putAll, Act.put, List.setIfInBounds_toArray, List.set_cons_zero, List.set_cons_succ]
     rfl
    refine one_ (i := 9) (N := some 8) #[true, true, true, true, true, true, true, true, true, true, true, false, false, false] rfl rfl (one_of HT_.out (by kernel_rfl)) (by decide) (fun K hK => ?_)
    refine box_step ?hg (N := 8) ?hd (cs := #[.int .i64 0, .int .i64 0, .int .i64 0]) (t := 24) ?hr ?_; (case hd => rfl); (case hg => rfl); (case hr => first | (go_simp; done) | (go_simp; rfl))
    intro gb184 hg w32 hbox hb
    have BK184 := Aside0.mk (hbox)
    have GW184 := Aside0.mk (laws_FnExactCourseOf.sh_le hg HB.out)
    have GE184 := Aside0.mk (laws_FnExactCourseOf.sh_le hg HB.out)
    have NB150_184 := Aside0.mk (laws_FnExactCourseOf.sh_lt hg BK150.out)
    have NB184_150 := Aside0.mk (laws_FnExactCourseOf.sh_gt hg BK150.out)
    have NB151_184 := Aside0.mk (laws_FnExactCourseOf.sh_lt hg BK151.out)
    have NB184_151 := Aside0.mk (laws_FnExactCourseOf.sh_gt hg BK151.out)
    have NB167_184 := Aside0.mk (laws_FnExactCourseOf.sh_lt hg BK167.out)
    have NB184_167 := Aside0.mk (laws_FnExactCourseOf.sh_gt hg BK167.out)
    have NB168_184 := Aside0.mk (laws_FnExactCourseOf.sh_lt hg BK168.out)
    have NB184_168 := Aside0.mk (laws_FnExactCourseOf.sh_gt hg BK168.out)
    have NB185_184 := Aside0.mk (laws_FnExactCourseOf.sh_lt hg BK185.out)
    have NB184_185 := Aside0.mk (laws_FnExactCourseOf.sh_gt hg BK185.out)
    replace BK150 := Aside0.mk (blk_below BK150.out hb)
    replace BK151 := Aside0.mk (blk_below BK151.out hb)
    replace BK167 := Aside0.mk (blk_below BK167.out hb)
    replace BK168 := Aside0.mk (blk_below BK168.out hb)
    replace BK185 := Aside0.mk (blk_below BK185.out hb)
    replace HB := Aside0.mk (below_step HB.out hb)
    clear hb hbox hg
    refine hK.out _ _ ⟨(blk_cell BK150.out 0).trans rfl, (blk_cell BK150.out 1).trans rfl, (blk_cell BK150.out 2).trans rfl, (blk_cell BK150.out 3).trans rfl, (blk_cell BK151.out 0).trans rfl, (blk_cell BK151.out 1).trans rfl, (blk_cell BK151.out 2).trans rfl, (blk_cell BK151.out 3).trans rfl⟩ (fun hHeld => ?_)
    clear hK K
    refine norm_ (a' := ?_) ?_ ?_
    rotate_left
    ·
     show Act.put _ (some 8) _ = _
     simp only [Act.put, List.setIfInBounds_toArray, List.set_cons_zero, List.set_cons_succ, i64_w, i32_w]
     rfl
    exact norm_ (by first | (simp only [putAll, Act.put, List.setIfInBounds_toArray, List.set_cons_zero, List.set_cons_succ]; done) | (simp only [putAll, Act.put, List.setIfInBounds_toArray, List.set_cons_zero, List.set_cons_succ]; rfl)) (hJ1_3_4_9_10 (gb184, gb185) _ ⟨hHeld, BK150.out, BK151.out, BK167.out, BK168.out, BK184.out, BK185.out, GW184.out, GE184.out, NB150_184.out, NB184_150.out, NB151_184.out, NB184_151.out, NB167_184.out, NB184_167.out, NB168_184.out, NB184_168.out, NB185_184.out, NB184_185.out, GW185.out, GE185.out, NB150_185.out, NB185_150.out, NB151_185.out, NB185_151.out, NB167_185.out, NB185_167.out, NB168_185.out, NB185_168.out, HB.out⟩)
  ·
   skip
   rintro gb184 w31 ⟨hS_, h0_, h1_, h2_, h3_, h4_, h5_, h6_, h7_, h8_, h9_, h10_, h11_, h12_, h13_, h14_, h15_⟩
   clear BK150 BK151 BK167 BK168 HB
   have BK184 := Aside0.mk h4_
   have GW184 := Aside0.mk h5_
   have GE184 := Aside0.mk h6_
   have NB150_184 := Aside0.mk h7_
   have NB184_150 := Aside0.mk h8_
   have NB151_184 := Aside0.mk h9_
   have NB184_151 := Aside0.mk h10_
   have NB167_184 := Aside0.mk h11_
   have NB184_167 := Aside0.mk h12_
   have NB168_184 := Aside0.mk h13_
   have NB184_168 := Aside0.mk h14_
   have BK150 := Aside0.mk h0_
   have BK151 := Aside0.mk h1_
   have BK167 := Aside0.mk h2_
   have BK168 := Aside0.mk h3_
   have HB := Aside0.mk h15_
   clear h0_ h1_ h2_ h3_ h4_ h5_ h6_ h7_ h8_ h9_ h10_ h11_ h12_ h13_ h14_ h15_
   have hHeld := hS_
   refine norm_ (a' := ?_) ?_ ?_
   rotate_left
   ·
    simp only [putAll, Act.put, List.setIfInBounds_toArray, List.set_cons_zero, List.set_cons_succ]
    rfl
   refine one_ (i := 10) (N := some 9) #[true, true, true, true, true, true, true, true, true, true, true, false, false, false] rfl rfl (one_of HT_.out (by kernel_rfl)) (by decide) (fun K hK => ?_)
   refine box_step ?hg (N := 9) ?hd (cs := #[.int .i64 0, .int .i64 0, .int .i64 0]) (t := 24) ?hr ?_; (case hd => rfl); (case hg => rfl); (case hr => first | (go_simp; done) | (go_simp; rfl))
   intro gb185 hg w32 hbox hb
   have BK185 := Aside0.mk (hbox)
   have GW185 := Aside0.mk (laws_FnExactCourseOf.sh_le hg HB.out)
   have GE185 := Aside0.mk (laws_FnExactCourseOf.sh_le hg HB.out)
   have NB150_185 := Aside0.mk (laws_FnExactCourseOf.sh_lt hg BK150.out)
   have NB185_150 := Aside0.mk (laws_FnExactCourseOf.sh_gt hg BK150.out)
   have NB151_185 := Aside0.mk (laws_FnExactCourseOf.sh_lt hg BK151.out)
   have NB185_151 := Aside0.mk (laws_FnExactCourseOf.sh_gt hg BK151.out)
   have NB167_185 := Aside0.mk (laws_FnExactCourseOf.sh_lt hg BK167.out)
   have NB185_167 := Aside0.mk (laws_FnExactCourseOf.sh_gt hg BK167.out)
   have NB168_185 := Aside0.mk (laws_FnExactCourseOf.sh_lt hg BK168.out)
   have NB185_168 := Aside0.mk (laws_FnExactCourseOf.sh_gt hg BK168.out)
   have NB184_185 := Aside0.mk (laws_FnExactCourseOf.sh_lt hg BK184.out)
   have NB185_184 := Aside0.mk (laws_FnExactCourseOf.sh_gt hg BK184.out)
   replace BK150 := Aside0.mk (blk_below BK150.out hb)
   replace BK151 := Aside0.mk (blk_below BK151.out hb)
   replace BK167 := Aside0.mk (blk_below BK167.out hb)
   replace BK168 := Aside0.mk (blk_below BK168.out hb)
   replace BK184 := Aside0.mk (blk_below BK184.out hb)
   replace HB := Aside0.mk (below_step HB.out hb)
   clear hb hbox hg
   refine hK.out _ _ ⟨(blk_cell BK150.out 0).trans rfl, (blk_cell BK150.out 1).trans rfl, (blk_cell BK150.out 2).trans rfl, (blk_cell BK150.out 3).trans rfl, (blk_cell BK151.out 0).trans rfl, (blk_cell BK151.out 1).trans rfl, (blk_cell BK151.out 2).trans rfl, (blk_cell BK151.out 3).trans rfl⟩ (fun hHeld => ?_)
   clear hK K
   refine norm_ (a' := ?_) ?_ ?_
   rotate_left
   ·
    show Act.put _ (some 9) _ = _
    simp only [Act.put, List.setIfInBounds_toArray, List.set_cons_zero, List.set_cons_succ, i64_w, i32_w]
    rfl
   exact norm_ (by first | (simp only [putAll, Act.put, List.setIfInBounds_toArray, List.set_cons_zero, List.set_cons_succ]; done) | (simp only [putAll, Act.put, List.setIfInBounds_toArray, List.set_cons_zero, List.set_cons_succ]; rfl)) (hJ1_3_4_9_10 (gb184, gb185) _ ⟨hHeld, BK150.out, BK151.out, BK167.out, BK168.out, BK184.out, BK185.out, GW184.out, GE184.out, NB150_184.out, NB184_150.out, NB151_184.out, NB184_151.out, NB167_184.out, NB184_167.out, NB168_184.out, NB184_168.out, NB185_184.out, NB184_185.out, GW185.out, GE185.out, NB150_185.out, NB185_150.out, NB151_185.out, NB185_151.out, NB167_185.out, NB185_167.out, NB168_185.out, NB185_168.out, HB.out⟩)
 rintro ⟨gb184, gb185⟩ w32 ⟨hS_, h0_, h1_, h2_, h3_, h4_, h5_, h6_, h7_, h8_, h9_, h10_, h11_, h12_, h13_, h14_, h15_, h16_, h17_, h18_, h19_, h20_, h21_, h22_, h23_, h24_, h25_, h26_, h27_, h28_⟩
 clear BK150 BK151 BK167 BK168 HB
 have BK184 := Aside0.mk h4_
 have BK185 := Aside0.mk h5_
 have GW184 := Aside0.mk h6_
 have GE184 := Aside0.mk h7_
 have NB150_184 := Aside0.mk h8_
 have NB184_150 := Aside0.mk h9_
 have NB151_184 := Aside0.mk h10_
 have NB184_151 := Aside0.mk h11_
 have NB167_184 := Aside0.mk h12_
 have NB184_167 := Aside0.mk h13_
 have NB168_184 := Aside0.mk h14_
 have NB184_168 := Aside0.mk h15_
 have NB185_184 := Aside0.mk h16_
 have NB184_185 := Aside0.mk h17_
 have GW185 := Aside0.mk h18_
 have GE185 := Aside0.mk h19_
 have NB150_185 := Aside0.mk h20_
 have NB185_150 := Aside0.mk h21_
 have NB151_185 := Aside0.mk h22_
 have NB185_151 := Aside0.mk h23_
 have NB167_185 := Aside0.mk h24_
 have NB185_167 := Aside0.mk h25_
 have NB168_185 := Aside0.mk h26_
 have NB185_168 := Aside0.mk h27_
 have BK150 := Aside0.mk h0_
 have BK151 := Aside0.mk h1_
 have BK167 := Aside0.mk h2_
 have BK168 := Aside0.mk h3_
 have HB := Aside0.mk h28_
 clear h0_ h1_ h2_ h3_ h4_ h5_ h6_ h7_ h8_ h9_ h10_ h11_ h12_ h13_ h14_ h15_ h16_ h17_ h18_ h19_ h20_ h21_ h22_ h23_ h24_ h25_ h26_ h27_ h28_
 have hHeld := hS_
 refine norm_ (a' := ?_) ?_ ?_
 rotate_left
 ·
  simp only [putAll, Act.put, List.setIfInBounds_toArray, List.set_cons_zero, List.set_cons_succ]
  rfl
 refine one_ (i := 11) (N := none) #[true, true, true, true, true, true, true, true, true, true, true, true, false, false] rfl rfl (one_of HT_.out (by kernel_rfl)) (by decide) (fun K hK => ?_)
 have hs33 : w32.cell? ⟨gb184, 0, none⟩ = some (.int .i64 0) := (blk_cell BK184.out 0).trans rfl
 have hfs33 := blk_frozen BK184.out 0
 have hns33_0 := NB150_184.out
 have hns33_1 := NB151_184.out
 have hns33_2 := NB167_184.out
 have hns33_3 := NB168_184.out
 have hns33_5 := NB185_184.out
 have hms33_0 := NB184_150.out
 have hms33_1 := NB184_151.out
 have hms33_2 := NB184_167.out
 have hms33_3 := NB184_168.out
 have hms33_5 := NB184_185.out
 have hs34 : w32.cell? ⟨gb184, 1, none⟩ = some (.int .i64 0) := (blk_cell BK184.out 1).trans rfl
 have hfs34 := blk_frozen BK184.out 1
 have hns34_0 := NB150_184.out
 have hns34_1 := NB151_184.out
 have hns34_2 := NB167_184.out
 have hns34_3 := NB168_184.out
 have hns34_5 := NB185_184.out
 have hms34_0 := NB184_150.out
 have hms34_1 := NB184_151.out
 have hms34_2 := NB184_167.out
 have hms34_3 := NB184_168.out
 have hms34_5 := NB184_185.out
 have hs35 : w32.cell? ⟨gb184, 2, none⟩ = some (.int .i64 0) := (blk_cell BK184.out 2).trans rfl
 have hfs35 := blk_frozen BK184.out 2
 have hns35_0 := NB150_184.out
 have hns35_1 := NB151_184.out
 have hns35_2 := NB167_184.out
 have hns35_3 := NB168_184.out
 have hns35_5 := NB185_184.out
 have hms35_0 := NB184_150.out
 have hms35_1 := NB184_151.out
 have hms35_2 := NB184_167.out
 have hms35_3 := NB184_168.out
 have hms35_5 := NB184_185.out
 refine skip_ (w1 := ?_) (by rfl) rfl ?_ ?_
 rotate_left
 ·
  go_simp
  rfl
 refine hK.out _ _ ⟨((cell_far (p := ⟨gb184, _, none⟩) NB150_184.out _).trans (((cell_far (p := ⟨gb184, _, none⟩) NB150_184.out _).trans (((cell_far (p := ⟨gb184, _, none⟩) NB150_184.out _).trans (hHeld.1)))))), ((cell_far (p := ⟨gb184, _, none⟩) NB150_184.out _).trans (((cell_far (p := ⟨gb184, _, none⟩) NB150_184.out _).trans (((cell_far (p := ⟨gb184, _, none⟩) NB150_184.out _).trans (hHeld.2.1)))))), ((cell_far (p := ⟨gb184, _, none⟩) NB150_184.out _).trans (((cell_far (p := ⟨gb184, _, none⟩) NB150_184.out _).trans (((cell_far (p := ⟨gb184, _, none⟩) NB150_184.out _).trans (hHeld.2.2.1)))))), ((cell_far (p := ⟨gb184, _, none⟩) NB150_184.out _).trans (((cell_far (p := ⟨gb184, _, none⟩) NB150_184.out _).trans (((cell_far (p := ⟨gb184, _, none⟩) NB150_184.out _).trans (hHeld.2.2.2.1)))))), ((cell_far (p := ⟨gb184, _, none⟩) NB151_184.out _).trans (((cell_far (p := ⟨gb184, _, none⟩) NB151_184.out _).trans (((cell_far (p := ⟨gb184, _, none⟩) NB151_184.out _).trans (hHeld.2.2.2.2.1)))))), ((cell_far (p := ⟨gb184, _, none⟩) NB151_184.out _).trans (((cell_far (p := ⟨gb184, _, none⟩) NB151_184.out _).trans (((cell_far (p := ⟨gb184, _, none⟩) NB151_184.out _).trans (hHeld.2.2.2.2.2.1)))))), ((cell_far (p := ⟨gb184, _, none⟩) NB151_184.out _).trans (((cell_far (p := ⟨gb184, _, none⟩) NB151_184.out _).trans (((cell_far (p := ⟨gb184, _, none⟩) NB151_184.out _).trans (hHeld.2.2.2.2.2.2.1)))))), ((cell_far (p := ⟨gb184, _, none⟩) NB151_184.out _).trans (((cell_far (p := ⟨gb184, _, none⟩) NB151_184.out _).trans (((cell_far (p := ⟨gb184, _, none⟩) NB151_184.out _).trans (hHeld.2.2.2.2.2.2.2))))))⟩ (fun hHeld => ?_)
 clear hK K
 refine one_ (i := 12) (N := none) #[true, true, true, true, true, true, true, true, true, true, true, true, true, false] rfl rfl (one_of HT_.out (by kernel_rfl)) (by decide) (fun K hK => ?_)
 have hs36 : w32.cell? ⟨gb185, 0, none⟩ = some (.int .i64 0) := (blk_cell BK185.out 0).trans rfl
 have hfs36 := blk_frozen BK185.out 0
 have hns36_0 := NB150_185.out
 have hns36_1 := NB151_185.out
 have hns36_2 := NB167_185.out
 have hns36_3 := NB168_185.out
 have hns36_4 := NB184_185.out
 have hms36_0 := NB185_150.out
 have hms36_1 := NB185_151.out
 have hms36_2 := NB185_167.out
 have hms36_3 := NB185_168.out
 have hms36_4 := NB185_184.out
 have hs37 : w32.cell? ⟨gb185, 1, none⟩ = some (.int .i64 0) := (blk_cell BK185.out 1).trans rfl
 have hfs37 := blk_frozen BK185.out 1
 have hns37_0 := NB150_185.out
 have hns37_1 := NB151_185.out
 have hns37_2 := NB167_185.out
 have hns37_3 := NB168_185.out
 have hns37_4 := NB184_185.out
 have hms37_0 := NB185_150.out
 have hms37_1 := NB185_151.out
 have hms37_2 := NB185_167.out
 have hms37_3 := NB185_168.out
 have hms37_4 := NB185_184.out
 have hs38 : w32.cell? ⟨gb185, 2, none⟩ = some (.int .i64 0) := (blk_cell BK185.out 2).trans rfl
 have hfs38 := blk_frozen BK185.out 2
 have hns38_0 := NB150_185.out
 have hns38_1 := NB151_185.out
 have hns38_2 := NB167_185.out
 have hns38_3 := NB168_185.out
 have hns38_4 := NB184_185.out
 have hms38_0 := NB185_150.out
 have hms38_1 := NB185_151.out
 have hms38_2 := NB185_167.out
 have hms38_3 := NB185_168.out
 have hms38_4 := NB185_184.out
 refine skip_ (w1 := ?_) (by rfl) rfl ?_ ?_
 rotate_left
 ·
  go_simp
  rfl
 refine hK.out _ _ ⟨((cell_far (p := ⟨gb185, _, none⟩) NB150_185.out _).trans (((cell_far (p := ⟨gb185, _, none⟩) NB150_185.out _).trans (((cell_far (p := ⟨gb185, _, none⟩) NB150_185.out _).trans (hHeld.1)))))), ((cell_far (p := ⟨gb185, _, none⟩) NB150_185.out _).trans (((cell_far (p := ⟨gb185, _, none⟩) NB150_185.out _).trans (((cell_far (p := ⟨gb185, _, none⟩) NB150_185.out _).trans (hHeld.2.1)))))), ((cell_far (p := ⟨gb185, _, none⟩) NB150_185.out _).trans (((cell_far (p := ⟨gb185, _, none⟩) NB150_185.out _).trans (((cell_far (p := ⟨gb185, _, none⟩) NB150_185.out _).trans (hHeld.2.2.1)))))), ((cell_far (p := ⟨gb185, _, none⟩) NB150_185.out _).trans (((cell_far (p := ⟨gb185, _, none⟩) NB150_185.out _).trans (((cell_far (p := ⟨gb185, _, none⟩) NB150_185.out _).trans (hHeld.2.2.2.1)))))), ((cell_far (p := ⟨gb185, _, none⟩) NB151_185.out _).trans (((cell_far (p := ⟨gb185, _, none⟩) NB151_185.out _).trans (((cell_far (p := ⟨gb185, _, none⟩) NB151_185.out _).trans (hHeld.2.2.2.2.1)))))), ((cell_far (p := ⟨gb185, _, none⟩) NB151_185.out _).trans (((cell_far (p := ⟨gb185, _, none⟩) NB151_185.out _).trans (((cell_far (p := ⟨gb185, _, none⟩) NB151_185.out _).trans (hHeld.2.2.2.2.2.1)))))), ((cell_far (p := ⟨gb185, _, none⟩) NB151_185.out _).trans (((cell_far (p := ⟨gb185, _, none⟩) NB151_185.out _).trans (((cell_far (p := ⟨gb185, _, none⟩) NB151_185.out _).trans (hHeld.2.2.2.2.2.2.1)))))), ((cell_far (p := ⟨gb185, _, none⟩) NB151_185.out _).trans (((cell_far (p := ⟨gb185, _, none⟩) NB151_185.out _).trans (((cell_far (p := ⟨gb185, _, none⟩) NB151_185.out _).trans (hHeld.2.2.2.2.2.2.2))))))⟩ (fun hHeld => ?_)
 clear hK K
 refine pure_ (i := 13) (N := some 10) (v := ?_) (a' := ?_) #[true, true, true, true, true, true, true, true, true, true, true, true, true, true] rfl rfl (any_of HT_.out (by kernel_rfl)) (fun _ _ _ h => h) (Or.inl ⟨by rfl, ?_⟩) ?_ ?_
 rotate_left
 ·
  intro w'
  go_simp
  with_reducible rfl
 rotate_left
 ·
  simp only [Act.put, List.setIfInBounds_toArray, List.set_cons_zero, List.set_cons_succ, i64_w, i32_w]
  rfl
 refine done_ (done_of HT_.out (by kernel_rfl)) ?_
 go_upto_region 3 with (fail)
 go_cut [43] (fun v43 wc => ∃ (kq : Nat) (x43_8 : Bool), v43 = .bool x43_8 ∧ Aside0 (laws_FnExactCourseOf.j0 kq x43_8 = some true) ∧ Aside0 (kq ≤ k) ∧ Aside0 (wc.heap[gb150]? = some (.cells #[.int .i64 a0_0, .int .i64 a0_1, .int .i64 a0_2, .int .i64 a0_3] 30 (0, 0))) ∧ Aside0 (wc.heap[gb151]? = some (.cells #[.int .i64 a1_0, .int .i64 a1_1, .int .i64 a1_2, .int .i64 a1_3] 30 (0, 0))) ∧ Aside0 (wc.heap[gb167]? = some (.cells #[.int .i64 t160, .int .i64 t161, .int .i64 t162] 24 (0, 0))) ∧ Aside0 (wc.heap[gb168]? = some (.cells #[.int .i64 t163, .int .i64 t164, .int .i64 t165] 24 (0, 0))) ∧ Aside0 (wc.heap[gb184]? = some (.cells #[.int .i64 t177, .int .i64 t178, .int .i64 t179] 24 (0, 0))) ∧ Aside0 (wc.heap[gb185]? = some (.cells #[.int .i64 t180, .int .i64 t181, .int .i64 t182] 24 (0, 0))) ∧ Aside0 (Below w.heap.size w wc))
 case first =>
  have H := HC9.out
  clear HC9
  replace H := Option.bind_eq_some_iff.mp H
  obtain ⟨t186, A390, H⟩ := H
  replace H : (if t186 = true then ((laws_eqCourse.f t180 t181 t182 t163 t164 t165).bind fun t187 => (if t187 = true then (laws_FnExactCourseOf.j0 k (t183 != t166)) else (laws_FnExactCourseOf.j0 k true))) else (laws_FnExactCourseOf.j0 k true)) = some true := H
  have A39 := Aside0.mk A390
  clear A390
  by_cases c40 : t186 = true
  ·
   subst c40
   have H1 : ((laws_eqCourse.f t180 t181 t182 t163 t164 t165).bind fun t187 => (if t187 = true then (laws_FnExactCourseOf.j0 k (t183 != t166)) else (laws_FnExactCourseOf.j0 k true))) = some true := by rw [if_pos rfl] at H; exact H
   clear H
   have H := H1
   clear H1
   replace H := Option.bind_eq_some_iff.mp H
   obtain ⟨t187, A410, H⟩ := H
   replace H : (if t187 = true then (laws_FnExactCourseOf.j0 k (t183 != t166)) else (laws_FnExactCourseOf.j0 k true)) = some true := H
   have A41 := Aside0.mk A410
   clear A410
   by_cases c42 : t187 = true
   ·
    subst c42
    have H1 : (laws_FnExactCourseOf.j0 k (t183 != t166)) = some true := by rw [if_pos rfl] at H; exact H
    clear H
    have H := H1
    clear H1
    have H' := Aside0.mk H
    clear H
    have hnb43 := NB184_150.out
    have hnc43 := NB150_184.out
    have hnb44 := NB184_151.out
    have hnc44 := NB151_184.out
    have hnb45 := NB184_167.out
    have hnc45 := NB167_184.out
    have hnb46 := NB184_168.out
    have hnc46 := NB168_184.out
    have hnb47 := NB184_185.out
    have hnc47 := NB185_184.out
    have hcz48_0 : w32.cell? ⟨gb184, 0, none⟩ = some (.int .i64 0) := (blk_cell BK184.out 0).trans rfl
    have hcz48_1 : w32.cell? ⟨gb184, 1, none⟩ = some (.int .i64 0) := (blk_cell BK184.out 1).trans rfl
    have hcz48_2 : w32.cell? ⟨gb184, 2, none⟩ = some (.int .i64 0) := (blk_cell BK184.out 2).trans rfl
    have hfz48_0 := blk_frozen BK184.out 0
    have hfz48_1 := blk_frozen BK184.out 1
    have hfz48_2 := blk_frozen BK184.out 2
    have hnb49 := NB167_150.out
    have hnc49 := NB150_167.out
    have hnb50 := NB167_151.out
    have hnc50 := NB151_167.out
    have hnb51 := NB167_168.out
    have hnc51 := NB168_167.out
    have hnb52 := NB167_185.out
    have hnc52 := NB185_167.out
    have hcz53_0 : w32.cell? ⟨gb167, 0, none⟩ = some (.int .i64 t160) := (blk_cell BK167.out 0).trans rfl
    have hcz53_1 : w32.cell? ⟨gb167, 1, none⟩ = some (.int .i64 t161) := (blk_cell BK167.out 1).trans rfl
    have hcz53_2 : w32.cell? ⟨gb167, 2, none⟩ = some (.int .i64 t162) := (blk_cell BK167.out 2).trans rfl
    have hfz53_0 := blk_frozen BK167.out 0
    have hfz53_1 := blk_frozen BK167.out 1
    have hfz53_2 := blk_frozen BK167.out 2
    go_wp2_with (first | ((with_reducible refine gate_callee (f := 16) rfl ?_); refine goesL_ (some 31) rfl rfl Try.func16 (by kernel_rfl) rfl #[.agg #[.int .i64 t177, .int .i64 t178, .int .i64 t179], .agg #[.int .i64 t160, .int .i64 t161, .int .i64 t162]] rfl (by (try simp only [List.map_toArray, List.map_cons, List.map_nil]); first | done | rfl | (simp only [List.length_drop, List.length_take]; rfl)) ?_; (with_reducible refine (laws_eqCourse.calls t177 t178 t179 t160 t161 t162 true _ A39.out).mono ?_); rintro e w54 ⟨rfl, hb⟩; refine ⟨_, rfl, ?_⟩; have n0_ := Aside0.mk (blk_below (g := gb150) (o := .cells #[.int .i64 a0_0, .int .i64 a0_1, .int .i64 a0_2, .int .i64 a0_3] 30 (0, 0)) (by (with_reducible repeat (first | refine blk_drewN ?_ _ | refine blk_drew ?_ | refine blk_alloc ?_ _)); refine blk_far ?_ NB150_185.out _; (with_reducible repeat (first | refine blk_drewN ?_ _ | refine blk_drew ?_ | refine blk_alloc ?_ _)); refine blk_far ?_ NB150_185.out _; (with_reducible repeat (first | refine blk_drewN ?_ _ | refine blk_drew ?_ | refine blk_alloc ?_ _)); refine blk_far ?_ NB150_185.out _; (with_reducible repeat (first | refine blk_drewN ?_ _ | refine blk_drew ?_ | refine blk_alloc ?_ _)); refine blk_far ?_ NB150_184.out _; (with_reducible repeat (first | refine blk_drewN ?_ _ | refine blk_drew ?_ | refine blk_alloc ?_ _)); refine blk_far ?_ NB150_184.out _; (with_reducible repeat (first | refine blk_drewN ?_ _ | refine blk_drew ?_ | refine blk_alloc ?_ _)); refine blk_far ?_ NB150_184.out _; (with_reducible repeat (first | refine blk_drewN ?_ _ | refine blk_drew ?_ | refine blk_alloc ?_ _)); exact BK150.out) hb); have n1_ := Aside0.mk (blk_below (g := gb151) (o := .cells #[.int .i64 a1_0, .int .i64 a1_1, .int .i64 a1_2, .int .i64 a1_3] 30 (0, 0)) (by (with_reducible repeat (first | refine blk_drewN ?_ _ | refine blk_drew ?_ | refine blk_alloc ?_ _)); refine blk_far ?_ NB151_185.out _; (with_reducible repeat (first | refine blk_drewN ?_ _ | refine blk_drew ?_ | refine blk_alloc ?_ _)); refine blk_far ?_ NB151_185.out _; (with_reducible repeat (first | refine blk_drewN ?_ _ | refine blk_drew ?_ | refine blk_alloc ?_ _)); refine blk_far ?_ NB151_185.out _; (with_reducible repeat (first | refine blk_drewN ?_ _ | refine blk_drew ?_ | refine blk_alloc ?_ _)); refine blk_far ?_ NB151_184.out _; (with_reducible repeat (first | refine blk_drewN ?_ _ | refine blk_drew ?_ | refine blk_alloc ?_ _)); refine blk_far ?_ NB151_184.out _; (with_reducible repeat (first | refine blk_drewN ?_ _ | refine blk_drew ?_ | refine blk_alloc ?_ _)); refine blk_far ?_ NB151_184.out _; (with_reducible repeat (first | refine blk_drewN ?_ _ | refine blk_drew ?_ | refine blk_alloc ?_ _)); exact BK151.out) hb); have n2_ := Aside0.mk (blk_below (g := gb167) (o := .cells #[.int .i64 t160, .int .i64 t161, .int .i64 t162] 24 (0, 0)) (by (with_reducible repeat (first | refine blk_drewN ?_ _ | refine blk_drew ?_ | refine blk_alloc ?_ _)); refine blk_far ?_ NB167_185.out _; (with_reducible repeat (first | refine blk_drewN ?_ _ | refine blk_drew ?_ | refine blk_alloc ?_ _)); refine blk_far ?_ NB167_185.out _; (with_reducible repeat (first | refine blk_drewN ?_ _ | refine blk_drew ?_ | refine blk_alloc ?_ _)); refine blk_far ?_ NB167_185.out _; (with_reducible repeat (first | refine blk_drewN ?_ _ | refine blk_drew ?_ | refine blk_alloc ?_ _)); refine blk_far ?_ NB167_184.out _; (with_reducible repeat (first | refine blk_drewN ?_ _ | refine blk_drew ?_ | refine blk_alloc ?_ _)); refine blk_far ?_ NB167_184.out _; (with_reducible repeat (first | refine blk_drewN ?_ _ | refine blk_drew ?_ | refine blk_alloc ?_ _)); refine blk_far ?_ NB167_184.out _; (with_reducible repeat (first | refine blk_drewN ?_ _ | refine blk_drew ?_ | refine blk_alloc ?_ _)); exact BK167.out) hb); have n3_ := Aside0.mk (blk_below (g := gb168) (o := .cells #[.int .i64 t163, .int .i64 t164, .int .i64 t165] 24 (0, 0)) (by (with_reducible repeat (first | refine blk_drewN ?_ _ | refine blk_drew ?_ | refine blk_alloc ?_ _)); refine blk_far ?_ NB168_185.out _; (with_reducible repeat (first | refine blk_drewN ?_ _ | refine blk_drew ?_ | refine blk_alloc ?_ _)); refine blk_far ?_ NB168_185.out _; (with_reducible repeat (first | refine blk_drewN ?_ _ | refine blk_drew ?_ | refine blk_alloc ?_ _)); refine blk_far ?_ NB168_185.out _; (with_reducible repeat (first | refine blk_drewN ?_ _ | refine blk_drew ?_ | refine blk_alloc ?_ _)); refine blk_far ?_ NB168_184.out _; (with_reducible repeat (first | refine blk_drewN ?_ _ | refine blk_drew ?_ | refine blk_alloc ?_ _)); refine blk_far ?_ NB168_184.out _; (with_reducible repeat (first | refine blk_drewN ?_ _ | refine blk_drew ?_ | refine blk_alloc ?_ _)); refine blk_far ?_ NB168_184.out _; (with_reducible repeat (first | refine blk_drewN ?_ _ | refine blk_drew ?_ | refine blk_alloc ?_ _)); exact BK168.out) hb); have n4_ := Aside0.mk (blk_below (g := gb184) (o := .cells #[.int .i64 t177, .int .i64 t178, .int .i64 t179] 24 (0, 0)) (by (with_reducible repeat (first | refine blk_drewN ?_ _ | refine blk_drew ?_ | refine blk_alloc ?_ _)); refine blk_far ?_ NB184_185.out _; (with_reducible repeat (first | refine blk_drewN ?_ _ | refine blk_drew ?_ | refine blk_alloc ?_ _)); refine blk_far ?_ NB184_185.out _; (with_reducible repeat (first | refine blk_drewN ?_ _ | refine blk_drew ?_ | refine blk_alloc ?_ _)); refine blk_far ?_ NB184_185.out _; (with_reducible repeat (first | refine blk_drewN ?_ _ | refine blk_drew ?_ | refine blk_alloc ?_ _)); refine blk_put (cs := #[.int .i64 t177, .int .i64 t178, .int .i64 0]) ?_ 2 _ rfl; (with_reducible repeat (first | refine blk_drewN ?_ _ | refine blk_drew ?_ | refine blk_alloc ?_ _)); refine blk_put (cs := #[.int .i64 t177, .int .i64 0, .int .i64 0]) ?_ 1 _ rfl; (with_reducible repeat (first | refine blk_drewN ?_ _ | refine blk_drew ?_ | refine blk_alloc ?_ _)); refine blk_put (cs := #[.int .i64 0, .int .i64 0, .int .i64 0]) ?_ 0 _ rfl; (with_reducible repeat (first | refine blk_drewN ?_ _ | refine blk_drew ?_ | refine blk_alloc ?_ _)); exact BK184.out) hb); have n5_ := Aside0.mk (blk_below (g := gb185) (o := .cells #[.int .i64 t180, .int .i64 t181, .int .i64 t182] 24 (0, 0)) (by (with_reducible repeat (first | refine blk_drewN ?_ _ | refine blk_drew ?_ | refine blk_alloc ?_ _)); refine blk_put (cs := #[.int .i64 t180, .int .i64 t181, .int .i64 0]) ?_ 2 _ rfl; (with_reducible repeat (first | refine blk_drewN ?_ _ | refine blk_drew ?_ | refine blk_alloc ?_ _)); refine blk_put (cs := #[.int .i64 t180, .int .i64 0, .int .i64 0]) ?_ 1 _ rfl; (with_reducible repeat (first | refine blk_drewN ?_ _ | refine blk_drew ?_ | refine blk_alloc ?_ _)); refine blk_put (cs := #[.int .i64 0, .int .i64 0, .int .i64 0]) ?_ 0 _ rfl; (with_reducible repeat (first | refine blk_drewN ?_ _ | refine blk_drew ?_ | refine blk_alloc ?_ _)); refine blk_far ?_ NB185_184.out _; (with_reducible repeat (first | refine blk_drewN ?_ _ | refine blk_drew ?_ | refine blk_alloc ?_ _)); refine blk_far ?_ NB185_184.out _; (with_reducible repeat (first | refine blk_drewN ?_ _ | refine blk_drew ?_ | refine blk_alloc ?_ _)); refine blk_far ?_ NB185_184.out _; (with_reducible repeat (first | refine blk_drewN ?_ _ | refine blk_drew ?_ | refine blk_alloc ?_ _)); exact BK185.out) hb); have n6_ := Aside0.mk (below_step (by repeat (first | (with_reducible first | exact HB.out | apply below_alloc | apply pw_below_drewN | apply below_drew1 | refine below_set ?_ GE150.out | refine below_set ?_ GE151.out | refine below_set ?_ GE167.out | refine below_set ?_ GE168.out | refine below_set ?_ GE184.out | refine below_set ?_ GE185.out) | exact HB.out)) hb); clear BK150; clear BK151; clear BK167; clear BK168; clear BK184; clear BK185; clear HB; have BK150 := n0_; have BK151 := n1_; have BK167 := n2_; have BK168 := n3_; have BK184 := n4_; have BK185 := n5_; have HB := n6_; clear n0_ n1_ n2_ n3_ n4_ n5_ n6_; (try clear hb); (try clear hb2); (try clear hk); (try clear hi); have hnb55 := NB185_150.out; have hnc55 := NB150_185.out; have hnb56 := NB185_151.out; have hnc56 := NB151_185.out; have hnb57 := NB185_168.out; have hnc57 := NB168_185.out; have hcz58_0 : w54.cell? ⟨gb185, 0, none⟩ = some (.int .i64 t180) := (blk_cell BK185.out 0).trans rfl; have hcz58_1 : w54.cell? ⟨gb185, 1, none⟩ = some (.int .i64 t181) := (blk_cell BK185.out 1).trans rfl; have hcz58_2 : w54.cell? ⟨gb185, 2, none⟩ = some (.int .i64 t182) := (blk_cell BK185.out 2).trans rfl; have hfz58_0 := blk_frozen BK185.out 0; have hfz58_1 := blk_frozen BK185.out 1; have hfz58_2 := blk_frozen BK185.out 2; have hnb59 := NB168_150.out; have hnc59 := NB150_168.out; have hnb60 := NB168_151.out; have hnc60 := NB151_168.out; have hcz61_0 : w54.cell? ⟨gb168, 0, none⟩ = some (.int .i64 t163) := (blk_cell BK168.out 0).trans rfl; have hcz61_1 : w54.cell? ⟨gb168, 1, none⟩ = some (.int .i64 t164) := (blk_cell BK168.out 1).trans rfl; have hcz61_2 : w54.cell? ⟨gb168, 2, none⟩ = some (.int .i64 t165) := (blk_cell BK168.out 2).trans rfl; have hfz61_0 := blk_frozen BK168.out 0; have hfz61_1 := blk_frozen BK168.out 1; have hfz61_2 := blk_frozen BK168.out 2) | (go_at_call 16; (with_reducible refine (laws_eqCourse.calls t180 t181 t182 t163 t164 t165 true _ A41.out).mono ?_); rintro e w62 ⟨rfl, hb⟩; have n0_ := Aside0.mk (blk_below (g := gb150) (o := .cells #[.int .i64 a0_0, .int .i64 a0_1, .int .i64 a0_2, .int .i64 a0_3] 30 (0, 0)) (by (with_reducible repeat (first | refine blk_drewN ?_ _ | refine blk_drew ?_ | refine blk_alloc ?_ _)); exact BK150.out) hb); have n1_ := Aside0.mk (blk_below (g := gb151) (o := .cells #[.int .i64 a1_0, .int .i64 a1_1, .int .i64 a1_2, .int .i64 a1_3] 30 (0, 0)) (by (with_reducible repeat (first | refine blk_drewN ?_ _ | refine blk_drew ?_ | refine blk_alloc ?_ _)); exact BK151.out) hb); have n2_ := Aside0.mk (blk_below (g := gb167) (o := .cells #[.int .i64 t160, .int .i64 t161, .int .i64 t162] 24 (0, 0)) (by (with_reducible repeat (first | refine blk_drewN ?_ _ | refine blk_drew ?_ | refine blk_alloc ?_ _)); exact BK167.out) hb); have n3_ := Aside0.mk (blk_below (g := gb168) (o := .cells #[.int .i64 t163, .int .i64 t164, .int .i64 t165] 24 (0, 0)) (by (with_reducible repeat (first | refine blk_drewN ?_ _ | refine blk_drew ?_ | refine blk_alloc ?_ _)); exact BK168.out) hb); have n4_ := Aside0.mk (blk_below (g := gb184) (o := .cells #[.int .i64 t177, .int .i64 t178, .int .i64 t179] 24 (0, 0)) (by (with_reducible repeat (first | refine blk_drewN ?_ _ | refine blk_drew ?_ | refine blk_alloc ?_ _)); exact BK184.out) hb); have n5_ := Aside0.mk (blk_below (g := gb185) (o := .cells #[.int .i64 t180, .int .i64 t181, .int .i64 t182] 24 (0, 0)) (by (with_reducible repeat (first | refine blk_drewN ?_ _ | refine blk_drew ?_ | refine blk_alloc ?_ _)); exact BK185.out) hb); have n6_ := Aside0.mk (below_step (by repeat (first | (with_reducible first | exact HB.out | apply below_alloc | apply pw_below_drewN | apply below_drew1 | refine below_set ?_ GE150.out | refine below_set ?_ GE151.out | refine below_set ?_ GE167.out | refine below_set ?_ GE168.out | refine below_set ?_ GE184.out | refine below_set ?_ GE185.out) | exact HB.out)) hb); clear BK150; clear BK151; clear BK167; clear BK168; clear BK184; clear BK185; clear HB; have BK150 := n0_; have BK151 := n1_; have BK167 := n2_; have BK168 := n3_; have BK184 := n4_; have BK185 := n5_; have HB := n6_; clear n0_ n1_ n2_ n3_ n4_ n5_ n6_; (try clear hb); (try clear hb2); (try clear hk); (try clear hi)))
    go_meet
    case rel => exact ⟨_, ((t183 != t166)), (by first | rfl | (simp; done) | (simp [*]; done)), H', ⟨by first | omega | exact Nat.le_refl _⟩, ⟨by (with_reducible repeat (first | refine blk_drewN ?_ _ | refine blk_drew ?_ | refine blk_alloc ?_ _)); exact BK150.out⟩, ⟨by (with_reducible repeat (first | refine blk_drewN ?_ _ | refine blk_drew ?_ | refine blk_alloc ?_ _)); exact BK151.out⟩, ⟨by (with_reducible repeat (first | refine blk_drewN ?_ _ | refine blk_drew ?_ | refine blk_alloc ?_ _)); exact BK167.out⟩, ⟨by (with_reducible repeat (first | refine blk_drewN ?_ _ | refine blk_drew ?_ | refine blk_alloc ?_ _)); exact BK168.out⟩, ⟨by (with_reducible repeat (first | refine blk_drewN ?_ _ | refine blk_drew ?_ | refine blk_alloc ?_ _)); exact BK184.out⟩, ⟨by (with_reducible repeat (first | refine blk_drewN ?_ _ | refine blk_drew ?_ | refine blk_alloc ?_ _)); exact BK185.out⟩, ⟨by repeat (first | (with_reducible first | exact HB.out | apply below_alloc | apply pw_below_drewN | apply below_drew1 | refine below_set ?_ GE150.out | refine below_set ?_ GE151.out | refine below_set ?_ GE167.out | refine below_set ?_ GE168.out | refine below_set ?_ GE184.out | refine below_set ?_ GE185.out) | exact HB.out)⟩⟩
   ·
    replace c42 := Bool.eq_false_iff.mpr c42
    subst c42
    have H1 : (laws_FnExactCourseOf.j0 k true) = some true := by rw [if_neg (show ¬ (false = true) by decide)] at H; exact H
    exact absurd H1 (by cases k <;> simp [laws_FnExactCourseOf.j0])
  ·
   replace c40 := Bool.eq_false_iff.mpr c40
   subst c40
   have H1 : (laws_FnExactCourseOf.j0 k true) = some true := by rw [if_neg (show ¬ (false = true) by decide)] at H; exact H
   exact absurd H1 (by cases k <;> simp [laws_FnExactCourseOf.j0])
 case rest =>
  clear HC9
  try clear c1
  try clear p2
  try clear c4
  try clear c5
  try clear c6
  try clear c7
  try clear c8
  try clear c9
  try clear c16
  try clear c19
  try clear c40
  try clear c42
  try clear c43
  try clear c44
  try clear c45
  try clear c46
  try clear c47
  try clear c49
  try clear c50
  try clear c51
  try clear c52
  try clear c55
  try clear c56
  try clear c57
  try clear c59
  try clear c60
  try clear c63
  try clear c64
  try clear c65
  try clear c66
  try clear c67
  try clear c69
  try clear c70
  try clear c71
  try clear c72
  try clear c75
  try clear c76
  try clear c77
  try clear c79
  try clear c80
  try clear c83
  try clear c84
  try clear c85
  try clear c86
  try clear c87
  try clear c89
  try clear c90
  try clear c91
  try clear c92
  try clear hcz48_0
  try clear hcz48_1
  try clear hcz48_2
  try clear hcz53_0
  try clear hcz53_1
  try clear hcz53_2
  try clear hcz58_0
  try clear hcz58_1
  try clear hcz58_2
  try clear hcz61_0
  try clear hcz61_1
  try clear hcz61_2
  try clear hcz68_0
  try clear hcz68_1
  try clear hcz68_2
  try clear hcz73_0
  try clear hcz73_1
  try clear hcz73_2
  try clear hcz78_0
  try clear hcz78_1
  try clear hcz78_2
  try clear hcz81_0
  try clear hcz81_1
  try clear hcz81_2
  try clear hcz88_0
  try clear hcz88_1
  try clear hcz88_2
  try clear hcz93_0
  try clear hcz93_1
  try clear hcz93_2
  try clear hfz48_0
  try clear hfz48_1
  try clear hfz48_2
  try clear hfz53_0
  try clear hfz53_1
  try clear hfz53_2
  try clear hfz58_0
  try clear hfz58_1
  try clear hfz58_2
  try clear hfz61_0
  try clear hfz61_1
  try clear hfz61_2
  try clear hfz68_0
  try clear hfz68_1
  try clear hfz68_2
  try clear hfz73_0
  try clear hfz73_1
  try clear hfz73_2
  try clear hfz78_0
  try clear hfz78_1
  try clear hfz78_2
  try clear hfz81_0
  try clear hfz81_1
  try clear hfz81_2
  try clear hfz88_0
  try clear hfz88_1
  try clear hfz88_2
  try clear hfz93_0
  try clear hfz93_1
  try clear hfz93_2
  obtain ⟨kq, x43_8, rfl, HA, HJ8, BK150, BK151, BK167, BK168, BK184, BK185, HB⟩ := hcut
  cases kq with
  | zero => exact absurd HA.out (by simp [laws_FnExactCourseOf.j0])
  | succ kj8 =>
   have H := HA.out
   clear HA
   simp only [laws_FnExactCourseOf.j0] at H
   by_cases c95 : x43_8 = true
   ·
    subst c95
    have H1 : (some false) = some true := by rw [if_pos rfl] at H; exact H
    exact absurd H1 (by simp)
   ·
    replace c95 := Bool.eq_false_iff.mpr c95
    subst c95
    have H1 : (some true) = some true := rfl
    clear H
    have H := H1
    clear H1
    go_wp2
    go_ret
    exact ⟨by first | rfl | (simp [errW_none, errW_some] <;> rfl) | (simp [*, errW_none, errW_some] <;> rfl), by repeat (first | (with_reducible first | exact HB.out | apply below_alloc | apply pw_below_drewN | apply below_drew1 | refine below_set ?_ GE150.out | refine below_set ?_ GE151.out | refine below_set ?_ GE167.out | refine below_set ?_ GE168.out | refine below_set ?_ GE184.out | refine below_set ?_ GE185.out) | exact HB.out)⟩

end Go.Proofs.Ytibmehephlngfaa.Q
