-- Written by a program of this claim's session (gprint.py over the kit's print); not typed by hand; Lean checks it.
import Derived.Test.YthlbcjoogcanmaaQ0
import Derived.Test.YthlbcjoogcanmaaQ3
import Derived.Test.YthlbcjoogcanmaaQ4
import Derived.Test.YthlbcjoogcanmaaQ7
import Derived.Test.YthlbcjoogcanmaaQ9
import Derived.Test.YthlbcjoogcanmaaQ10
import Derived.Test.YthlbcjoogcanmaaQ12
namespace Go.Proofs.Ythlbcjoogcanmaa.Q
open Go.RowKit Go.Proofs.YthlbcjoogcanmaaW.PrintWords Go.Proofs.YthlbcjoogcanmaaW.PrintLast Go.Proofs.YthlbcjoogcanmaaW.PrintMore
attribute [local go_sem] max2_int min2_int max_two min_two max_three min_three max_four min_four   -- for this text's walks alone
set_option linter.unusedVariables false
set_option linter.unusedSimpArgs false

/-! ### spec_l02Is: function 72 -/
mutual
def spec_l02Is.j0 : Nat → Bool → Int → Int → Int → Int → List (S116) → Option (Bool)
  | 0, _, _, _, _, _, _ => none
  | k + 1, x22, x1000, x1001, x1002, x1003, x1004 => if x22 = true then (some false) else (spec_l02Is.l0 k 0 0 x1000 x1001 x1002 x1003 x1004 x1000 x1001 x1002 x1003)
def spec_l02Is.l0 : Nat → Int → Int → Int → Int → Int → Int → List (S116) → Int → Int → Int → Int → Option (Bool)
  | 0, _, _, _, _, _, _, _, _, _, _, _ => none
  | k + 1, x3, x5, x1000, x1001, x1002, x1003, x1004, x193000, x193001, x193002, x193003 => if x5 < (x1004.length : Int) then (if 0 ≤ x5 then ((spec_l00In.f ((rd_T116 x1004 x5).f0) 1 (wrap64 (60 - x3))).bind fun t195 => (if t195 = true then ((spec_l02Turn.f ((rd_T116 x1004 x5).f1) ((rd_T116 x1004 x5).f2)).bind fun t196 => (spec_l02Is.j2 k x3 x5 (!t196) x1000 x1001 x1002 x1003 x1004 x193000 x193001 x193002 x193003 ((rd_T116 x1004 x5).f0) ((rd_T116 x1004 x5).f1) ((rd_T116 x1004 x5).f2))) else (spec_l02Is.j2 k x3 x5 true x1000 x1001 x1002 x1003 x1004 x193000 x193001 x193002 x193003 ((rd_T116 x1004 x5).f0) ((rd_T116 x1004 x5).f1) ((rd_T116 x1004 x5).f2)))) else (none)) else (some true)
def spec_l02Is.j2 : Nat → Int → Int → Bool → Int → Int → Int → Int → List (S116) → Int → Int → Int → Int → Int → Int → Int → Option (Bool)
  | 0, _, _, _, _, _, _, _, _, _, _, _, _, _, _, _ => none
  | k + 1, x3, x5, x56, x1000, x1001, x1002, x1003, x1004, x193000, x193001, x193002, x193003, x195000, x195001, x195002 => if x56 = true then (some false) else (spec_l02Is.l1 k (wrap64 (x3 + x195000)) x5 0 x1000 x1001 x1002 x1003 x1004 x193000 x193001 x193002 x193003 x195000 x195001 x195002)
def spec_l02Is.l1 : Nat → Int → Int → Int → Int → Int → Int → Int → List (S116) → Int → Int → Int → Int → Int → Int → Int → Option (Bool)
  | 0, _, _, _, _, _, _, _, _, _, _, _, _, _, _, _ => none
  | k + 1, x3, x5, x7, x1000, x1001, x1002, x1003, x1004, x193000, x193001, x193002, x193003, x195000, x195001, x195002 => if x7 < x195000 then ((spec_l02Next.f x193000 x193001 x193002 x193003 x195001 x195002).bind fun bt197 => ((spec_l02Pose.f bt197.1 bt197.2.1 bt197.2.2.1 bt197.2.2.2).bind fun t201 => (if t201 = true then (spec_l02Is.l1 k x3 x5 (wrap64 (x7 + 1)) x1000 x1001 x1002 x1003 x1004 bt197.1 bt197.2.1 bt197.2.2.1 bt197.2.2.2 x195000 x195001 x195002) else (some false)))) else (spec_l02Is.l0 k x3 (wrap64 (x5 + 1)) x1000 x1001 x1002 x1003 x1004 x193000 x193001 x193002 x193003)
end
def spec_l02Is.f (k : Nat) (a0_0 : Int) (a0_1 : Int) (a0_2 : Int) (a0_3 : Int) (l0_4 : List (S116)) : Option (Bool) := (spec_l02Pose.f a0_0 a0_1 a0_2 a0_3).bind fun t190 => (if t190 = true then ((spec_l00In.f (l0_4.length : Int) 1 8).bind fun t191 => (spec_l02Is.j0 k (!t191) a0_0 a0_1 a0_2 a0_3 l0_4)) else (spec_l02Is.j0 k true a0_0 a0_1 a0_2 a0_3 l0_4))
theorem spec_l02Is.mono_l : ∀ k, (∀ y0 y1 y2 y3 y4 y5, LeO (spec_l02Is.j0 k y0 y1 y2 y3 y4 y5) (spec_l02Is.j0 (k + 1) y0 y1 y2 y3 y4 y5)) ∧ (∀ y0 y1 y2 y3 y4 y5 y6 y7 y8 y9 y10, LeO (spec_l02Is.l0 k y0 y1 y2 y3 y4 y5 y6 y7 y8 y9 y10) (spec_l02Is.l0 (k + 1) y0 y1 y2 y3 y4 y5 y6 y7 y8 y9 y10)) ∧ (∀ y0 y1 y2 y3 y4 y5 y6 y7 y8 y9 y10 y11 y12 y13 y14, LeO (spec_l02Is.j2 k y0 y1 y2 y3 y4 y5 y6 y7 y8 y9 y10 y11 y12 y13 y14) (spec_l02Is.j2 (k + 1) y0 y1 y2 y3 y4 y5 y6 y7 y8 y9 y10 y11 y12 y13 y14)) ∧ (∀ y0 y1 y2 y3 y4 y5 y6 y7 y8 y9 y10 y11 y12 y13 y14, LeO (spec_l02Is.l1 k y0 y1 y2 y3 y4 y5 y6 y7 y8 y9 y10 y11 y12 y13 y14) (spec_l02Is.l1 (k + 1) y0 y1 y2 y3 y4 y5 y6 y7 y8 y9 y10 y11 y12 y13 y14))
  | 0 => ⟨fun _ _ _ _ _ _ r h => by simp [spec_l02Is.j0] at h, fun _ _ _ _ _ _ _ _ _ _ _ r h => by simp [spec_l02Is.l0] at h, fun _ _ _ _ _ _ _ _ _ _ _ _ _ _ _ r h => by simp [spec_l02Is.j2] at h, fun _ _ _ _ _ _ _ _ _ _ _ _ _ _ _ r h => by simp [spec_l02Is.l1] at h⟩
  | k + 1 => by
    obtain ⟨ih0, ih1, ih2, ih3⟩ := spec_l02Is.mono_l k
    refine ⟨?_, ?_, ?_, ?_⟩
    · intro y0 y1 y2 y3 y4 y5
      unfold spec_l02Is.j0
      repeat' first
      | (with_reducible exact ih0 _ _ _ _ _ _)
      | (with_reducible exact ih1 _ _ _ _ _ _ _ _ _ _ _)
      | (with_reducible exact ih2 _ _ _ _ _ _ _ _ _ _ _ _ _ _ _)
      | (with_reducible exact ih3 _ _ _ _ _ _ _ _ _ _ _ _ _ _ _)
      | (with_reducible exact LeO.refl _)
      | (with_reducible exact LeO.none _)
      | (with_reducible refine LeO.ite ?_ ?_)
      | (with_reducible refine LeO.bind ?_ (fun _ => ?_))
      | exact ih0 _ _ _ _ _ _
      | exact ih1 _ _ _ _ _ _ _ _ _ _ _
      | exact ih2 _ _ _ _ _ _ _ _ _ _ _ _ _ _ _
      | exact ih3 _ _ _ _ _ _ _ _ _ _ _ _ _ _ _
      | exact LeO.none _
      | refine LeO.ite ?_ ?_
      | refine LeO.bind ?_ (fun _ => ?_)
    · intro y0 y1 y2 y3 y4 y5 y6 y7 y8 y9 y10
      unfold spec_l02Is.l0
      repeat' first
      | (with_reducible exact ih0 _ _ _ _ _ _)
      | (with_reducible exact ih1 _ _ _ _ _ _ _ _ _ _ _)
      | (with_reducible exact ih2 _ _ _ _ _ _ _ _ _ _ _ _ _ _ _)
      | (with_reducible exact ih3 _ _ _ _ _ _ _ _ _ _ _ _ _ _ _)
      | (with_reducible exact LeO.refl _)
      | (with_reducible exact LeO.none _)
      | (with_reducible refine LeO.ite ?_ ?_)
      | (with_reducible refine LeO.bind ?_ (fun _ => ?_))
      | exact ih0 _ _ _ _ _ _
      | exact ih1 _ _ _ _ _ _ _ _ _ _ _
      | exact ih2 _ _ _ _ _ _ _ _ _ _ _ _ _ _ _
      | exact ih3 _ _ _ _ _ _ _ _ _ _ _ _ _ _ _
      | exact LeO.none _
      | refine LeO.ite ?_ ?_
      | refine LeO.bind ?_ (fun _ => ?_)
    · intro y0 y1 y2 y3 y4 y5 y6 y7 y8 y9 y10 y11 y12 y13 y14
      unfold spec_l02Is.j2
      repeat' first
      | (with_reducible exact ih0 _ _ _ _ _ _)
      | (with_reducible exact ih1 _ _ _ _ _ _ _ _ _ _ _)
      | (with_reducible exact ih2 _ _ _ _ _ _ _ _ _ _ _ _ _ _ _)
      | (with_reducible exact ih3 _ _ _ _ _ _ _ _ _ _ _ _ _ _ _)
      | (with_reducible exact LeO.refl _)
      | (with_reducible exact LeO.none _)
      | (with_reducible refine LeO.ite ?_ ?_)
      | (with_reducible refine LeO.bind ?_ (fun _ => ?_))
      | exact ih0 _ _ _ _ _ _
      | exact ih1 _ _ _ _ _ _ _ _ _ _ _
      | exact ih2 _ _ _ _ _ _ _ _ _ _ _ _ _ _ _
      | exact ih3 _ _ _ _ _ _ _ _ _ _ _ _ _ _ _
      | exact LeO.none _
      | refine LeO.ite ?_ ?_
      | refine LeO.bind ?_ (fun _ => ?_)
    · intro y0 y1 y2 y3 y4 y5 y6 y7 y8 y9 y10 y11 y12 y13 y14
      unfold spec_l02Is.l1
      repeat' first
      | (with_reducible exact ih0 _ _ _ _ _ _)
      | (with_reducible exact ih1 _ _ _ _ _ _ _ _ _ _ _)
      | (with_reducible exact ih2 _ _ _ _ _ _ _ _ _ _ _ _ _ _ _)
      | (with_reducible exact ih3 _ _ _ _ _ _ _ _ _ _ _ _ _ _ _)
      | (with_reducible exact LeO.refl _)
      | (with_reducible exact LeO.none _)
      | (with_reducible refine LeO.ite ?_ ?_)
      | (with_reducible refine LeO.bind ?_ (fun _ => ?_))
      | exact ih0 _ _ _ _ _ _
      | exact ih1 _ _ _ _ _ _ _ _ _ _ _
      | exact ih2 _ _ _ _ _ _ _ _ _ _ _ _ _ _ _
      | exact ih3 _ _ _ _ _ _ _ _ _ _ _ _ _ _ _
      | exact LeO.none _
      | refine LeO.ite ?_ ?_
      | refine LeO.bind ?_ (fun _ => ?_)
theorem spec_l02Is.mono : ∀ a0 a1 a2 a3 a4 k, LeO (spec_l02Is.f k a0 a1 a2 a3 a4) (spec_l02Is.f (k + 1) a0 a1 a2 a3 a4) := by
  intro a0 a1 a2 a3 a4 k
  obtain ⟨ih0, ih1, ih2, ih3⟩ := spec_l02Is.mono_l k
  unfold spec_l02Is.f
  repeat' first
      | (with_reducible exact ih0 _ _ _ _ _ _)
      | (with_reducible exact ih1 _ _ _ _ _ _ _ _ _ _ _)
      | (with_reducible exact ih2 _ _ _ _ _ _ _ _ _ _ _ _ _ _ _)
      | (with_reducible exact ih3 _ _ _ _ _ _ _ _ _ _ _ _ _ _ _)
      | (with_reducible exact LeO.refl _)
      | (with_reducible exact LeO.none _)
      | (with_reducible refine LeO.ite ?_ ?_)
      | (with_reducible refine LeO.bind ?_ (fun _ => ?_))
      | exact ih0 _ _ _ _ _ _
      | exact ih1 _ _ _ _ _ _ _ _ _ _ _
      | exact ih2 _ _ _ _ _ _ _ _ _ _ _ _ _ _ _
      | exact ih3 _ _ _ _ _ _ _ _ _ _ _ _ _ _ _
      | exact LeO.none _
      | refine LeO.ite ?_ ?_
      | refine LeO.bind ?_ (fun _ => ?_)
set_option maxHeartbeats 8000000 in
set_option maxRecDepth 100000 in
theorem spec_l02Is.calls (k : Nat) (gB0 : Nat) (a0_0 : Int) (a0_1 : Int) (a0_2 : Int) (a0_3 : Int) (A0_4 : Option Addr) (c0_4 : Nat) (l0_4 : List (S116)) (r : Bool) (w : World) (hb0 : w.heap[gB0]? = some (.cells #[.int .i64 a0_0, .int .i64 a0_1, .int .i64 a0_2, .int .i64 a0_3, .slice A0_4 l0_4.length c0_4] 39 (0, 0))) (hr0_4 : Kd.C k116 w A0_4 l0_4.length l0_4) (hc0_4 : l0_4.length ≤ c0_4) (h : spec_l02Is.f k a0_0 a0_1 a0_2 a0_3 l0_4 = some r) :
    Calls Try.prog 72 #[.pointer (some ⟨gB0, 0, none⟩)] w fun e w' => e = .returned (.bool r) ∧ Below w.heap.size w w' := by
  have hu25 := Try.underlying25
  have hu116 := Try.underlying116
  have HR0_4 := Aside0.mk hr0_4
  have HC0_4 := Aside0.mk hc0_4
  clear hr0_4 hc0_4
  have BK0 := Aside0.mk hb0
  clear hb0
  have HB := Aside0.mk (Below.refl w.heap.size w)
  have H : ((spec_l02Pose.f a0_0 a0_1 a0_2 a0_3).bind fun t190 => (if t190 = true then ((spec_l00In.f (l0_4.length : Int) 1 8).bind fun t191 => (spec_l02Is.j0 k (!t191) a0_0 a0_1 a0_2 a0_3 l0_4)) else (spec_l02Is.j0 k true a0_0 a0_1 a0_2 a0_3 l0_4))) = some r := h
  clear h
  have HC2 := Aside0.mk H
  clear H
  go_enter Try.func72, Try.ntmps72
  go_upto_region 1 with (fail)
  go_cut [22] (fun v22 wc => ∃ (kq : Nat) (x22_1 : Bool), v22 = .bool x22_1 ∧ Aside0 (spec_l02Is.j0 kq x22_1 a0_0 a0_1 a0_2 a0_3 l0_4 = some r) ∧ Aside0 (kq ≤ k) ∧ Aside0 (wc.heap[gB0]? = some (.cells #[.int .i64 a0_0, .int .i64 a0_1, .int .i64 a0_2, .int .i64 a0_3, (.slice A0_4 l0_4.length c0_4)] 39 (0, 0))) ∧ Aside0 (Below w.heap.size w wc))
  case first =>
    have H := HC2.out
    clear HC2
    replace H := Option.bind_eq_some_iff.mp H
    obtain ⟨t190, A30, H⟩ := H
    replace H : (if t190 = true then ((spec_l00In.f (l0_4.length : Int) 1 8).bind fun t191 => (spec_l02Is.j0 k (!t191) a0_0 a0_1 a0_2 a0_3 l0_4)) else (spec_l02Is.j0 k true a0_0 a0_1 a0_2 a0_3 l0_4)) = some r := H
    have A3 := Aside0.mk A30
    clear A30
    by_cases c4 : t190 = true
    · subst c4
      have H1 : ((spec_l00In.f (l0_4.length : Int) 1 8).bind fun t191 => (spec_l02Is.j0 k (!t191) a0_0 a0_1 a0_2 a0_3 l0_4)) = some r := by rw [if_pos rfl] at H; exact H
      clear H
      have H := H1
      clear H1
      replace H := Option.bind_eq_some_iff.mp H
      obtain ⟨t191, A50, H⟩ := H
      replace H : (spec_l02Is.j0 k (!t191) a0_0 a0_1 a0_2 a0_3 l0_4) = some r := H
      have A5 := Aside0.mk A50
      clear A50
      have H' := Aside0.mk H
      clear H
      have hcz6_0 : w.cell? ⟨gB0, 0, none⟩ = some (.int .i64 a0_0) := (blk_cell BK0.out 0).trans rfl
      have hcz6_1 : w.cell? ⟨gB0, 1, none⟩ = some (.int .i64 a0_1) := (blk_cell BK0.out 1).trans rfl
      have hcz6_2 : w.cell? ⟨gB0, 2, none⟩ = some (.int .i64 a0_2) := (blk_cell BK0.out 2).trans rfl
      have hcz6_3 : w.cell? ⟨gB0, 3, none⟩ = some (.int .i64 a0_3) := (blk_cell BK0.out 3).trans rfl
      have hcz6_4 : w.cell? ⟨gB0, 4, none⟩ = some (.slice A0_4 l0_4.length c0_4) := (blk_cell BK0.out 4).trans rfl
      have hfz6_0 := blk_frozen BK0.out 0
      have hfz6_1 := blk_frozen BK0.out 1
      have hfz6_2 := blk_frozen BK0.out 2
      have hfz6_3 := blk_frozen BK0.out 3
      have hfz6_4 := blk_frozen BK0.out 4
      go_wp2_with (first | ((with_reducible refine gate_callee (f := 65) rfl ?_); refine goesL_ (some 12) rfl rfl Try.func65 (by kernel_rfl) rfl #[.agg #[.int .i64 a0_0, .int .i64 a0_1, .int .i64 a0_2, .int .i64 a0_3]] rfl (by (try simp only [List.map_toArray, List.map_cons, List.map_nil]); first | done | rfl | (simp only [List.length_drop, List.length_take]; rfl)) ?_; (with_reducible refine (spec_l02Pose.calls a0_0 a0_1 a0_2 a0_3 true _ A3.out).mono ?_); rintro e w7 ⟨rfl, hb⟩; refine ⟨_, rfl, ?_⟩; have n0_ := Aside0.mk (blk_below (g := gB0) (o := .cells #[.int .i64 a0_0, .int .i64 a0_1, .int .i64 a0_2, .int .i64 a0_3, .slice A0_4 l0_4.length c0_4] 39 (0, 0)) (by (with_reducible repeat (first | refine blk_drewN ?_ _ | refine blk_drew ?_ | refine blk_alloc ?_ _)); exact BK0.out) hb); have n1_ := Aside0.mk (below_step (by repeat (first | (with_reducible first | exact HB.out | apply below_alloc | apply pw_below_drewN | apply below_drew1 | refine below_set ?_ GE0.out) | exact HB.out)) hb); clear BK0; clear HB; have BK0 := n0_; have HB := n1_; clear n0_ n1_; (try clear hb); (try clear hb2); (try clear hk); (try clear hi); have hcz8_0 : w7.cell? ⟨gB0, 0, none⟩ = some (.int .i64 a0_0) := (blk_cell BK0.out 0).trans rfl; have hcz8_1 : w7.cell? ⟨gB0, 1, none⟩ = some (.int .i64 a0_1) := (blk_cell BK0.out 1).trans rfl; have hcz8_2 : w7.cell? ⟨gB0, 2, none⟩ = some (.int .i64 a0_2) := (blk_cell BK0.out 2).trans rfl; have hcz8_3 : w7.cell? ⟨gB0, 3, none⟩ = some (.int .i64 a0_3) := (blk_cell BK0.out 3).trans rfl; have hcz8_4 : w7.cell? ⟨gB0, 4, none⟩ = some (.slice A0_4 l0_4.length c0_4) := (blk_cell BK0.out 4).trans rfl; have hfz8_0 := blk_frozen BK0.out 0; have hfz8_1 := blk_frozen BK0.out 1; have hfz8_2 := blk_frozen BK0.out 2; have hfz8_3 := blk_frozen BK0.out 3; have hfz8_4 := blk_frozen BK0.out 4) | (go_at_call 96; (with_reducible refine (spec_l00In.calls (l0_4.length : Int) 1 8 t191 _ A5.out).mono ?_); rintro e w' ⟨rfl, ⟨nd, rfl⟩⟩))
      go_meet
      case rel => exact ⟨_, (!t191), (by first | rfl | (simp; done) | (simp [*]; done)), H', ⟨by first | omega | exact Nat.le_refl _⟩, ⟨by (with_reducible repeat (first | refine blk_drewN ?_ _ | refine blk_drew ?_ | refine blk_alloc ?_ _)); exact BK0.out⟩, ⟨by repeat (first | (with_reducible first | exact HB.out | apply below_alloc | apply pw_below_drewN | apply below_drew1 | refine below_set ?_ GE0.out) | exact HB.out)⟩⟩
    · replace c4 := Bool.eq_false_iff.mpr c4
      subst c4
      have H1 : (spec_l02Is.j0 k true a0_0 a0_1 a0_2 a0_3 l0_4) = some r := by rw [if_neg (show ¬ (false = true) by decide)] at H; exact H
      clear H
      have H := H1
      clear H1
      have H' := Aside0.mk H
      clear H
      have hcz9_0 : w.cell? ⟨gB0, 0, none⟩ = some (.int .i64 a0_0) := (blk_cell BK0.out 0).trans rfl
      have hcz9_1 : w.cell? ⟨gB0, 1, none⟩ = some (.int .i64 a0_1) := (blk_cell BK0.out 1).trans rfl
      have hcz9_2 : w.cell? ⟨gB0, 2, none⟩ = some (.int .i64 a0_2) := (blk_cell BK0.out 2).trans rfl
      have hcz9_3 : w.cell? ⟨gB0, 3, none⟩ = some (.int .i64 a0_3) := (blk_cell BK0.out 3).trans rfl
      have hcz9_4 : w.cell? ⟨gB0, 4, none⟩ = some (.slice A0_4 l0_4.length c0_4) := (blk_cell BK0.out 4).trans rfl
      have hfz9_0 := blk_frozen BK0.out 0
      have hfz9_1 := blk_frozen BK0.out 1
      have hfz9_2 := blk_frozen BK0.out 2
      have hfz9_3 := blk_frozen BK0.out 3
      have hfz9_4 := blk_frozen BK0.out 4
      go_wp2_with (first | ((with_reducible refine gate_callee (f := 65) rfl ?_); refine goesL_ (some 12) rfl rfl Try.func65 (by kernel_rfl) rfl #[.agg #[.int .i64 a0_0, .int .i64 a0_1, .int .i64 a0_2, .int .i64 a0_3]] rfl (by (try simp only [List.map_toArray, List.map_cons, List.map_nil]); first | done | rfl | (simp only [List.length_drop, List.length_take]; rfl)) ?_; (with_reducible refine (spec_l02Pose.calls a0_0 a0_1 a0_2 a0_3 false _ A3.out).mono ?_); rintro e w10 ⟨rfl, hb⟩; refine ⟨_, rfl, ?_⟩; have n0_ := Aside0.mk (blk_below (g := gB0) (o := .cells #[.int .i64 a0_0, .int .i64 a0_1, .int .i64 a0_2, .int .i64 a0_3, .slice A0_4 l0_4.length c0_4] 39 (0, 0)) (by (with_reducible repeat (first | refine blk_drewN ?_ _ | refine blk_drew ?_ | refine blk_alloc ?_ _)); exact BK0.out) hb); have n1_ := Aside0.mk (below_step (by repeat (first | (with_reducible first | exact HB.out | apply below_alloc | apply pw_below_drewN | apply below_drew1 | refine below_set ?_ GE0.out) | exact HB.out)) hb); clear BK0; clear HB; have BK0 := n0_; have HB := n1_; clear n0_ n1_; (try clear hb); (try clear hb2); (try clear hk); (try clear hi)))
      go_meet
      case rel => exact ⟨_, (true), (by first | rfl | (simp; done) | (simp [*]; done)), H', ⟨by first | omega | exact Nat.le_refl _⟩, ⟨by (with_reducible repeat (first | refine blk_drewN ?_ _ | refine blk_drew ?_ | refine blk_alloc ?_ _)); exact BK0.out⟩, ⟨by repeat (first | (with_reducible first | exact HB.out | apply below_alloc | apply pw_below_drewN | apply below_drew1 | refine below_set ?_ GE0.out) | exact HB.out)⟩⟩
  case rest =>
    clear HC2
    try clear p2
    try clear c4
    try clear c6
    try clear c7
    try clear hcz6_0
    try clear hcz6_1
    try clear hcz6_2
    try clear hcz6_3
    try clear hcz6_4
    try clear hcz8_0
    try clear hcz8_1
    try clear hcz8_2
    try clear hcz8_3
    try clear hcz8_4
    try clear hcz9_0
    try clear hcz9_1
    try clear hcz9_2
    try clear hcz9_3
    try clear hcz9_4
    try clear hfz6_0
    try clear hfz6_1
    try clear hfz6_2
    try clear hfz6_3
    try clear hfz6_4
    try clear hfz8_0
    try clear hfz8_1
    try clear hfz8_2
    try clear hfz8_3
    try clear hfz8_4
    try clear hfz9_0
    try clear hfz9_1
    try clear hfz9_2
    try clear hfz9_3
    try clear hfz9_4
    obtain ⟨kq, x22_1, rfl, HA, HJ1, BK0, HB⟩ := hcut
    cases kq with
    | zero => exact absurd HA.out (by simp [spec_l02Is.j0])
    | succ kj1 =>
      have H := HA.out
      clear HA
      simp only [spec_l02Is.j0] at H
      by_cases c11 : x22_1 = true
      · subst c11
        have H1 : (some false) = some r := by rw [if_pos rfl] at H; exact H
        clear H
        have H := H1
        clear H1
        obtain rfl := Option.some.inj H
        go_wp2
        go_ret
        exact ⟨by first | rfl | (simp [errW_none, errW_some] <;> rfl) | (simp [*, errW_none, errW_some] <;> rfl), by repeat (first | (with_reducible first | exact HB.out | apply below_alloc | apply pw_below_drewN | apply below_drew1 | refine below_set ?_ GE0.out) | exact HB.out)⟩
      · replace c11 := Bool.eq_false_iff.mpr c11
        subst c11
        have H1 : (spec_l02Is.l0 kj1 0 0 a0_0 a0_1 a0_2 a0_3 l0_4 a0_0 a0_1 a0_2 a0_3) = some r := by rw [if_neg (show ¬ (false = true) by decide)] at H; exact H
        clear H
        have H := H1
        clear H1
        have H' := Aside0.mk H
        clear H
        have hcz12_0 : wc.cell? ⟨gB0, 0, none⟩ = some (.int .i64 a0_0) := (blk_cell BK0.out 0).trans rfl
        have hcz12_1 : wc.cell? ⟨gB0, 1, none⟩ = some (.int .i64 a0_1) := (blk_cell BK0.out 1).trans rfl
        have hcz12_2 : wc.cell? ⟨gB0, 2, none⟩ = some (.int .i64 a0_2) := (blk_cell BK0.out 2).trans rfl
        have hcz12_3 : wc.cell? ⟨gB0, 3, none⟩ = some (.int .i64 a0_3) := (blk_cell BK0.out 3).trans rfl
        have hcz12_4 : wc.cell? ⟨gB0, 4, none⟩ = some (.slice A0_4 l0_4.length c0_4) := (blk_cell BK0.out 4).trans rfl
        have hfz12_0 := blk_frozen BK0.out 0
        have hfz12_1 := blk_frozen BK0.out 1
        have hfz12_2 := blk_frozen BK0.out 2
        have hfz12_3 := blk_frozen BK0.out 3
        have hfz12_4 := blk_frozen BK0.out 4
        go_wp2_with (first | ((with_reducible refine gate_dst (N := 4) rfl ?_); (try (refine gate_guard (by rfl) ?_; dsimp only)); refine box_event ?hg (N := 4) ?hd (cs := #[.int .i64 0, .int .i64 0, .int .i64 0, .int .i64 0]) (t := 25) ?hr ?_; (case hd => rfl); (case hg => rfl); (case hr => first | (go_simp; done) | (go_simp; rfl)); intro gb192 hg w13 hbox hb; have n0_ := Aside0.mk (blk_below (g := gB0) (o := .cells #[.int .i64 a0_0, .int .i64 a0_1, .int .i64 a0_2, .int .i64 a0_3, .slice A0_4 l0_4.length c0_4] 39 (0, 0)) (by (with_reducible repeat (first | refine blk_drewN ?_ _ | refine blk_drew ?_ | refine blk_alloc ?_ _)); exact BK0.out) hb); have n1_ := Aside0.mk (below_step (by repeat (first | (with_reducible first | exact HB.out | apply below_alloc | apply pw_below_drewN | apply below_drew1 | refine below_set ?_ GE0.out) | exact HB.out)) hb); have n2_ := Aside0.mk (hbox); have n3_ := Aside0.mk ((by rw [hg]; exact (below_size (by repeat (first | (with_reducible first | exact HB.out | apply below_alloc | apply pw_below_drewN | apply below_drew1 | refine below_set ?_ GE0.out) | exact HB.out))) : w.heap.size ≤ gb192)); have n4_ := Aside0.mk ((by rw [hg]; exact (below_size (by repeat (first | (with_reducible first | exact HB.out | apply below_alloc | apply pw_below_drewN | apply below_drew1 | refine below_set ?_ GE0.out) | exact HB.out))) : w.heap.size ≤ gb192)); have n5_ := Aside0.mk ((by rw [hg]; exact Nat.ne_of_lt (blk_lt (g := gB0) (o := .cells #[.int .i64 a0_0, .int .i64 a0_1, .int .i64 a0_2, .int .i64 a0_3, .slice A0_4 l0_4.length c0_4] 39 (0, 0)) (by (with_reducible repeat (first | refine blk_drewN ?_ _ | refine blk_drew ?_ | refine blk_alloc ?_ _)); exact BK0.out)) : gB0 ≠ gb192)); have n6_ := Aside0.mk ((by rw [hg]; exact Nat.ne_of_gt (blk_lt (g := gB0) (o := .cells #[.int .i64 a0_0, .int .i64 a0_1, .int .i64 a0_2, .int .i64 a0_3, .slice A0_4 l0_4.length c0_4] 39 (0, 0)) (by (with_reducible repeat (first | refine blk_drewN ?_ _ | refine blk_drew ?_ | refine blk_alloc ?_ _)); exact BK0.out)) : gb192 ≠ gB0)); clear BK0; clear HB; have BK0 := n0_; have HB := n1_; have BK192 := n2_; have GW192 := n3_; have GE192 := n4_; have NB0_192 := n5_; have NB192_0 := n6_; clear n0_ n1_ n2_ n3_ n4_ n5_ n6_; clear hb hbox hg; have hnb14 := NB192_0.out; have hnc14 := NB0_192.out; have hcz15_0 : w13.cell? ⟨gb192, 0, none⟩ = some (.int .i64 0) := (blk_cell BK192.out 0).trans rfl; have hcz15_1 : w13.cell? ⟨gb192, 1, none⟩ = some (.int .i64 0) := (blk_cell BK192.out 1).trans rfl; have hcz15_2 : w13.cell? ⟨gb192, 2, none⟩ = some (.int .i64 0) := (blk_cell BK192.out 2).trans rfl; have hcz15_3 : w13.cell? ⟨gb192, 3, none⟩ = some (.int .i64 0) := (blk_cell BK192.out 3).trans rfl; have hfz15_0 := blk_frozen BK192.out 0; have hfz15_1 := blk_frozen BK192.out 1; have hfz15_2 := blk_frozen BK192.out 2; have hfz15_3 := blk_frozen BK192.out 3))
        go_loopg [3, 5] kj1 (fun kq v3 v5 w' => ∃ (x3_2 : Int) (x5_2 : Int) (x193000_2 : Int) (x193001_2 : Int) (x193002_2 : Int) (x193003_2 : Int), v3 = .int .i64 x3_2 ∧ v5 = .int .i64 x5_2 ∧ Aside0 (spec_l02Is.l0 kq x3_2 x5_2 a0_0 a0_1 a0_2 a0_3 l0_4 x193000_2 x193001_2 x193002_2 x193003_2 = some r) ∧ Aside0 (kq ≤ kj1) ∧ Aside0 (w'.heap[gB0]? = some (.cells #[.int .i64 a0_0, .int .i64 a0_1, .int .i64 a0_2, .int .i64 a0_3, (.slice A0_4 l0_4.length c0_4)] 39 (0, 0))) ∧ Aside0 (w'.heap[gb192]? = some (.cells #[.int .i64 x193000_2, .int .i64 x193001_2, .int .i64 x193002_2, .int .i64 x193003_2] 25 (0, 0))) ∧ Aside0 (Below w.heap.size w w'))
        case atStart => exact ⟨(0), (0), (a0_0), (a0_1), (a0_2), (a0_3), (by first | rfl | (simp; done) | (simp [*]; done)), (by first | rfl | (simp; done) | (simp [*]; done)), H', ⟨Nat.le_refl _⟩, ⟨by (with_reducible repeat (first | refine blk_drewN ?_ _ | refine blk_drew ?_ | refine blk_alloc ?_ _)); refine blk_far ?_ NB0_192.out _; (with_reducible repeat (first | refine blk_drewN ?_ _ | refine blk_drew ?_ | refine blk_alloc ?_ _)); refine blk_far ?_ NB0_192.out _; (with_reducible repeat (first | refine blk_drewN ?_ _ | refine blk_drew ?_ | refine blk_alloc ?_ _)); refine blk_far ?_ NB0_192.out _; (with_reducible repeat (first | refine blk_drewN ?_ _ | refine blk_drew ?_ | refine blk_alloc ?_ _)); refine blk_far ?_ NB0_192.out _; (with_reducible repeat (first | refine blk_drewN ?_ _ | refine blk_drew ?_ | refine blk_alloc ?_ _)); exact BK0.out⟩, ⟨by (with_reducible repeat (first | refine blk_drewN ?_ _ | refine blk_drew ?_ | refine blk_alloc ?_ _)); refine blk_put (cs := #[.int .i64 a0_0, .int .i64 a0_1, .int .i64 a0_2, .int .i64 0]) ?_ 3 _ rfl; (with_reducible repeat (first | refine blk_drewN ?_ _ | refine blk_drew ?_ | refine blk_alloc ?_ _)); refine blk_put (cs := #[.int .i64 a0_0, .int .i64 a0_1, .int .i64 0, .int .i64 0]) ?_ 2 _ rfl; (with_reducible repeat (first | refine blk_drewN ?_ _ | refine blk_drew ?_ | refine blk_alloc ?_ _)); refine blk_put (cs := #[.int .i64 a0_0, .int .i64 0, .int .i64 0, .int .i64 0]) ?_ 1 _ rfl; (with_reducible repeat (first | refine blk_drewN ?_ _ | refine blk_drew ?_ | refine blk_alloc ?_ _)); refine blk_put (cs := #[.int .i64 0, .int .i64 0, .int .i64 0, .int .i64 0]) ?_ 0 _ rfl; (with_reducible repeat (first | refine blk_drewN ?_ _ | refine blk_drew ?_ | refine blk_alloc ?_ _)); exact BK192.out⟩, ⟨by repeat (first | (with_reducible first | exact HB.out | apply below_alloc | apply pw_below_drewN | apply below_drew1 | refine below_set ?_ GE0.out | refine below_set ?_ GE192.out) | exact HB.out)⟩⟩
        case round =>
          clear H'
          try clear c1
          try clear p2
          try clear c4
          try clear c6
          try clear c7
          try clear c11
          try clear c14
          try clear hcz12_0
          try clear hcz12_1
          try clear hcz12_2
          try clear hcz12_3
          try clear hcz12_4
          try clear hcz15_0
          try clear hcz15_1
          try clear hcz15_2
          try clear hcz15_3
          try clear hcz6_0
          try clear hcz6_1
          try clear hcz6_2
          try clear hcz6_3
          try clear hcz6_4
          try clear hcz8_0
          try clear hcz8_1
          try clear hcz8_2
          try clear hcz8_3
          try clear hcz8_4
          try clear hcz9_0
          try clear hcz9_1
          try clear hcz9_2
          try clear hcz9_3
          try clear hcz9_4
          try clear hfz12_0
          try clear hfz12_1
          try clear hfz12_2
          try clear hfz12_3
          try clear hfz12_4
          try clear hfz15_0
          try clear hfz15_1
          try clear hfz15_2
          try clear hfz15_3
          try clear hfz6_0
          try clear hfz6_1
          try clear hfz6_2
          try clear hfz6_3
          try clear hfz6_4
          try clear hfz8_0
          try clear hfz8_1
          try clear hfz8_2
          try clear hfz8_3
          try clear hfz8_4
          try clear hfz9_0
          try clear hfz9_1
          try clear hfz9_2
          try clear hfz9_3
          try clear hfz9_4
          try clear p2
          obtain ⟨x3_2, x5_2, x193000_2, x193001_2, x193002_2, x193003_2, rfl, rfl, HA, HK2, BK0, BK192, HB⟩ := hrel
          cases gk with
          | zero => exact absurd HA.out (by simp [spec_l02Is.l0])
          | succ k2 =>
            have H := HA.out
            clear HA
            simp only [spec_l02Is.l0] at H
            by_cases c16 : x5_2 < (l0_4.length : Int)
            · rw [if_pos c16] at H
              have c16b0 : decide (x5_2 < (l0_4.length : Int)) = true := decide_eq_true c16
              clear c16
              by_cases c17 : 0 ≤ x5_2
              · rw [if_pos c17] at H
                have c17b0 : decide (0 ≤ x5_2) = true := decide_eq_true c17
                clear c17
                have HC18 := Aside0.mk H
                clear H
                have hnb19 := NB0_192.out
                have hnc19 := NB192_0.out
                have hcz20_0 : wr.cell? ⟨gB0, 0, none⟩ = some (.int .i64 a0_0) := (blk_cell BK0.out 0).trans rfl
                have hcz20_1 : wr.cell? ⟨gB0, 1, none⟩ = some (.int .i64 a0_1) := (blk_cell BK0.out 1).trans rfl
                have hcz20_2 : wr.cell? ⟨gB0, 2, none⟩ = some (.int .i64 a0_2) := (blk_cell BK0.out 2).trans rfl
                have hcz20_3 : wr.cell? ⟨gB0, 3, none⟩ = some (.int .i64 a0_3) := (blk_cell BK0.out 3).trans rfl
                have hcz20_4 : wr.cell? ⟨gB0, 4, none⟩ = some (.slice A0_4 l0_4.length c0_4) := (blk_cell BK0.out 4).trans rfl
                have hfz20_0 := blk_frozen BK0.out 0
                have hfz20_1 := blk_frozen BK0.out 1
                have hfz20_2 := blk_frozen BK0.out 2
                have hfz20_3 := blk_frozen BK0.out 3
                have hfz20_4 := blk_frozen BK0.out 4
                have p193 : 0 ≤ (x5_2 : Int) := of_decide_eq_true (by first | (with_reducible assumption) | assumption)
                have q193 : x5_2 < (l0_4.length : Int) := of_decide_eq_true (by first | (with_reducible assumption) | assumption)
                obtain ⟨ad193, e193, hx193_0, hx193_1, hx193_2⟩ := at_T116 HR0_4.out x5_2 p193 q193
                cases e193
                replace hx193_0 := (HB.out.cell (World.block_lt_of_cell? w _ hx193_0)).trans hx193_0
                replace hx193_1 := (HB.out.cell (World.block_lt_of_cell? w _ hx193_1)).trans hx193_1
                replace hx193_2 := (HB.out.cell (World.block_lt_of_cell? w _ hx193_2)).trans hx193_2
                replace p193 := eq_true p193
                replace q193 := eq_true q193
                go_upto_region 9 with (first | ((with_reducible refine gate_dst (N := 6) rfl ?_); (try (refine gate_guard (by rfl) ?_; dsimp only)); refine box_event ?hg (N := 6) ?hd (cs := #[.int .i64 0, .int .i64 0, .int .i64 0]) (t := 116) ?hr ?_; (case hd => rfl); (case hg => rfl); (case hr => first | (go_simp; done) | (go_simp; rfl)); intro gb194 hg w21 hbox hb; have n0_ := Aside0.mk (blk_below (g := gB0) (o := .cells #[.int .i64 a0_0, .int .i64 a0_1, .int .i64 a0_2, .int .i64 a0_3, .slice (some ad193) l0_4.length c0_4] 39 (0, 0)) (by (with_reducible repeat (first | refine blk_drewN ?_ _ | refine blk_drew ?_ | refine blk_alloc ?_ _)); exact BK0.out) hb); have n1_ := Aside0.mk (blk_below (g := gb192) (o := .cells #[.int .i64 x193000_2, .int .i64 x193001_2, .int .i64 x193002_2, .int .i64 x193003_2] 25 (0, 0)) (by (with_reducible repeat (first | refine blk_drewN ?_ _ | refine blk_drew ?_ | refine blk_alloc ?_ _)); exact BK192.out) hb); have n2_ := Aside0.mk (below_step (by repeat (first | (with_reducible first | exact HB.out | apply below_alloc | apply pw_below_drewN | apply below_drew1 | refine below_set ?_ GE0.out | refine below_set ?_ GE192.out) | exact HB.out)) hb); have n3_ := Aside0.mk (hbox); have n4_ := Aside0.mk ((by rw [hg]; exact (below_size (by repeat (first | (with_reducible first | exact HB.out | apply below_alloc | apply pw_below_drewN | apply below_drew1 | refine below_set ?_ GE0.out | refine below_set ?_ GE192.out) | exact HB.out))) : w.heap.size ≤ gb194)); have n5_ := Aside0.mk ((by rw [hg]; exact (below_size (by repeat (first | (with_reducible first | exact HB.out | apply below_alloc | apply pw_below_drewN | apply below_drew1 | refine below_set ?_ GE0.out | refine below_set ?_ GE192.out) | exact HB.out))) : w.heap.size ≤ gb194)); have n6_ := Aside0.mk ((by rw [hg]; exact Nat.ne_of_lt (blk_lt (g := gB0) (o := .cells #[.int .i64 a0_0, .int .i64 a0_1, .int .i64 a0_2, .int .i64 a0_3, .slice (some ad193) l0_4.length c0_4] 39 (0, 0)) (by (with_reducible repeat (first | refine blk_drewN ?_ _ | refine blk_drew ?_ | refine blk_alloc ?_ _)); exact BK0.out)) : gB0 ≠ gb194)); have n7_ := Aside0.mk ((by rw [hg]; exact Nat.ne_of_gt (blk_lt (g := gB0) (o := .cells #[.int .i64 a0_0, .int .i64 a0_1, .int .i64 a0_2, .int .i64 a0_3, .slice (some ad193) l0_4.length c0_4] 39 (0, 0)) (by (with_reducible repeat (first | refine blk_drewN ?_ _ | refine blk_drew ?_ | refine blk_alloc ?_ _)); exact BK0.out)) : gb194 ≠ gB0)); have n8_ := Aside0.mk ((by rw [hg]; exact Nat.ne_of_lt (blk_lt (g := gb192) (o := .cells #[.int .i64 x193000_2, .int .i64 x193001_2, .int .i64 x193002_2, .int .i64 x193003_2] 25 (0, 0)) (by (with_reducible repeat (first | refine blk_drewN ?_ _ | refine blk_drew ?_ | refine blk_alloc ?_ _)); exact BK192.out)) : gb192 ≠ gb194)); have n9_ := Aside0.mk ((by rw [hg]; exact Nat.ne_of_gt (blk_lt (g := gb192) (o := .cells #[.int .i64 x193000_2, .int .i64 x193001_2, .int .i64 x193002_2, .int .i64 x193003_2] 25 (0, 0)) (by (with_reducible repeat (first | refine blk_drewN ?_ _ | refine blk_drew ?_ | refine blk_alloc ?_ _)); exact BK192.out)) : gb194 ≠ gb192)); clear BK0; clear BK192; clear HB; have BK0 := n0_; have BK192 := n1_; have HB := n2_; have BK194 := n3_; have GW194 := n4_; have GE194 := n5_; have NB0_194 := n6_; have NB194_0 := n7_; have NB192_194 := n8_; have NB194_192 := n9_; clear n0_ n1_ n2_ n3_ n4_ n5_ n6_ n7_ n8_ n9_; clear hb hbox hg; have hnb22 := NB194_0.out; have hnc22 := NB0_194.out; have hnb23 := NB194_192.out; have hnc23 := NB192_194.out; have hcz24_0 : w21.cell? ⟨gb194, 0, none⟩ = some (.int .i64 0) := (blk_cell BK194.out 0).trans rfl; have hcz24_1 : w21.cell? ⟨gb194, 1, none⟩ = some (.int .i64 0) := (blk_cell BK194.out 1).trans rfl; have hcz24_2 : w21.cell? ⟨gb194, 2, none⟩ = some (.int .i64 0) := (blk_cell BK194.out 2).trans rfl; have hfz24_0 := blk_frozen BK194.out 0; have hfz24_1 := blk_frozen BK194.out 1; have hfz24_2 := blk_frozen BK194.out 2))
                (try simp only [Act.put, List.setIfInBounds_toArray, List.set_cons_zero, List.set_cons_succ])
                go_cut [56] (fun v56 wc => ∃ (kq : Nat) (x56_17 : Bool), v56 = .bool x56_17 ∧ Aside0 (spec_l02Is.j2 kq x3_2 x5_2 x56_17 a0_0 a0_1 a0_2 a0_3 l0_4 x193000_2 x193001_2 x193002_2 x193003_2 ((rd_T116 l0_4 x5_2).f0) ((rd_T116 l0_4 x5_2).f1) ((rd_T116 l0_4 x5_2).f2) = some r) ∧ Aside0 (kq ≤ k2) ∧ Aside0 (wc.heap[gB0]? = some (.cells #[.int .i64 a0_0, .int .i64 a0_1, .int .i64 a0_2, .int .i64 a0_3, (.slice (some ad193) l0_4.length c0_4)] 39 (0, 0))) ∧ Aside0 (wc.heap[gb192]? = some (.cells #[.int .i64 x193000_2, .int .i64 x193001_2, .int .i64 x193002_2, .int .i64 x193003_2] 25 (0, 0))) ∧ Aside0 (wc.heap[gb194]? = some (.cells #[.int .i64 ((rd_T116 l0_4 x5_2).f0), .int .i64 ((rd_T116 l0_4 x5_2).f1), .int .i64 ((rd_T116 l0_4 x5_2).f2)] 116 (0, 0))) ∧ Aside0 (Below w.heap.size w wc))
                case first =>
                  have H := HC18.out
                  clear HC18
                  replace H := Option.bind_eq_some_iff.mp H
                  obtain ⟨t195, A250, H⟩ := H
                  replace H : (if t195 = true then ((spec_l02Turn.f ((rd_T116 l0_4 x5_2).f1) ((rd_T116 l0_4 x5_2).f2)).bind fun t196 => (spec_l02Is.j2 k2 x3_2 x5_2 (!t196) a0_0 a0_1 a0_2 a0_3 l0_4 x193000_2 x193001_2 x193002_2 x193003_2 ((rd_T116 l0_4 x5_2).f0) ((rd_T116 l0_4 x5_2).f1) ((rd_T116 l0_4 x5_2).f2))) else (spec_l02Is.j2 k2 x3_2 x5_2 true a0_0 a0_1 a0_2 a0_3 l0_4 x193000_2 x193001_2 x193002_2 x193003_2 ((rd_T116 l0_4 x5_2).f0) ((rd_T116 l0_4 x5_2).f1) ((rd_T116 l0_4 x5_2).f2))) = some r := H
                  have A25 := Aside0.mk A250
                  clear A250
                  by_cases c26 : t195 = true
                  · subst c26
                    have H1 : ((spec_l02Turn.f ((rd_T116 l0_4 x5_2).f1) ((rd_T116 l0_4 x5_2).f2)).bind fun t196 => (spec_l02Is.j2 k2 x3_2 x5_2 (!t196) a0_0 a0_1 a0_2 a0_3 l0_4 x193000_2 x193001_2 x193002_2 x193003_2 ((rd_T116 l0_4 x5_2).f0) ((rd_T116 l0_4 x5_2).f1) ((rd_T116 l0_4 x5_2).f2))) = some r := by rw [if_pos rfl] at H; exact H
                    clear H
                    have H := H1
                    clear H1
                    replace H := Option.bind_eq_some_iff.mp H
                    obtain ⟨t196, A270, H⟩ := H
                    replace H : (spec_l02Is.j2 k2 x3_2 x5_2 (!t196) a0_0 a0_1 a0_2 a0_3 l0_4 x193000_2 x193001_2 x193002_2 x193003_2 ((rd_T116 l0_4 x5_2).f0) ((rd_T116 l0_4 x5_2).f1) ((rd_T116 l0_4 x5_2).f2)) = some r := H
                    have A27 := Aside0.mk A270
                    clear A270
                    have H' := Aside0.mk H
                    clear H
                    have hnb28 := NB194_0.out
                    have hnc28 := NB0_194.out
                    have hnb29 := NB194_192.out
                    have hnc29 := NB192_194.out
                    have hcz30_0 : w21.cell? ⟨gb194, 0, none⟩ = some (.int .i64 0) := (blk_cell BK194.out 0).trans rfl
                    have hcz30_1 : w21.cell? ⟨gb194, 1, none⟩ = some (.int .i64 0) := (blk_cell BK194.out 1).trans rfl
                    have hcz30_2 : w21.cell? ⟨gb194, 2, none⟩ = some (.int .i64 0) := (blk_cell BK194.out 2).trans rfl
                    have hfz30_0 := blk_frozen BK194.out 0
                    have hfz30_1 := blk_frozen BK194.out 1
                    have hfz30_2 := blk_frozen BK194.out 2
                    go_wp2_with (first | ((with_reducible refine gate_callee (f := 96) rfl ?_); refine goesL_ (some 47) rfl rfl Try.func96 (by kernel_rfl) rfl #[.int .i64 ((rd_T116 l0_4 x5_2).f0), .int .i64 1, .int .i64 (wrap64 (60 - x3_2))] rfl (by (try simp only [List.map_toArray, List.map_cons, List.map_nil]); first | done | rfl | (simp only [List.length_drop, List.length_take]; rfl)) ?_; (with_reducible refine (spec_l00In.calls ((rd_T116 l0_4 x5_2).f0) 1 (wrap64 (60 - x3_2)) true _ A25.out).mono ?_); rintro e w' ⟨rfl, ⟨nd, rfl⟩⟩; refine ⟨_, rfl, ?_⟩) | (go_at_call 67; (with_reducible refine (spec_l02Turn.calls ((rd_T116 l0_4 x5_2).f1) ((rd_T116 l0_4 x5_2).f2) t196 _ A27.out).mono ?_); rintro e w' ⟨rfl, ⟨nd, rfl⟩⟩))
                    go_meet
                    case rel => exact ⟨_, (!t196), (by first | rfl | (simp; done) | (simp [*]; done)), H', ⟨by have := HJ1.out; have := HK2.out; first | omega | exact Nat.le_refl _⟩, ⟨by (with_reducible repeat (first | refine blk_drewN ?_ _ | refine blk_drew ?_ | refine blk_alloc ?_ _)); refine blk_far ?_ NB0_194.out _; (with_reducible repeat (first | refine blk_drewN ?_ _ | refine blk_drew ?_ | refine blk_alloc ?_ _)); refine blk_far ?_ NB0_194.out _; (with_reducible repeat (first | refine blk_drewN ?_ _ | refine blk_drew ?_ | refine blk_alloc ?_ _)); refine blk_far ?_ NB0_194.out _; (with_reducible repeat (first | refine blk_drewN ?_ _ | refine blk_drew ?_ | refine blk_alloc ?_ _)); exact BK0.out⟩, ⟨by (with_reducible repeat (first | refine blk_drewN ?_ _ | refine blk_drew ?_ | refine blk_alloc ?_ _)); refine blk_far ?_ NB192_194.out _; (with_reducible repeat (first | refine blk_drewN ?_ _ | refine blk_drew ?_ | refine blk_alloc ?_ _)); refine blk_far ?_ NB192_194.out _; (with_reducible repeat (first | refine blk_drewN ?_ _ | refine blk_drew ?_ | refine blk_alloc ?_ _)); refine blk_far ?_ NB192_194.out _; (with_reducible repeat (first | refine blk_drewN ?_ _ | refine blk_drew ?_ | refine blk_alloc ?_ _)); exact BK192.out⟩, ⟨by (with_reducible repeat (first | refine blk_drewN ?_ _ | refine blk_drew ?_ | refine blk_alloc ?_ _)); refine blk_put (cs := #[.int .i64 ((rd_T116 l0_4 x5_2).f0), .int .i64 ((rd_T116 l0_4 x5_2).f1), .int .i64 0]) ?_ 2 _ rfl; (with_reducible repeat (first | refine blk_drewN ?_ _ | refine blk_drew ?_ | refine blk_alloc ?_ _)); refine blk_put (cs := #[.int .i64 ((rd_T116 l0_4 x5_2).f0), .int .i64 0, .int .i64 0]) ?_ 1 _ rfl; (with_reducible repeat (first | refine blk_drewN ?_ _ | refine blk_drew ?_ | refine blk_alloc ?_ _)); refine blk_put (cs := #[.int .i64 0, .int .i64 0, .int .i64 0]) ?_ 0 _ rfl; (with_reducible repeat (first | refine blk_drewN ?_ _ | refine blk_drew ?_ | refine blk_alloc ?_ _)); exact BK194.out⟩, ⟨by repeat (first | (with_reducible first | exact HB.out | apply below_alloc | apply pw_below_drewN | apply below_drew1 | refine below_set ?_ GE0.out | refine below_set ?_ GE192.out | refine below_set ?_ GE194.out) | exact HB.out)⟩⟩
                  · replace c26 := Bool.eq_false_iff.mpr c26
                    subst c26
                    have H1 : (spec_l02Is.j2 k2 x3_2 x5_2 true a0_0 a0_1 a0_2 a0_3 l0_4 x193000_2 x193001_2 x193002_2 x193003_2 ((rd_T116 l0_4 x5_2).f0) ((rd_T116 l0_4 x5_2).f1) ((rd_T116 l0_4 x5_2).f2)) = some r := by rw [if_neg (show ¬ (false = true) by decide)] at H; exact H
                    clear H
                    have H := H1
                    clear H1
                    have H' := Aside0.mk H
                    clear H
                    have hnb31 := NB194_0.out
                    have hnc31 := NB0_194.out
                    have hnb32 := NB194_192.out
                    have hnc32 := NB192_194.out
                    have hcz33_0 : w21.cell? ⟨gb194, 0, none⟩ = some (.int .i64 0) := (blk_cell BK194.out 0).trans rfl
                    have hcz33_1 : w21.cell? ⟨gb194, 1, none⟩ = some (.int .i64 0) := (blk_cell BK194.out 1).trans rfl
                    have hcz33_2 : w21.cell? ⟨gb194, 2, none⟩ = some (.int .i64 0) := (blk_cell BK194.out 2).trans rfl
                    have hfz33_0 := blk_frozen BK194.out 0
                    have hfz33_1 := blk_frozen BK194.out 1
                    have hfz33_2 := blk_frozen BK194.out 2
                    go_wp2_with (first | ((with_reducible refine gate_callee (f := 96) rfl ?_); refine goesL_ (some 47) rfl rfl Try.func96 (by kernel_rfl) rfl #[.int .i64 ((rd_T116 l0_4 x5_2).f0), .int .i64 1, .int .i64 (wrap64 (60 - x3_2))] rfl (by (try simp only [List.map_toArray, List.map_cons, List.map_nil]); first | done | rfl | (simp only [List.length_drop, List.length_take]; rfl)) ?_; (with_reducible refine (spec_l00In.calls ((rd_T116 l0_4 x5_2).f0) 1 (wrap64 (60 - x3_2)) false _ A25.out).mono ?_); rintro e w' ⟨rfl, ⟨nd, rfl⟩⟩; refine ⟨_, rfl, ?_⟩))
                    go_meet
                    case rel => exact ⟨_, (true), (by first | rfl | (simp; done) | (simp [*]; done)), H', ⟨by have := HJ1.out; have := HK2.out; first | omega | exact Nat.le_refl _⟩, ⟨by (with_reducible repeat (first | refine blk_drewN ?_ _ | refine blk_drew ?_ | refine blk_alloc ?_ _)); refine blk_far ?_ NB0_194.out _; (with_reducible repeat (first | refine blk_drewN ?_ _ | refine blk_drew ?_ | refine blk_alloc ?_ _)); refine blk_far ?_ NB0_194.out _; (with_reducible repeat (first | refine blk_drewN ?_ _ | refine blk_drew ?_ | refine blk_alloc ?_ _)); refine blk_far ?_ NB0_194.out _; (with_reducible repeat (first | refine blk_drewN ?_ _ | refine blk_drew ?_ | refine blk_alloc ?_ _)); exact BK0.out⟩, ⟨by (with_reducible repeat (first | refine blk_drewN ?_ _ | refine blk_drew ?_ | refine blk_alloc ?_ _)); refine blk_far ?_ NB192_194.out _; (with_reducible repeat (first | refine blk_drewN ?_ _ | refine blk_drew ?_ | refine blk_alloc ?_ _)); refine blk_far ?_ NB192_194.out _; (with_reducible repeat (first | refine blk_drewN ?_ _ | refine blk_drew ?_ | refine blk_alloc ?_ _)); refine blk_far ?_ NB192_194.out _; (with_reducible repeat (first | refine blk_drewN ?_ _ | refine blk_drew ?_ | refine blk_alloc ?_ _)); exact BK192.out⟩, ⟨by (with_reducible repeat (first | refine blk_drewN ?_ _ | refine blk_drew ?_ | refine blk_alloc ?_ _)); refine blk_put (cs := #[.int .i64 ((rd_T116 l0_4 x5_2).f0), .int .i64 ((rd_T116 l0_4 x5_2).f1), .int .i64 0]) ?_ 2 _ rfl; (with_reducible repeat (first | refine blk_drewN ?_ _ | refine blk_drew ?_ | refine blk_alloc ?_ _)); refine blk_put (cs := #[.int .i64 ((rd_T116 l0_4 x5_2).f0), .int .i64 0, .int .i64 0]) ?_ 1 _ rfl; (with_reducible repeat (first | refine blk_drewN ?_ _ | refine blk_drew ?_ | refine blk_alloc ?_ _)); refine blk_put (cs := #[.int .i64 0, .int .i64 0, .int .i64 0]) ?_ 0 _ rfl; (with_reducible repeat (first | refine blk_drewN ?_ _ | refine blk_drew ?_ | refine blk_alloc ?_ _)); exact BK194.out⟩, ⟨by repeat (first | (with_reducible first | exact HB.out | apply below_alloc | apply pw_below_drewN | apply below_drew1 | refine below_set ?_ GE0.out | refine below_set ?_ GE192.out | refine below_set ?_ GE194.out) | exact HB.out)⟩⟩
                case rest =>
                  clear HC18
                  try clear c1
                  try clear p1
                  try clear q1
                  try clear hx1
                  try clear c2
                  try clear p2
                  try clear c3
                  try clear c4
                  try clear c6
                  try clear p6
                  try clear c7
                  try clear c9
                  try clear c11
                  try clear c14
                  try clear c16
                  try clear c16b0
                  try clear c17
                  try clear c17b0
                  try clear c19
                  try clear p19
                  try clear q19
                  try clear hx19
                  try clear c22
                  try clear c23
                  try clear c26
                  try clear c28
                  try clear c29
                  try clear c31
                  try clear c32
                  try clear hcz12_0
                  try clear hcz12_1
                  try clear hcz12_2
                  try clear hcz12_3
                  try clear hcz12_4
                  try clear hcz15_0
                  try clear hcz15_1
                  try clear hcz15_2
                  try clear hcz15_3
                  try clear hcz20_0
                  try clear hcz20_1
                  try clear hcz20_2
                  try clear hcz20_3
                  try clear hcz20_4
                  try clear hcz24_0
                  try clear hcz24_1
                  try clear hcz24_2
                  try clear hcz30_0
                  try clear hcz30_1
                  try clear hcz30_2
                  try clear hcz33_0
                  try clear hcz33_1
                  try clear hcz33_2
                  try clear hcz6_0
                  try clear hcz6_1
                  try clear hcz6_2
                  try clear hcz6_3
                  try clear hcz6_4
                  try clear hcz8_0
                  try clear hcz8_1
                  try clear hcz8_2
                  try clear hcz8_3
                  try clear hcz8_4
                  try clear hcz9_0
                  try clear hcz9_1
                  try clear hcz9_2
                  try clear hcz9_3
                  try clear hcz9_4
                  try clear hfz12_0
                  try clear hfz12_1
                  try clear hfz12_2
                  try clear hfz12_3
                  try clear hfz12_4
                  try clear hfz15_0
                  try clear hfz15_1
                  try clear hfz15_2
                  try clear hfz15_3
                  try clear hfz20_0
                  try clear hfz20_1
                  try clear hfz20_2
                  try clear hfz20_3
                  try clear hfz20_4
                  try clear hfz24_0
                  try clear hfz24_1
                  try clear hfz24_2
                  try clear hfz30_0
                  try clear hfz30_1
                  try clear hfz30_2
                  try clear hfz33_0
                  try clear hfz33_1
                  try clear hfz33_2
                  try clear hfz6_0
                  try clear hfz6_1
                  try clear hfz6_2
                  try clear hfz6_3
                  try clear hfz6_4
                  try clear hfz8_0
                  try clear hfz8_1
                  try clear hfz8_2
                  try clear hfz8_3
                  try clear hfz8_4
                  try clear hfz9_0
                  try clear hfz9_1
                  try clear hfz9_2
                  try clear hfz9_3
                  try clear hfz9_4
                  try clear hx193_0
                  try clear hx193_1
                  try clear hx193_2
                  try clear p193
                  try clear p2
                  try clear q193
                  obtain ⟨kq, x56_17, rfl, HA, HJ17, BK0, BK192, BK194, HB⟩ := hcut
                  cases kq with
                  | zero => exact absurd HA.out (by simp [spec_l02Is.j2])
                  | succ kj17 =>
                    have H := HA.out
                    clear HA
                    simp only [spec_l02Is.j2] at H
                    by_cases c34 : x56_17 = true
                    · subst c34
                      have H1 : (some false) = some r := by rw [if_pos rfl] at H; exact H
                      clear H
                      have H := H1
                      clear H1
                      obtain rfl := Option.some.inj H
                      go_wp2
                      go_ret
                      exact ⟨by first | rfl | (simp [errW_none, errW_some] <;> rfl) | (simp [*, errW_none, errW_some] <;> rfl), by repeat (first | (with_reducible first | exact HB.out | apply below_alloc | apply pw_below_drewN | apply below_drew1 | refine below_set ?_ GE0.out | refine below_set ?_ GE192.out | refine below_set ?_ GE194.out) | exact HB.out)⟩
                    · replace c34 := Bool.eq_false_iff.mpr c34
                      subst c34
                      have H1 : (spec_l02Is.l1 kj17 (wrap64 (x3_2 + ((rd_T116 l0_4 x5_2).f0))) x5_2 0 a0_0 a0_1 a0_2 a0_3 l0_4 x193000_2 x193001_2 x193002_2 x193003_2 ((rd_T116 l0_4 x5_2).f0) ((rd_T116 l0_4 x5_2).f1) ((rd_T116 l0_4 x5_2).f2)) = some r := by rw [if_neg (show ¬ (false = true) by decide)] at H; exact H
                      clear H
                      have H := H1
                      clear H1
                      have H' := Aside0.mk H
                      clear H
                      have hnb35 := NB194_0.out
                      have hnc35 := NB0_194.out
                      have hnb36 := NB194_192.out
                      have hnc36 := NB192_194.out
                      have hcz37_0 : wc.cell? ⟨gb194, 0, none⟩ = some (.int .i64 ((rd_T116 l0_4 x5_2).f0)) := (blk_cell BK194.out 0).trans rfl
                      have hcz37_1 : wc.cell? ⟨gb194, 1, none⟩ = some (.int .i64 ((rd_T116 l0_4 x5_2).f1)) := (blk_cell BK194.out 1).trans rfl
                      have hcz37_2 : wc.cell? ⟨gb194, 2, none⟩ = some (.int .i64 ((rd_T116 l0_4 x5_2).f2)) := (blk_cell BK194.out 2).trans rfl
                      have hfz37_0 := blk_frozen BK194.out 0
                      have hfz37_1 := blk_frozen BK194.out 1
                      have hfz37_2 := blk_frozen BK194.out 2
                      go_wp2
                      go_loopg [7] kj17 (fun kq v7 w' => ∃ (x7_4 : Int) (x193000_4 : Int) (x193001_4 : Int) (x193002_4 : Int) (x193003_4 : Int), v7 = .int .i64 x7_4 ∧ Aside0 (spec_l02Is.l1 kq (wrap64 (x3_2 + ((rd_T116 l0_4 x5_2).f0))) x5_2 x7_4 a0_0 a0_1 a0_2 a0_3 l0_4 x193000_4 x193001_4 x193002_4 x193003_4 ((rd_T116 l0_4 x5_2).f0) ((rd_T116 l0_4 x5_2).f1) ((rd_T116 l0_4 x5_2).f2) = some r) ∧ Aside0 (kq ≤ kj17) ∧ Aside0 (w'.heap[gB0]? = some (.cells #[.int .i64 a0_0, .int .i64 a0_1, .int .i64 a0_2, .int .i64 a0_3, (.slice (some ad193) l0_4.length c0_4)] 39 (0, 0))) ∧ Aside0 (w'.heap[gb192]? = some (.cells #[.int .i64 x193000_4, .int .i64 x193001_4, .int .i64 x193002_4, .int .i64 x193003_4] 25 (0, 0))) ∧ Aside0 (w'.heap[gb194]? = some (.cells #[.int .i64 ((rd_T116 l0_4 x5_2).f0), .int .i64 ((rd_T116 l0_4 x5_2).f1), .int .i64 ((rd_T116 l0_4 x5_2).f2)] 116 (0, 0))) ∧ Aside0 (Below w.heap.size w w'))
                      case atStart => exact ⟨(0), (x193000_2), (x193001_2), (x193002_2), (x193003_2), (by first | rfl | (simp; done) | (simp [*]; done)), H', ⟨Nat.le_refl _⟩, ⟨by (with_reducible repeat (first | refine blk_drewN ?_ _ | refine blk_drew ?_ | refine blk_alloc ?_ _)); exact BK0.out⟩, ⟨by (with_reducible repeat (first | refine blk_drewN ?_ _ | refine blk_drew ?_ | refine blk_alloc ?_ _)); exact BK192.out⟩, ⟨by (with_reducible repeat (first | refine blk_drewN ?_ _ | refine blk_drew ?_ | refine blk_alloc ?_ _)); exact BK194.out⟩, ⟨by repeat (first | (with_reducible first | exact HB.out | apply below_alloc | apply pw_below_drewN | apply below_drew1 | refine below_set ?_ GE0.out | refine below_set ?_ GE192.out | refine below_set ?_ GE194.out) | exact HB.out)⟩⟩
                      case round =>
                        clear H'
                        try clear c1
                        try clear p1
                        try clear q1
                        try clear hx1
                        try clear c2
                        try clear p2
                        try clear c3
                        try clear c4
                        try clear c6
                        try clear p6
                        try clear c7
                        try clear c9
                        try clear c11
                        try clear c14
                        try clear c16
                        try clear c16b0
                        try clear c17
                        try clear c17b0
                        try clear c19
                        try clear p19
                        try clear q19
                        try clear hx19
                        try clear c22
                        try clear c23
                        try clear c26
                        try clear c28
                        try clear c29
                        try clear c31
                        try clear c32
                        try clear c34
                        try clear c35
                        try clear c36
                        try clear hcz12_0
                        try clear hcz12_1
                        try clear hcz12_2
                        try clear hcz12_3
                        try clear hcz12_4
                        try clear hcz15_0
                        try clear hcz15_1
                        try clear hcz15_2
                        try clear hcz15_3
                        try clear hcz20_0
                        try clear hcz20_1
                        try clear hcz20_2
                        try clear hcz20_3
                        try clear hcz20_4
                        try clear hcz24_0
                        try clear hcz24_1
                        try clear hcz24_2
                        try clear hcz30_0
                        try clear hcz30_1
                        try clear hcz30_2
                        try clear hcz33_0
                        try clear hcz33_1
                        try clear hcz33_2
                        try clear hcz37_0
                        try clear hcz37_1
                        try clear hcz37_2
                        try clear hcz6_0
                        try clear hcz6_1
                        try clear hcz6_2
                        try clear hcz6_3
                        try clear hcz6_4
                        try clear hcz8_0
                        try clear hcz8_1
                        try clear hcz8_2
                        try clear hcz8_3
                        try clear hcz8_4
                        try clear hcz9_0
                        try clear hcz9_1
                        try clear hcz9_2
                        try clear hcz9_3
                        try clear hcz9_4
                        try clear hfz12_0
                        try clear hfz12_1
                        try clear hfz12_2
                        try clear hfz12_3
                        try clear hfz12_4
                        try clear hfz15_0
                        try clear hfz15_1
                        try clear hfz15_2
                        try clear hfz15_3
                        try clear hfz20_0
                        try clear hfz20_1
                        try clear hfz20_2
                        try clear hfz20_3
                        try clear hfz20_4
                        try clear hfz24_0
                        try clear hfz24_1
                        try clear hfz24_2
                        try clear hfz30_0
                        try clear hfz30_1
                        try clear hfz30_2
                        try clear hfz33_0
                        try clear hfz33_1
                        try clear hfz33_2
                        try clear hfz37_0
                        try clear hfz37_1
                        try clear hfz37_2
                        try clear hfz6_0
                        try clear hfz6_1
                        try clear hfz6_2
                        try clear hfz6_3
                        try clear hfz6_4
                        try clear hfz8_0
                        try clear hfz8_1
                        try clear hfz8_2
                        try clear hfz8_3
                        try clear hfz8_4
                        try clear hfz9_0
                        try clear hfz9_1
                        try clear hfz9_2
                        try clear hfz9_3
                        try clear hfz9_4
                        try clear hx193_0
                        try clear hx193_1
                        try clear hx193_2
                        try clear p1
                        try clear p19
                        try clear p193
                        try clear p2
                        try clear p6
                        try clear q1
                        try clear q19
                        try clear q193
                        obtain ⟨x7_4, x193000_4, x193001_4, x193002_4, x193003_4, rfl, HA, HK4, BK0, BK192, BK194, HB⟩ := hrel
                        cases gk with
                        | zero => exact absurd HA.out (by simp [spec_l02Is.l1])
                        | succ k4 =>
                          have H := HA.out
                          clear HA
                          simp only [spec_l02Is.l1] at H
                          by_cases c38 : x7_4 < ((rd_T116 l0_4 x5_2).f0)
                          · rw [if_pos c38] at H
                            have c38b0 : decide (x7_4 < ((rd_T116 l0_4 x5_2).f0)) = true := decide_eq_true c38
                            clear c38
                            replace H := Option.bind_eq_some_iff.mp H
                            obtain ⟨⟨t197, t198, t199, t200⟩, A390, H⟩ := H
                            replace H : ((spec_l02Pose.f t197 t198 t199 t200).bind fun t201 => (if t201 = true then (spec_l02Is.l1 k4 (wrap64 (x3_2 + ((rd_T116 l0_4 x5_2).f0))) x5_2 (wrap64 (x7_4 + 1)) a0_0 a0_1 a0_2 a0_3 l0_4 t197 t198 t199 t200 ((rd_T116 l0_4 x5_2).f0) ((rd_T116 l0_4 x5_2).f1) ((rd_T116 l0_4 x5_2).f2)) else (some false))) = some r := H
                            have A39 := Aside0.mk A390
                            clear A390
                            replace H := Option.bind_eq_some_iff.mp H
                            obtain ⟨t201, A400, H⟩ := H
                            replace H : (if t201 = true then (spec_l02Is.l1 k4 (wrap64 (x3_2 + ((rd_T116 l0_4 x5_2).f0))) x5_2 (wrap64 (x7_4 + 1)) a0_0 a0_1 a0_2 a0_3 l0_4 t197 t198 t199 t200 ((rd_T116 l0_4 x5_2).f0) ((rd_T116 l0_4 x5_2).f1) ((rd_T116 l0_4 x5_2).f2)) else (some false)) = some r := H
                            have A40 := Aside0.mk A400
                            clear A400
                            by_cases c41 : t201 = true
                            · subst c41
                              have H1 : (spec_l02Is.l1 k4 (wrap64 (x3_2 + ((rd_T116 l0_4 x5_2).f0))) x5_2 (wrap64 (x7_4 + 1)) a0_0 a0_1 a0_2 a0_3 l0_4 t197 t198 t199 t200 ((rd_T116 l0_4 x5_2).f0) ((rd_T116 l0_4 x5_2).f1) ((rd_T116 l0_4 x5_2).f2)) = some r := by rw [if_pos rfl] at H; exact H
                              clear H
                              have H := H1
                              clear H1
                              have H' := Aside0.mk H
                              clear H
                              have hnb42 := NB194_0.out
                              have hnc42 := NB0_194.out
                              have hnb43 := NB194_192.out
                              have hnc43 := NB192_194.out
                              have hcz44_0 : wr.cell? ⟨gb194, 0, none⟩ = some (.int .i64 ((rd_T116 l0_4 x5_2).f0)) := (blk_cell BK194.out 0).trans rfl
                              have hcz44_1 : wr.cell? ⟨gb194, 1, none⟩ = some (.int .i64 ((rd_T116 l0_4 x5_2).f1)) := (blk_cell BK194.out 1).trans rfl
                              have hcz44_2 : wr.cell? ⟨gb194, 2, none⟩ = some (.int .i64 ((rd_T116 l0_4 x5_2).f2)) := (blk_cell BK194.out 2).trans rfl
                              have hfz44_0 := blk_frozen BK194.out 0
                              have hfz44_1 := blk_frozen BK194.out 1
                              have hfz44_2 := blk_frozen BK194.out 2
                              have hnb45 := NB192_0.out
                              have hnc45 := NB0_192.out
                              have hcz46_0 : wr.cell? ⟨gb192, 0, none⟩ = some (.int .i64 x193000_4) := (blk_cell BK192.out 0).trans rfl
                              have hcz46_1 : wr.cell? ⟨gb192, 1, none⟩ = some (.int .i64 x193001_4) := (blk_cell BK192.out 1).trans rfl
                              have hcz46_2 : wr.cell? ⟨gb192, 2, none⟩ = some (.int .i64 x193002_4) := (blk_cell BK192.out 2).trans rfl
                              have hcz46_3 : wr.cell? ⟨gb192, 3, none⟩ = some (.int .i64 x193003_4) := (blk_cell BK192.out 3).trans rfl
                              have hfz46_0 := blk_frozen BK192.out 0
                              have hfz46_1 := blk_frozen BK192.out 1
                              have hfz46_2 := blk_frozen BK192.out 2
                              have hfz46_3 := blk_frozen BK192.out 3
                              go_wp2_with (first | ((with_reducible refine gate_callee (f := 68) rfl ?_); refine goesL_ (some 72) rfl rfl Try.func68 (by kernel_rfl) rfl #[.agg #[.int .i64 x193000_4, .int .i64 x193001_4, .int .i64 x193002_4, .int .i64 x193003_4], .int .i64 ((rd_T116 l0_4 x5_2).f1), .int .i64 ((rd_T116 l0_4 x5_2).f2)] rfl (by (try simp only [List.map_toArray, List.map_cons, List.map_nil]); first | done | rfl | (simp only [List.length_drop, List.length_take]; rfl)) ?_; (with_reducible refine (spec_l02Next.calls x193000_4 x193001_4 x193002_4 x193003_4 ((rd_T116 l0_4 x5_2).f1) ((rd_T116 l0_4 x5_2).f2) t197 t198 t199 t200 _ A39.out).mono ?_); rintro e w47 ⟨rfl, hb⟩; refine ⟨_, rfl, ?_⟩; have n0_ := Aside0.mk (blk_below (g := gB0) (o := .cells #[.int .i64 a0_0, .int .i64 a0_1, .int .i64 a0_2, .int .i64 a0_3, .slice (some ad193) l0_4.length c0_4] 39 (0, 0)) (by (with_reducible repeat (first | refine blk_drewN ?_ _ | refine blk_drew ?_ | refine blk_alloc ?_ _)); exact BK0.out) hb); have n1_ := Aside0.mk (blk_below (g := gb192) (o := .cells #[.int .i64 x193000_4, .int .i64 x193001_4, .int .i64 x193002_4, .int .i64 x193003_4] 25 (0, 0)) (by (with_reducible repeat (first | refine blk_drewN ?_ _ | refine blk_drew ?_ | refine blk_alloc ?_ _)); exact BK192.out) hb); have n2_ := Aside0.mk (blk_below (g := gb194) (o := .cells #[.int .i64 ((rd_T116 l0_4 x5_2).f0), .int .i64 ((rd_T116 l0_4 x5_2).f1), .int .i64 ((rd_T116 l0_4 x5_2).f2)] 116 (0, 0)) (by (with_reducible repeat (first | refine blk_drewN ?_ _ | refine blk_drew ?_ | refine blk_alloc ?_ _)); exact BK194.out) hb); have n3_ := Aside0.mk (below_step (by repeat (first | (with_reducible first | exact HB.out | apply below_alloc | apply pw_below_drewN | apply below_drew1 | refine below_set ?_ GE0.out | refine below_set ?_ GE192.out | refine below_set ?_ GE194.out) | exact HB.out)) hb); clear BK0; clear BK192; clear BK194; clear HB; have BK0 := n0_; have BK192 := n1_; have BK194 := n2_; have HB := n3_; clear n0_ n1_ n2_ n3_; (try clear hb); (try clear hb2); (try clear hk); (try clear hi); have hcz48_0 : w47.cell? ⟨gb192, 0, none⟩ = some (.int .i64 x193000_4) := (blk_cell BK192.out 0).trans rfl; have hcz48_1 : w47.cell? ⟨gb192, 1, none⟩ = some (.int .i64 x193001_4) := (blk_cell BK192.out 1).trans rfl; have hcz48_2 : w47.cell? ⟨gb192, 2, none⟩ = some (.int .i64 x193002_4) := (blk_cell BK192.out 2).trans rfl; have hcz48_3 : w47.cell? ⟨gb192, 3, none⟩ = some (.int .i64 x193003_4) := (blk_cell BK192.out 3).trans rfl; have hfz48_0 := blk_frozen BK192.out 0; have hfz48_1 := blk_frozen BK192.out 1; have hfz48_2 := blk_frozen BK192.out 2; have hfz48_3 := blk_frozen BK192.out 3) | ((with_reducible refine gate_callee (f := 65) rfl ?_); refine goesL_ (some 74) rfl rfl Try.func65 (by kernel_rfl) rfl #[.agg #[.int .i64 t197, .int .i64 t198, .int .i64 t199, .int .i64 t200]] rfl (by (try simp only [List.map_toArray, List.map_cons, List.map_nil]); first | done | rfl | (simp only [List.length_drop, List.length_take]; rfl)) ?_; (with_reducible refine (spec_l02Pose.calls t197 t198 t199 t200 true _ A40.out).mono ?_); rintro e w49 ⟨rfl, hb⟩; refine ⟨_, rfl, ?_⟩; have n0_ := Aside0.mk (blk_below (g := gB0) (o := .cells #[.int .i64 a0_0, .int .i64 a0_1, .int .i64 a0_2, .int .i64 a0_3, .slice (some ad193) l0_4.length c0_4] 39 (0, 0)) (by (with_reducible repeat (first | refine blk_drewN ?_ _ | refine blk_drew ?_ | refine blk_alloc ?_ _)); refine blk_far ?_ NB0_192.out _; (with_reducible repeat (first | refine blk_drewN ?_ _ | refine blk_drew ?_ | refine blk_alloc ?_ _)); refine blk_far ?_ NB0_192.out _; (with_reducible repeat (first | refine blk_drewN ?_ _ | refine blk_drew ?_ | refine blk_alloc ?_ _)); refine blk_far ?_ NB0_192.out _; (with_reducible repeat (first | refine blk_drewN ?_ _ | refine blk_drew ?_ | refine blk_alloc ?_ _)); refine blk_far ?_ NB0_192.out _; (with_reducible repeat (first | refine blk_drewN ?_ _ | refine blk_drew ?_ | refine blk_alloc ?_ _)); exact BK0.out) hb); have n1_ := Aside0.mk (blk_below (g := gb192) (o := .cells #[.int .i64 t197, .int .i64 t198, .int .i64 t199, .int .i64 t200] 25 (0, 0)) (by (with_reducible repeat (first | refine blk_drewN ?_ _ | refine blk_drew ?_ | refine blk_alloc ?_ _)); refine blk_put (cs := #[.int .i64 t197, .int .i64 t198, .int .i64 t199, .int .i64 x193003_4]) ?_ 3 _ rfl; (with_reducible repeat (first | refine blk_drewN ?_ _ | refine blk_drew ?_ | refine blk_alloc ?_ _)); refine blk_put (cs := #[.int .i64 t197, .int .i64 t198, .int .i64 x193002_4, .int .i64 x193003_4]) ?_ 2 _ rfl; (with_reducible repeat (first | refine blk_drewN ?_ _ | refine blk_drew ?_ | refine blk_alloc ?_ _)); refine blk_put (cs := #[.int .i64 t197, .int .i64 x193001_4, .int .i64 x193002_4, .int .i64 x193003_4]) ?_ 1 _ rfl; (with_reducible repeat (first | refine blk_drewN ?_ _ | refine blk_drew ?_ | refine blk_alloc ?_ _)); refine blk_put (cs := #[.int .i64 x193000_4, .int .i64 x193001_4, .int .i64 x193002_4, .int .i64 x193003_4]) ?_ 0 _ rfl; (with_reducible repeat (first | refine blk_drewN ?_ _ | refine blk_drew ?_ | refine blk_alloc ?_ _)); exact BK192.out) hb); have n2_ := Aside0.mk (blk_below (g := gb194) (o := .cells #[.int .i64 ((rd_T116 l0_4 x5_2).f0), .int .i64 ((rd_T116 l0_4 x5_2).f1), .int .i64 ((rd_T116 l0_4 x5_2).f2)] 116 (0, 0)) (by (with_reducible repeat (first | refine blk_drewN ?_ _ | refine blk_drew ?_ | refine blk_alloc ?_ _)); refine blk_far ?_ NB194_192.out _; (with_reducible repeat (first | refine blk_drewN ?_ _ | refine blk_drew ?_ | refine blk_alloc ?_ _)); refine blk_far ?_ NB194_192.out _; (with_reducible repeat (first | refine blk_drewN ?_ _ | refine blk_drew ?_ | refine blk_alloc ?_ _)); refine blk_far ?_ NB194_192.out _; (with_reducible repeat (first | refine blk_drewN ?_ _ | refine blk_drew ?_ | refine blk_alloc ?_ _)); refine blk_far ?_ NB194_192.out _; (with_reducible repeat (first | refine blk_drewN ?_ _ | refine blk_drew ?_ | refine blk_alloc ?_ _)); exact BK194.out) hb); have n3_ := Aside0.mk (below_step (by repeat (first | (with_reducible first | exact HB.out | apply below_alloc | apply pw_below_drewN | apply below_drew1 | refine below_set ?_ GE0.out | refine below_set ?_ GE192.out | refine below_set ?_ GE194.out) | exact HB.out)) hb); clear BK0; clear BK192; clear BK194; clear HB; have BK0 := n0_; have BK192 := n1_; have BK194 := n2_; have HB := n3_; clear n0_ n1_ n2_ n3_; (try clear hb); (try clear hb2); (try clear hk); (try clear hi)))
                              go_roundg k4
                              case measure => have := HJ1.out; have := HK2.out; have := HJ17.out; have := HK4.out; omega
                              case rel => exact ⟨(wrap64 (x7_4 + 1)), (t197), (t198), (t199), (t200), (by first | rfl | (simp; done) | (simp [*]; done)), H', ⟨by have := HJ1.out; have := HK2.out; have := HJ17.out; have := HK4.out; omega⟩, ⟨by (with_reducible repeat (first | refine blk_drewN ?_ _ | refine blk_drew ?_ | refine blk_alloc ?_ _)); exact BK0.out⟩, ⟨by (with_reducible repeat (first | refine blk_drewN ?_ _ | refine blk_drew ?_ | refine blk_alloc ?_ _)); exact BK192.out⟩, ⟨by (with_reducible repeat (first | refine blk_drewN ?_ _ | refine blk_drew ?_ | refine blk_alloc ?_ _)); exact BK194.out⟩, ⟨by repeat (first | (with_reducible first | exact HB.out | apply below_alloc | apply pw_below_drewN | apply below_drew1 | refine below_set ?_ GE0.out | refine below_set ?_ GE192.out | refine below_set ?_ GE194.out) | exact HB.out)⟩⟩
                            · replace c41 := Bool.eq_false_iff.mpr c41
                              subst c41
                              have H1 : (some false) = some r := by rw [if_neg (show ¬ (false = true) by decide)] at H; exact H
                              clear H
                              have H := H1
                              clear H1
                              obtain rfl := Option.some.inj H
                              have hnb50 := NB194_0.out
                              have hnc50 := NB0_194.out
                              have hnb51 := NB194_192.out
                              have hnc51 := NB192_194.out
                              have hcz52_0 : wr.cell? ⟨gb194, 0, none⟩ = some (.int .i64 ((rd_T116 l0_4 x5_2).f0)) := (blk_cell BK194.out 0).trans rfl
                              have hcz52_1 : wr.cell? ⟨gb194, 1, none⟩ = some (.int .i64 ((rd_T116 l0_4 x5_2).f1)) := (blk_cell BK194.out 1).trans rfl
                              have hcz52_2 : wr.cell? ⟨gb194, 2, none⟩ = some (.int .i64 ((rd_T116 l0_4 x5_2).f2)) := (blk_cell BK194.out 2).trans rfl
                              have hfz52_0 := blk_frozen BK194.out 0
                              have hfz52_1 := blk_frozen BK194.out 1
                              have hfz52_2 := blk_frozen BK194.out 2
                              have hnb53 := NB192_0.out
                              have hnc53 := NB0_192.out
                              have hcz54_0 : wr.cell? ⟨gb192, 0, none⟩ = some (.int .i64 x193000_4) := (blk_cell BK192.out 0).trans rfl
                              have hcz54_1 : wr.cell? ⟨gb192, 1, none⟩ = some (.int .i64 x193001_4) := (blk_cell BK192.out 1).trans rfl
                              have hcz54_2 : wr.cell? ⟨gb192, 2, none⟩ = some (.int .i64 x193002_4) := (blk_cell BK192.out 2).trans rfl
                              have hcz54_3 : wr.cell? ⟨gb192, 3, none⟩ = some (.int .i64 x193003_4) := (blk_cell BK192.out 3).trans rfl
                              have hfz54_0 := blk_frozen BK192.out 0
                              have hfz54_1 := blk_frozen BK192.out 1
                              have hfz54_2 := blk_frozen BK192.out 2
                              have hfz54_3 := blk_frozen BK192.out 3
                              go_wp2_with (first | ((with_reducible refine gate_callee (f := 68) rfl ?_); refine goesL_ (some 72) rfl rfl Try.func68 (by kernel_rfl) rfl #[.agg #[.int .i64 x193000_4, .int .i64 x193001_4, .int .i64 x193002_4, .int .i64 x193003_4], .int .i64 ((rd_T116 l0_4 x5_2).f1), .int .i64 ((rd_T116 l0_4 x5_2).f2)] rfl (by (try simp only [List.map_toArray, List.map_cons, List.map_nil]); first | done | rfl | (simp only [List.length_drop, List.length_take]; rfl)) ?_; (with_reducible refine (spec_l02Next.calls x193000_4 x193001_4 x193002_4 x193003_4 ((rd_T116 l0_4 x5_2).f1) ((rd_T116 l0_4 x5_2).f2) t197 t198 t199 t200 _ A39.out).mono ?_); rintro e w55 ⟨rfl, hb⟩; refine ⟨_, rfl, ?_⟩; have n0_ := Aside0.mk (blk_below (g := gB0) (o := .cells #[.int .i64 a0_0, .int .i64 a0_1, .int .i64 a0_2, .int .i64 a0_3, .slice (some ad193) l0_4.length c0_4] 39 (0, 0)) (by (with_reducible repeat (first | refine blk_drewN ?_ _ | refine blk_drew ?_ | refine blk_alloc ?_ _)); exact BK0.out) hb); have n1_ := Aside0.mk (blk_below (g := gb192) (o := .cells #[.int .i64 x193000_4, .int .i64 x193001_4, .int .i64 x193002_4, .int .i64 x193003_4] 25 (0, 0)) (by (with_reducible repeat (first | refine blk_drewN ?_ _ | refine blk_drew ?_ | refine blk_alloc ?_ _)); exact BK192.out) hb); have n2_ := Aside0.mk (blk_below (g := gb194) (o := .cells #[.int .i64 ((rd_T116 l0_4 x5_2).f0), .int .i64 ((rd_T116 l0_4 x5_2).f1), .int .i64 ((rd_T116 l0_4 x5_2).f2)] 116 (0, 0)) (by (with_reducible repeat (first | refine blk_drewN ?_ _ | refine blk_drew ?_ | refine blk_alloc ?_ _)); exact BK194.out) hb); have n3_ := Aside0.mk (below_step (by repeat (first | (with_reducible first | exact HB.out | apply below_alloc | apply pw_below_drewN | apply below_drew1 | refine below_set ?_ GE0.out | refine below_set ?_ GE192.out | refine below_set ?_ GE194.out) | exact HB.out)) hb); clear BK0; clear BK192; clear BK194; clear HB; have BK0 := n0_; have BK192 := n1_; have BK194 := n2_; have HB := n3_; clear n0_ n1_ n2_ n3_; (try clear hb); (try clear hb2); (try clear hk); (try clear hi); have hcz56_0 : w55.cell? ⟨gb192, 0, none⟩ = some (.int .i64 x193000_4) := (blk_cell BK192.out 0).trans rfl; have hcz56_1 : w55.cell? ⟨gb192, 1, none⟩ = some (.int .i64 x193001_4) := (blk_cell BK192.out 1).trans rfl; have hcz56_2 : w55.cell? ⟨gb192, 2, none⟩ = some (.int .i64 x193002_4) := (blk_cell BK192.out 2).trans rfl; have hcz56_3 : w55.cell? ⟨gb192, 3, none⟩ = some (.int .i64 x193003_4) := (blk_cell BK192.out 3).trans rfl; have hfz56_0 := blk_frozen BK192.out 0; have hfz56_1 := blk_frozen BK192.out 1; have hfz56_2 := blk_frozen BK192.out 2; have hfz56_3 := blk_frozen BK192.out 3) | ((with_reducible refine gate_callee (f := 65) rfl ?_); refine goesL_ (some 74) rfl rfl Try.func65 (by kernel_rfl) rfl #[.agg #[.int .i64 t197, .int .i64 t198, .int .i64 t199, .int .i64 t200]] rfl (by (try simp only [List.map_toArray, List.map_cons, List.map_nil]); first | done | rfl | (simp only [List.length_drop, List.length_take]; rfl)) ?_; (with_reducible refine (spec_l02Pose.calls t197 t198 t199 t200 false _ A40.out).mono ?_); rintro e w57 ⟨rfl, hb⟩; refine ⟨_, rfl, ?_⟩; have n0_ := Aside0.mk (blk_below (g := gB0) (o := .cells #[.int .i64 a0_0, .int .i64 a0_1, .int .i64 a0_2, .int .i64 a0_3, .slice (some ad193) l0_4.length c0_4] 39 (0, 0)) (by (with_reducible repeat (first | refine blk_drewN ?_ _ | refine blk_drew ?_ | refine blk_alloc ?_ _)); refine blk_far ?_ NB0_192.out _; (with_reducible repeat (first | refine blk_drewN ?_ _ | refine blk_drew ?_ | refine blk_alloc ?_ _)); refine blk_far ?_ NB0_192.out _; (with_reducible repeat (first | refine blk_drewN ?_ _ | refine blk_drew ?_ | refine blk_alloc ?_ _)); refine blk_far ?_ NB0_192.out _; (with_reducible repeat (first | refine blk_drewN ?_ _ | refine blk_drew ?_ | refine blk_alloc ?_ _)); refine blk_far ?_ NB0_192.out _; (with_reducible repeat (first | refine blk_drewN ?_ _ | refine blk_drew ?_ | refine blk_alloc ?_ _)); exact BK0.out) hb); have n1_ := Aside0.mk (blk_below (g := gb192) (o := .cells #[.int .i64 t197, .int .i64 t198, .int .i64 t199, .int .i64 t200] 25 (0, 0)) (by (with_reducible repeat (first | refine blk_drewN ?_ _ | refine blk_drew ?_ | refine blk_alloc ?_ _)); refine blk_put (cs := #[.int .i64 t197, .int .i64 t198, .int .i64 t199, .int .i64 x193003_4]) ?_ 3 _ rfl; (with_reducible repeat (first | refine blk_drewN ?_ _ | refine blk_drew ?_ | refine blk_alloc ?_ _)); refine blk_put (cs := #[.int .i64 t197, .int .i64 t198, .int .i64 x193002_4, .int .i64 x193003_4]) ?_ 2 _ rfl; (with_reducible repeat (first | refine blk_drewN ?_ _ | refine blk_drew ?_ | refine blk_alloc ?_ _)); refine blk_put (cs := #[.int .i64 t197, .int .i64 x193001_4, .int .i64 x193002_4, .int .i64 x193003_4]) ?_ 1 _ rfl; (with_reducible repeat (first | refine blk_drewN ?_ _ | refine blk_drew ?_ | refine blk_alloc ?_ _)); refine blk_put (cs := #[.int .i64 x193000_4, .int .i64 x193001_4, .int .i64 x193002_4, .int .i64 x193003_4]) ?_ 0 _ rfl; (with_reducible repeat (first | refine blk_drewN ?_ _ | refine blk_drew ?_ | refine blk_alloc ?_ _)); exact BK192.out) hb); have n2_ := Aside0.mk (blk_below (g := gb194) (o := .cells #[.int .i64 ((rd_T116 l0_4 x5_2).f0), .int .i64 ((rd_T116 l0_4 x5_2).f1), .int .i64 ((rd_T116 l0_4 x5_2).f2)] 116 (0, 0)) (by (with_reducible repeat (first | refine blk_drewN ?_ _ | refine blk_drew ?_ | refine blk_alloc ?_ _)); refine blk_far ?_ NB194_192.out _; (with_reducible repeat (first | refine blk_drewN ?_ _ | refine blk_drew ?_ | refine blk_alloc ?_ _)); refine blk_far ?_ NB194_192.out _; (with_reducible repeat (first | refine blk_drewN ?_ _ | refine blk_drew ?_ | refine blk_alloc ?_ _)); refine blk_far ?_ NB194_192.out _; (with_reducible repeat (first | refine blk_drewN ?_ _ | refine blk_drew ?_ | refine blk_alloc ?_ _)); refine blk_far ?_ NB194_192.out _; (with_reducible repeat (first | refine blk_drewN ?_ _ | refine blk_drew ?_ | refine blk_alloc ?_ _)); exact BK194.out) hb); have n3_ := Aside0.mk (below_step (by repeat (first | (with_reducible first | exact HB.out | apply below_alloc | apply pw_below_drewN | apply below_drew1 | refine below_set ?_ GE0.out | refine below_set ?_ GE192.out | refine below_set ?_ GE194.out) | exact HB.out)) hb); clear BK0; clear BK192; clear BK194; clear HB; have BK0 := n0_; have BK192 := n1_; have BK194 := n2_; have HB := n3_; clear n0_ n1_ n2_ n3_; (try clear hb); (try clear hb2); (try clear hk); (try clear hi)))
                              go_ret
                              exact ⟨by first | rfl | (simp [errW_none, errW_some] <;> rfl) | (simp [*, errW_none, errW_some] <;> rfl), by repeat (first | (with_reducible first | exact HB.out | apply below_alloc | apply pw_below_drewN | apply below_drew1 | refine below_set ?_ GE0.out | refine below_set ?_ GE192.out | refine below_set ?_ GE194.out) | exact HB.out)⟩
                          · rw [if_neg c38] at H
                            have c38b0 : decide (x7_4 < ((rd_T116 l0_4 x5_2).f0)) = false := decide_eq_false c38
                            clear c38
                            have H' := Aside0.mk H
                            clear H
                            have hnb58 := NB194_0.out
                            have hnc58 := NB0_194.out
                            have hnb59 := NB194_192.out
                            have hnc59 := NB192_194.out
                            have hcz60_0 : wr.cell? ⟨gb194, 0, none⟩ = some (.int .i64 ((rd_T116 l0_4 x5_2).f0)) := (blk_cell BK194.out 0).trans rfl
                            have hcz60_1 : wr.cell? ⟨gb194, 1, none⟩ = some (.int .i64 ((rd_T116 l0_4 x5_2).f1)) := (blk_cell BK194.out 1).trans rfl
                            have hcz60_2 : wr.cell? ⟨gb194, 2, none⟩ = some (.int .i64 ((rd_T116 l0_4 x5_2).f2)) := (blk_cell BK194.out 2).trans rfl
                            have hfz60_0 := blk_frozen BK194.out 0
                            have hfz60_1 := blk_frozen BK194.out 1
                            have hfz60_2 := blk_frozen BK194.out 2
                            go_wp2
                            go_roundg k4
                            case measure => have := HJ1.out; have := HK2.out; have := HJ17.out; have := HK4.out; omega
                            case rel => exact ⟨((wrap64 (x3_2 + ((rd_T116 l0_4 x5_2).f0)))), (wrap64 (x5_2 + 1)), (x193000_4), (x193001_4), (x193002_4), (x193003_4), (by first | rfl | (simp; done) | (simp [*]; done)), (by first | rfl | (simp; done) | (simp [*]; done)), H', ⟨by have := HJ1.out; have := HK2.out; have := HJ17.out; have := HK4.out; omega⟩, ⟨by (with_reducible repeat (first | refine blk_drewN ?_ _ | refine blk_drew ?_ | refine blk_alloc ?_ _)); exact BK0.out⟩, ⟨by (with_reducible repeat (first | refine blk_drewN ?_ _ | refine blk_drew ?_ | refine blk_alloc ?_ _)); exact BK192.out⟩, ⟨by repeat (first | (with_reducible first | exact HB.out | apply below_alloc | apply pw_below_drewN | apply below_drew1 | refine below_set ?_ GE0.out | refine below_set ?_ GE192.out | refine below_set ?_ GE194.out) | exact HB.out)⟩⟩
              · rw [if_neg c17] at H
                exact absurd H (by simp)
            · rw [if_neg c16] at H
              have c16b0 : decide (x5_2 < (l0_4.length : Int)) = false := decide_eq_false c16
              clear c16
              obtain rfl := Option.some.inj H
              have hnb61 := NB0_192.out
              have hnc61 := NB192_0.out
              have hcz62_0 : wr.cell? ⟨gB0, 0, none⟩ = some (.int .i64 a0_0) := (blk_cell BK0.out 0).trans rfl
              have hcz62_1 : wr.cell? ⟨gB0, 1, none⟩ = some (.int .i64 a0_1) := (blk_cell BK0.out 1).trans rfl
              have hcz62_2 : wr.cell? ⟨gB0, 2, none⟩ = some (.int .i64 a0_2) := (blk_cell BK0.out 2).trans rfl
              have hcz62_3 : wr.cell? ⟨gB0, 3, none⟩ = some (.int .i64 a0_3) := (blk_cell BK0.out 3).trans rfl
              have hcz62_4 : wr.cell? ⟨gB0, 4, none⟩ = some (.slice A0_4 l0_4.length c0_4) := (blk_cell BK0.out 4).trans rfl
              have hfz62_0 := blk_frozen BK0.out 0
              have hfz62_1 := blk_frozen BK0.out 1
              have hfz62_2 := blk_frozen BK0.out 2
              have hfz62_3 := blk_frozen BK0.out 3
              have hfz62_4 := blk_frozen BK0.out 4
              go_wp2
              go_ret
              exact ⟨by first | rfl | (simp [errW_none, errW_some] <;> rfl) | (simp [*, errW_none, errW_some] <;> rfl), by repeat (first | (with_reducible first | exact HB.out | apply below_alloc | apply pw_below_drewN | apply below_drew1 | refine below_set ?_ GE0.out | refine below_set ?_ GE192.out) | exact HB.out)⟩

/-! ### impl_Axis_poses: function 74 -/
mutual
def impl_Axis_poses.j0 : Nat → List (S25) → Bool → Int → Int → Int → Int → List (S116) → Option ((List (S25)) × Bool)
  | 0, _, _, _, _, _, _, _ => none
  | k + 1, x4, x21, x226000, x226001, x226002, x226003, x226004 => if x21 = true then (some (([] : List (S25)), false)) else (impl_Axis_poses.l0 k x4 x226004 (x226004.length : Int) 0)
def impl_Axis_poses.l0 : Nat → List (S25) → List (S116) → Int → Int → Option ((List (S25)) × Bool)
  | 0, _, _, _, _ => none
  | k + 1, x4, x23, x24, x25 => if x25 < x24 then (if 0 ≤ x25 then (if x25 < (x23.length : Int) then ((impl_within.f ((rd_T116 x23 x25).f0) 1 60).bind fun t233 => (if t233 = true then ((impl_isTurn.f ((rd_T116 x23 x25).f1) ((rd_T116 x23 x25).f2)).bind fun t234 => (if t234 = true then (impl_Axis_poses.j2 k x4 x23 x24 x25 (decide ((wrap64 ((x4.length : Int) + ((rd_T116 x23 x25).f0))) > 61)) ((rd_T116 x23 x25).f0) ((rd_T116 x23 x25).f1) ((rd_T116 x23 x25).f2)) else (impl_Axis_poses.j2 k x4 x23 x24 x25 true ((rd_T116 x23 x25).f0) ((rd_T116 x23 x25).f1) ((rd_T116 x23 x25).f2)))) else (impl_Axis_poses.j2 k x4 x23 x24 x25 true ((rd_T116 x23 x25).f0) ((rd_T116 x23 x25).f1) ((rd_T116 x23 x25).f2)))) else (none)) else (none)) else (some (x4, true))
def impl_Axis_poses.j2 : Nat → List (S25) → List (S116) → Int → Int → Bool → Int → Int → Int → Option ((List (S25)) × Bool)
  | 0, _, _, _, _, _, _, _, _ => none
  | k + 1, x4, x23, x24, x25, x48, x233000, x233001, x233002 => if x48 = true then (some (([] : List (S25)), false)) else (impl_Axis_poses.l1 k x4 x23 x24 x25 x233000 0 x233000 x233001 x233002)
def impl_Axis_poses.l1 : Nat → List (S25) → List (S116) → Int → Int → Int → Int → Int → Int → Int → Option ((List (S25)) × Bool)
  | 0, _, _, _, _, _, _, _, _, _ => none
  | k + 1, x4, x23, x24, x25, x50, x51, x233000, x233001, x233002 => if x51 < x50 then (if 0 ≤ (wrap64 ((x4.length : Int) - 1)) then (if (wrap64 ((x4.length : Int) - 1)) < (x4.length : Int) then ((impl_Pose_next.f ((rd_T25 x4 (wrap64 ((x4.length : Int) - 1))).f0) ((rd_T25 x4 (wrap64 ((x4.length : Int) - 1))).f1) ((rd_T25 x4 (wrap64 ((x4.length : Int) - 1))).f2) ((rd_T25 x4 (wrap64 ((x4.length : Int) - 1))).f3) x233001 x233002).bind fun bt236 => ((impl_ValidPose.f bt236.1 bt236.2.1 bt236.2.2.1 bt236.2.2.2).bind fun t241 => (if t241 = true then (if x4.length < 4398046511104 then (impl_Axis_poses.l1 k (x4 ++ [(⟨bt236.1, bt236.2.1, bt236.2.2.1, bt236.2.2.2⟩ : S25)]) x23 x24 x25 x50 (wrap64 (x51 + 1)) x233000 x233001 x233002) else (none)) else (some (([] : List (S25)), false))))) else (none)) else (none)) else (impl_Axis_poses.l0 k x4 x23 x24 (wrap64 (x25 + 1)))
end
def impl_Axis_poses.f (k : Nat) (a0_0 : Int) (a0_1 : Int) (a0_2 : Int) (a0_3 : Int) (l0_4 : List (S116)) : Option ((List (S25)) × Bool) := (some (([(⟨a0_0, a0_1, a0_2, a0_3⟩ : S25)] : List (S25)) : List (S25))).bind fun y226 => ((impl_ValidPose.f a0_0 a0_1 a0_2 a0_3).bind fun t229 => (if t229 = true then ((impl_within.f (l0_4.length : Int) 1 8).bind fun t230 => (impl_Axis_poses.j0 k y226 (!t230) a0_0 a0_1 a0_2 a0_3 l0_4)) else (impl_Axis_poses.j0 k y226 true a0_0 a0_1 a0_2 a0_3 l0_4)))
theorem impl_Axis_poses.mono_l : ∀ k, (∀ y0 y1 y2 y3 y4 y5 y6, LeO (impl_Axis_poses.j0 k y0 y1 y2 y3 y4 y5 y6) (impl_Axis_poses.j0 (k + 1) y0 y1 y2 y3 y4 y5 y6)) ∧ (∀ y0 y1 y2 y3, LeO (impl_Axis_poses.l0 k y0 y1 y2 y3) (impl_Axis_poses.l0 (k + 1) y0 y1 y2 y3)) ∧ (∀ y0 y1 y2 y3 y4 y5 y6 y7, LeO (impl_Axis_poses.j2 k y0 y1 y2 y3 y4 y5 y6 y7) (impl_Axis_poses.j2 (k + 1) y0 y1 y2 y3 y4 y5 y6 y7)) ∧ (∀ y0 y1 y2 y3 y4 y5 y6 y7 y8, LeO (impl_Axis_poses.l1 k y0 y1 y2 y3 y4 y5 y6 y7 y8) (impl_Axis_poses.l1 (k + 1) y0 y1 y2 y3 y4 y5 y6 y7 y8))
  | 0 => ⟨fun _ _ _ _ _ _ _ r h => by simp [impl_Axis_poses.j0] at h, fun _ _ _ _ r h => by simp [impl_Axis_poses.l0] at h, fun _ _ _ _ _ _ _ _ r h => by simp [impl_Axis_poses.j2] at h, fun _ _ _ _ _ _ _ _ _ r h => by simp [impl_Axis_poses.l1] at h⟩
  | k + 1 => by
    obtain ⟨ih0, ih1, ih2, ih3⟩ := impl_Axis_poses.mono_l k
    refine ⟨?_, ?_, ?_, ?_⟩
    · intro y0 y1 y2 y3 y4 y5 y6
      unfold impl_Axis_poses.j0
      repeat' first
      | (with_reducible exact ih0 _ _ _ _ _ _ _)
      | (with_reducible exact ih1 _ _ _ _)
      | (with_reducible exact ih2 _ _ _ _ _ _ _ _)
      | (with_reducible exact ih3 _ _ _ _ _ _ _ _ _)
      | (with_reducible exact LeO.refl _)
      | (with_reducible exact LeO.none _)
      | (with_reducible refine LeO.ite ?_ ?_)
      | (with_reducible refine LeO.bind ?_ (fun _ => ?_))
      | exact ih0 _ _ _ _ _ _ _
      | exact ih1 _ _ _ _
      | exact ih2 _ _ _ _ _ _ _ _
      | exact ih3 _ _ _ _ _ _ _ _ _
      | exact LeO.none _
      | refine LeO.ite ?_ ?_
      | refine LeO.bind ?_ (fun _ => ?_)
    · intro y0 y1 y2 y3
      unfold impl_Axis_poses.l0
      repeat' first
      | (with_reducible exact ih0 _ _ _ _ _ _ _)
      | (with_reducible exact ih1 _ _ _ _)
      | (with_reducible exact ih2 _ _ _ _ _ _ _ _)
      | (with_reducible exact ih3 _ _ _ _ _ _ _ _ _)
      | (with_reducible exact LeO.refl _)
      | (with_reducible exact LeO.none _)
      | (with_reducible refine LeO.ite ?_ ?_)
      | (with_reducible refine LeO.bind ?_ (fun _ => ?_))
      | exact ih0 _ _ _ _ _ _ _
      | exact ih1 _ _ _ _
      | exact ih2 _ _ _ _ _ _ _ _
      | exact ih3 _ _ _ _ _ _ _ _ _
      | exact LeO.none _
      | refine LeO.ite ?_ ?_
      | refine LeO.bind ?_ (fun _ => ?_)
    · intro y0 y1 y2 y3 y4 y5 y6 y7
      unfold impl_Axis_poses.j2
      repeat' first
      | (with_reducible exact ih0 _ _ _ _ _ _ _)
      | (with_reducible exact ih1 _ _ _ _)
      | (with_reducible exact ih2 _ _ _ _ _ _ _ _)
      | (with_reducible exact ih3 _ _ _ _ _ _ _ _ _)
      | (with_reducible exact LeO.refl _)
      | (with_reducible exact LeO.none _)
      | (with_reducible refine LeO.ite ?_ ?_)
      | (with_reducible refine LeO.bind ?_ (fun _ => ?_))
      | exact ih0 _ _ _ _ _ _ _
      | exact ih1 _ _ _ _
      | exact ih2 _ _ _ _ _ _ _ _
      | exact ih3 _ _ _ _ _ _ _ _ _
      | exact LeO.none _
      | refine LeO.ite ?_ ?_
      | refine LeO.bind ?_ (fun _ => ?_)
    · intro y0 y1 y2 y3 y4 y5 y6 y7 y8
      unfold impl_Axis_poses.l1
      repeat' first
      | (with_reducible exact ih0 _ _ _ _ _ _ _)
      | (with_reducible exact ih1 _ _ _ _)
      | (with_reducible exact ih2 _ _ _ _ _ _ _ _)
      | (with_reducible exact ih3 _ _ _ _ _ _ _ _ _)
      | (with_reducible exact LeO.refl _)
      | (with_reducible exact LeO.none _)
      | (with_reducible refine LeO.ite ?_ ?_)
      | (with_reducible refine LeO.bind ?_ (fun _ => ?_))
      | exact ih0 _ _ _ _ _ _ _
      | exact ih1 _ _ _ _
      | exact ih2 _ _ _ _ _ _ _ _
      | exact ih3 _ _ _ _ _ _ _ _ _
      | exact LeO.none _
      | refine LeO.ite ?_ ?_
      | refine LeO.bind ?_ (fun _ => ?_)
theorem impl_Axis_poses.mono : ∀ a0 a1 a2 a3 a4 k, LeO (impl_Axis_poses.f k a0 a1 a2 a3 a4) (impl_Axis_poses.f (k + 1) a0 a1 a2 a3 a4) := by
  intro a0 a1 a2 a3 a4 k
  obtain ⟨ih0, ih1, ih2, ih3⟩ := impl_Axis_poses.mono_l k
  unfold impl_Axis_poses.f
  repeat' first
      | (with_reducible exact ih0 _ _ _ _ _ _ _)
      | (with_reducible exact ih1 _ _ _ _)
      | (with_reducible exact ih2 _ _ _ _ _ _ _ _)
      | (with_reducible exact ih3 _ _ _ _ _ _ _ _ _)
      | (with_reducible exact LeO.refl _)
      | (with_reducible exact LeO.none _)
      | (with_reducible refine LeO.ite ?_ ?_)
      | (with_reducible refine LeO.bind ?_ (fun _ => ?_))
      | exact ih0 _ _ _ _ _ _ _
      | exact ih1 _ _ _ _
      | exact ih2 _ _ _ _ _ _ _ _
      | exact ih3 _ _ _ _ _ _ _ _ _
      | exact LeO.none _
      | refine LeO.ite ?_ ?_
      | refine LeO.bind ?_ (fun _ => ?_)
def impl_Axis_poses.T11 : Bool × List (List Nat × List Nat) := (true, [([], []), ([], []), ([1], [1]), ([2], [2]), ([0, 3], [0, 3]), ([4], [4]), ([], []), ([6], [6]), ([], []), ([8], [8]), ([5, 7, 9], [5, 7, 9]), ([], []), ([11, 10, 10, 0, 1, 2, 3, 4, 5, 6, 7, 8, 9, 10, 11], [10, 11])])
def impl_Axis_poses.B11 : List Nat := [0, 0, 2, 6, 15, 31, 0, 64, 0, 256, 1023, 0, 4095]
theorem impl_Axis_poses.tab11 : rtab .any (opsOf Try.f74 11) = impl_Axis_poses.T11 := by kernel_rfl
theorem impl_Axis_poses.bits11 : waitsOk impl_Axis_poses.T11.2 impl_Axis_poses.B11 = true := by kernel_rfl
set_option maxHeartbeats 8000000 in
set_option maxRecDepth 100000 in
theorem impl_Axis_poses.calls (k : Nat) (a0_0 : Int) (a0_1 : Int) (a0_2 : Int) (a0_3 : Int) (A0_4 : Option Addr) (c0_4 : Nat) (l0_4 : List (S116)) (r1 : List (S25)) (r2 : Bool) (w : World) (hr0_4 : Kd.C k116 w A0_4 l0_4.length l0_4) (hc0_4 : l0_4.length ≤ c0_4) (h : impl_Axis_poses.f k a0_0 a0_1 a0_2 a0_3 l0_4 = some (r1, r2)) :
    Calls Try.prog 74 #[.agg #[.int .i64 a0_0, .int .i64 a0_1, .int .i64 a0_2, .int .i64 a0_3, .slice A0_4 l0_4.length c0_4]] w fun e w' => ∃ v0_ : Value, e = .returned (.tuple #[v0_, .bool r2]) ∧ Kd.R k25 25 w' w.heap.size (fun _ => True) v0_ r1 ∧ Below w.heap.size w w' := by
  have hu39 := Try.underlying39
  have hu25 := Try.underlying25
  have hu116 := Try.underlying116
  have HR0_4 := Aside0.mk hr0_4
  have HC0_4 := Aside0.mk hc0_4
  clear hr0_4 hc0_4
  have HB := Aside0.mk (Below.refl w.heap.size w)
  have H : ((some (([(⟨a0_0, a0_1, a0_2, a0_3⟩ : S25)] : List (S25)) : List (S25))).bind fun y226 => ((impl_ValidPose.f a0_0 a0_1 a0_2 a0_3).bind fun t229 => (if t229 = true then ((impl_within.f (l0_4.length : Int) 1 8).bind fun t230 => (impl_Axis_poses.j0 k y226 (!t230) a0_0 a0_1 a0_2 a0_3 l0_4)) else (impl_Axis_poses.j0 k y226 true a0_0 a0_1 a0_2 a0_3 l0_4)))) = some (r1, r2) := h
  clear h
  obtain ⟨y226, hy226⟩ : ∃ y_ : List (S25), y_ = (([(⟨a0_0, a0_1, a0_2, a0_3⟩ : S25)] : List (S25))) := ⟨_, rfl⟩
  replace H : ((impl_ValidPose.f a0_0 a0_1 a0_2 a0_3).bind fun t229 => (if t229 = true then ((impl_within.f (l0_4.length : Int) 1 8).bind fun t230 => (impl_Axis_poses.j0 k y226 (!t230) a0_0 a0_1 a0_2 a0_3 l0_4)) else (impl_Axis_poses.j0 k y226 true a0_0 a0_1 a0_2 a0_3 l0_4))) = some (r1, r2) := by first | (rw [hy226]; with_reducible exact H) | (have H2_ := (Option.bind_some _ _).symm.trans H; rw [hy226]; with_reducible exact H2_) | (have H2_ := (Option.bind_some _ _).symm.trans H; with_reducible exact H2_) | with_reducible exact H | (rw [hy226]; exact H) | exact H
  have Ny226 := Aside0.mk hy226
  clear hy226
  have HC2 := Aside0.mk H
  clear H
  go_enter Try.func74, Try.ntmps74
  go_upto_region 2 with (first | ((with_reducible refine gate_dst (N := 1) rfl ?_); (try (refine gate_guard (by rfl) ?_; dsimp only)); refine box_event ?hg (N := 1) ?hd (cs := #[.int .i64 a0_0, .int .i64 a0_1, .int .i64 a0_2, .int .i64 a0_3, .slice A0_4 l0_4.length c0_4]) (t := 39) ?hr ?_; (case hd => rfl); (case hg => rfl); (case hr => first | (go_simp; done) | (go_simp; rfl)); intro gb225 hg w3 hbox hb; have n0_ := Aside0.mk (below_step (by repeat (first | (with_reducible first | exact HB.out | apply below_alloc | apply pw_below_drewN | apply below_drew1) | exact HB.out)) hb); have n1_ := Aside0.mk (hbox); have n2_ := Aside0.mk ((by rw [hg]; exact (below_size (by repeat (first | (with_reducible first | exact HB.out | apply below_alloc | apply pw_below_drewN | apply below_drew1) | exact HB.out))) : w.heap.size ≤ gb225)); have n3_ := Aside0.mk ((by rw [hg]; exact (below_size (by repeat (first | (with_reducible first | exact HB.out | apply below_alloc | apply pw_below_drewN | apply below_drew1) | exact HB.out))) : w.heap.size ≤ gb225)); clear HB; have HB := n0_; have BK225 := n1_; have GW225 := n2_; have GE225 := n3_; clear n0_ n1_ n2_ n3_; clear hb hbox hg; have hcz4_0 : w3.cell? ⟨gb225, 0, none⟩ = some (.int .i64 a0_0) := (blk_cell BK225.out 0).trans rfl; have hcz4_1 : w3.cell? ⟨gb225, 1, none⟩ = some (.int .i64 a0_1) := (blk_cell BK225.out 1).trans rfl; have hcz4_2 : w3.cell? ⟨gb225, 2, none⟩ = some (.int .i64 a0_2) := (blk_cell BK225.out 2).trans rfl; have hcz4_3 : w3.cell? ⟨gb225, 3, none⟩ = some (.int .i64 a0_3) := (blk_cell BK225.out 3).trans rfl; have hcz4_4 : w3.cell? ⟨gb225, 4, none⟩ = some (.slice A0_4 l0_4.length c0_4) := (blk_cell BK225.out 4).trans rfl; have hfz4_0 := blk_frozen BK225.out 0; have hfz4_1 := blk_frozen BK225.out 1; have hfz4_2 := blk_frozen BK225.out 2; have hfz4_3 := blk_frozen BK225.out 3; have hfz4_4 := blk_frozen BK225.out 4) | ((with_reducible refine gate_dst (N := 10) rfl ?_); (try (refine gate_guard (by rfl) ?_; dsimp only)); refine Kd.R_lit k25 _ 25 ?hg (N := 10) ?hd (xs := ([(⟨a0_0, a0_1, a0_2, a0_3⟩ : S25)] : List (S25))) (inner := [.int .i64 a0_0, .int .i64 a0_1, .int .i64 a0_2, .int .i64 a0_3]) (ok := fun _ => True) (okp := fun _ => True) ?hr ?hp (fun _ hk => hk) trivial (Below.refl _ _) (Nat.le_refl _) (by simp) ?_; (case hd => rfl); (case hg => rfl); (case hr => first | (go_simp; done) | (go_simp; rfl)); (case hp => exact (Reps.c4 (show Kd.M k25 _ _ _ (⟨a0_0, a0_1, a0_2, a0_3⟩ : S25) [.int .i64 a0_0, .int .i64 a0_1, .int .i64 a0_2, .int .i64 a0_3] from (k25_mkM _ _ _ (⟨a0_0, a0_1, a0_2, a0_3⟩ : S25) )) (Reps.none _ _))); intro v227 w5 ho6 hb hg_ hnew_; clear hg_ hnew_; (first | rw [← Ny226.out] at ho6 | (simp only [Int.reduceToNat] at ho6; rw [← Ny226.out] at ho6)); have n0_ := Aside0.mk (Kd.R_lower ho6 (below_size (by repeat (first | (with_reducible first | exact HB.out | apply below_alloc | apply pw_below_drewN | apply below_drew1 | refine below_set ?_ GE225.out) | exact HB.out)))); have n1_ := Aside0.mk (blk_below (g := gb225) (o := .cells #[.int .i64 a0_0, .int .i64 a0_1, .int .i64 a0_2, .int .i64 a0_3, .slice A0_4 l0_4.length c0_4] 39 (0, 0)) (by (with_reducible repeat (first | refine blk_drewN ?_ _ | refine blk_drew ?_ | refine blk_alloc ?_ _)); exact BK225.out) hb); have n2_ := Aside0.mk (below_step (by repeat (first | (with_reducible first | exact HB.out | apply below_alloc | apply pw_below_drewN | apply below_drew1 | refine below_set ?_ GE225.out) | exact HB.out)) hb); clear BK225; clear HB; have HO228 := n0_; have BK225 := n1_; have HB := n2_; clear n0_ n1_ n2_; clear hb ho6))
  (try simp only [Act.put, List.setIfInBounds_toArray, List.set_cons_zero, List.set_cons_succ])
  go_cut [21] (fun v21 wc => ∃ (kq : Nat) (x21_1 : Bool), v21 = .bool x21_1 ∧ Aside0 (impl_Axis_poses.j0 kq y226 x21_1 a0_0 a0_1 a0_2 a0_3 l0_4 = some (r1, r2)) ∧ Aside0 (kq ≤ k) ∧ Aside0 (Kd.R k25 25 wc w.heap.size (fun _ => True) v227 y226) ∧ Aside0 (wc.heap[gb225]? = some (.cells #[.int .i64 a0_0, .int .i64 a0_1, .int .i64 a0_2, .int .i64 a0_3, (.slice A0_4 l0_4.length c0_4)] 39 (0, 0))) ∧ Aside0 (Below w.heap.size w wc))
  case first =>
    have H := HC2.out
    clear HC2
    replace H := Option.bind_eq_some_iff.mp H
    obtain ⟨t229, A70, H⟩ := H
    replace H : (if t229 = true then ((impl_within.f (l0_4.length : Int) 1 8).bind fun t230 => (impl_Axis_poses.j0 k y226 (!t230) a0_0 a0_1 a0_2 a0_3 l0_4)) else (impl_Axis_poses.j0 k y226 true a0_0 a0_1 a0_2 a0_3 l0_4)) = some (r1, r2) := H
    have A7 := Aside0.mk A70
    clear A70
    by_cases c8 : t229 = true
    · subst c8
      have H1 : ((impl_within.f (l0_4.length : Int) 1 8).bind fun t230 => (impl_Axis_poses.j0 k y226 (!t230) a0_0 a0_1 a0_2 a0_3 l0_4)) = some (r1, r2) := by rw [if_pos rfl] at H; exact H
      clear H
      have H := H1
      clear H1
      replace H := Option.bind_eq_some_iff.mp H
      obtain ⟨t230, A90, H⟩ := H
      replace H : (impl_Axis_poses.j0 k y226 (!t230) a0_0 a0_1 a0_2 a0_3 l0_4) = some (r1, r2) := H
      have A9 := Aside0.mk A90
      clear A90
      have H' := Aside0.mk H
      clear H
      have hcz10_0 : w5.cell? ⟨gb225, 0, none⟩ = some (.int .i64 a0_0) := (blk_cell BK225.out 0).trans rfl
      have hcz10_1 : w5.cell? ⟨gb225, 1, none⟩ = some (.int .i64 a0_1) := (blk_cell BK225.out 1).trans rfl
      have hcz10_2 : w5.cell? ⟨gb225, 2, none⟩ = some (.int .i64 a0_2) := (blk_cell BK225.out 2).trans rfl
      have hcz10_3 : w5.cell? ⟨gb225, 3, none⟩ = some (.int .i64 a0_3) := (blk_cell BK225.out 3).trans rfl
      have hcz10_4 : w5.cell? ⟨gb225, 4, none⟩ = some (.slice A0_4 l0_4.length c0_4) := (blk_cell BK225.out 4).trans rfl
      have hfz10_0 := blk_frozen BK225.out 0
      have hfz10_1 := blk_frozen BK225.out 1
      have hfz10_2 := blk_frozen BK225.out 2
      have hfz10_3 := blk_frozen BK225.out 3
      have hfz10_4 := blk_frozen BK225.out 4
      go_wp2_with (first | ((with_reducible refine gate_callee (f := 22) rfl ?_); refine goesL_ (some 13) rfl rfl Try.func22 (by kernel_rfl) rfl #[.agg #[.int .i64 a0_0, .int .i64 a0_1, .int .i64 a0_2, .int .i64 a0_3]] rfl (by (try simp only [List.map_toArray, List.map_cons, List.map_nil]); first | done | rfl | (simp only [List.length_drop, List.length_take]; rfl)) ?_; (with_reducible refine (impl_ValidPose.calls a0_0 a0_1 a0_2 a0_3 true _ A7.out).mono ?_); rintro e w11 ⟨rfl, hb⟩; refine ⟨_, rfl, ?_⟩; have n0_ := Aside0.mk (Kd.R_below (by (with_reducible repeat (first | apply Kd.R_alloc | apply Kd.R_drewN | apply Kd.R_drew)); exact HO228.out) hb); have n1_ := Aside0.mk (blk_below (g := gb225) (o := .cells #[.int .i64 a0_0, .int .i64 a0_1, .int .i64 a0_2, .int .i64 a0_3, .slice A0_4 l0_4.length c0_4] 39 (0, 0)) (by (with_reducible repeat (first | refine blk_drewN ?_ _ | refine blk_drew ?_ | refine blk_alloc ?_ _)); exact BK225.out) hb); have n2_ := Aside0.mk (below_step (by repeat (first | (with_reducible first | exact HB.out | apply below_alloc | apply pw_below_drewN | apply below_drew1 | refine below_set ?_ GE225.out) | exact HB.out)) hb); clear HO228; clear BK225; clear HB; have HO228 := n0_; have BK225 := n1_; have HB := n2_; clear n0_ n1_ n2_; (try clear hb); (try clear hb2); (try clear hk); (try clear hi); have hcz12_0 : w11.cell? ⟨gb225, 0, none⟩ = some (.int .i64 a0_0) := (blk_cell BK225.out 0).trans rfl; have hcz12_1 : w11.cell? ⟨gb225, 1, none⟩ = some (.int .i64 a0_1) := (blk_cell BK225.out 1).trans rfl; have hcz12_2 : w11.cell? ⟨gb225, 2, none⟩ = some (.int .i64 a0_2) := (blk_cell BK225.out 2).trans rfl; have hcz12_3 : w11.cell? ⟨gb225, 3, none⟩ = some (.int .i64 a0_3) := (blk_cell BK225.out 3).trans rfl; have hcz12_4 : w11.cell? ⟨gb225, 4, none⟩ = some (.slice A0_4 l0_4.length c0_4) := (blk_cell BK225.out 4).trans rfl; have hfz12_0 := blk_frozen BK225.out 0; have hfz12_1 := blk_frozen BK225.out 1; have hfz12_2 := blk_frozen BK225.out 2; have hfz12_3 := blk_frozen BK225.out 3; have hfz12_4 := blk_frozen BK225.out 4) | (go_at_call 80; (with_reducible refine (impl_within.calls (l0_4.length : Int) 1 8 t230 _ A9.out).mono ?_); rintro e w' ⟨rfl, ⟨nd, rfl⟩⟩))
      go_meet
      case rel => exact ⟨_, (!t230), (by first | rfl | (simp; done) | (simp [*]; done)), H', ⟨by first | omega | exact Nat.le_refl _⟩, ⟨by (with_reducible repeat (first | apply Kd.R_alloc | apply Kd.R_drewN | apply Kd.R_drew)); exact HO228.out⟩, ⟨by (with_reducible repeat (first | refine blk_drewN ?_ _ | refine blk_drew ?_ | refine blk_alloc ?_ _)); exact BK225.out⟩, ⟨by repeat (first | (with_reducible first | exact HB.out | apply below_alloc | apply pw_below_drewN | apply below_drew1 | refine below_set ?_ GE225.out) | exact HB.out)⟩⟩
    · replace c8 := Bool.eq_false_iff.mpr c8
      subst c8
      have H1 : (impl_Axis_poses.j0 k y226 true a0_0 a0_1 a0_2 a0_3 l0_4) = some (r1, r2) := by rw [if_neg (show ¬ (false = true) by decide)] at H; exact H
      clear H
      have H := H1
      clear H1
      have H' := Aside0.mk H
      clear H
      have hcz13_0 : w5.cell? ⟨gb225, 0, none⟩ = some (.int .i64 a0_0) := (blk_cell BK225.out 0).trans rfl
      have hcz13_1 : w5.cell? ⟨gb225, 1, none⟩ = some (.int .i64 a0_1) := (blk_cell BK225.out 1).trans rfl
      have hcz13_2 : w5.cell? ⟨gb225, 2, none⟩ = some (.int .i64 a0_2) := (blk_cell BK225.out 2).trans rfl
      have hcz13_3 : w5.cell? ⟨gb225, 3, none⟩ = some (.int .i64 a0_3) := (blk_cell BK225.out 3).trans rfl
      have hcz13_4 : w5.cell? ⟨gb225, 4, none⟩ = some (.slice A0_4 l0_4.length c0_4) := (blk_cell BK225.out 4).trans rfl
      have hfz13_0 := blk_frozen BK225.out 0
      have hfz13_1 := blk_frozen BK225.out 1
      have hfz13_2 := blk_frozen BK225.out 2
      have hfz13_3 := blk_frozen BK225.out 3
      have hfz13_4 := blk_frozen BK225.out 4
      go_wp2_with (first | ((with_reducible refine gate_callee (f := 22) rfl ?_); refine goesL_ (some 13) rfl rfl Try.func22 (by kernel_rfl) rfl #[.agg #[.int .i64 a0_0, .int .i64 a0_1, .int .i64 a0_2, .int .i64 a0_3]] rfl (by (try simp only [List.map_toArray, List.map_cons, List.map_nil]); first | done | rfl | (simp only [List.length_drop, List.length_take]; rfl)) ?_; (with_reducible refine (impl_ValidPose.calls a0_0 a0_1 a0_2 a0_3 false _ A7.out).mono ?_); rintro e w14 ⟨rfl, hb⟩; refine ⟨_, rfl, ?_⟩; have n0_ := Aside0.mk (Kd.R_below (by (with_reducible repeat (first | apply Kd.R_alloc | apply Kd.R_drewN | apply Kd.R_drew)); exact HO228.out) hb); have n1_ := Aside0.mk (blk_below (g := gb225) (o := .cells #[.int .i64 a0_0, .int .i64 a0_1, .int .i64 a0_2, .int .i64 a0_3, .slice A0_4 l0_4.length c0_4] 39 (0, 0)) (by (with_reducible repeat (first | refine blk_drewN ?_ _ | refine blk_drew ?_ | refine blk_alloc ?_ _)); exact BK225.out) hb); have n2_ := Aside0.mk (below_step (by repeat (first | (with_reducible first | exact HB.out | apply below_alloc | apply pw_below_drewN | apply below_drew1 | refine below_set ?_ GE225.out) | exact HB.out)) hb); clear HO228; clear BK225; clear HB; have HO228 := n0_; have BK225 := n1_; have HB := n2_; clear n0_ n1_ n2_; (try clear hb); (try clear hb2); (try clear hk); (try clear hi)))
      go_meet
      case rel => exact ⟨_, (true), (by first | rfl | (simp; done) | (simp [*]; done)), H', ⟨by first | omega | exact Nat.le_refl _⟩, ⟨by (with_reducible repeat (first | apply Kd.R_alloc | apply Kd.R_drewN | apply Kd.R_drew)); exact HO228.out⟩, ⟨by (with_reducible repeat (first | refine blk_drewN ?_ _ | refine blk_drew ?_ | refine blk_alloc ?_ _)); exact BK225.out⟩, ⟨by repeat (first | (with_reducible first | exact HB.out | apply below_alloc | apply pw_below_drewN | apply below_drew1 | refine below_set ?_ GE225.out) | exact HB.out)⟩⟩
  case rest =>
    clear HC2
    try clear c2
    try clear p2
    try clear c4
    try clear c7
    try clear c8
    try clear hcz10_0
    try clear hcz10_1
    try clear hcz10_2
    try clear hcz10_3
    try clear hcz10_4
    try clear hcz12_0
    try clear hcz12_1
    try clear hcz12_2
    try clear hcz12_3
    try clear hcz12_4
    try clear hcz13_0
    try clear hcz13_1
    try clear hcz13_2
    try clear hcz13_3
    try clear hcz13_4
    try clear hcz4_0
    try clear hcz4_1
    try clear hcz4_2
    try clear hcz4_3
    try clear hcz4_4
    try clear hfz10_0
    try clear hfz10_1
    try clear hfz10_2
    try clear hfz10_3
    try clear hfz10_4
    try clear hfz12_0
    try clear hfz12_1
    try clear hfz12_2
    try clear hfz12_3
    try clear hfz12_4
    try clear hfz13_0
    try clear hfz13_1
    try clear hfz13_2
    try clear hfz13_3
    try clear hfz13_4
    try clear hfz4_0
    try clear hfz4_1
    try clear hfz4_2
    try clear hfz4_3
    try clear hfz4_4
    obtain ⟨kq, x21_1, rfl, HA, HJ1, HO_4, BK225, HB⟩ := hcut
    cases kq with
    | zero => exact absurd HA.out (by simp [impl_Axis_poses.j0])
    | succ kj1 =>
      have H := HA.out
      clear HA
      simp only [impl_Axis_poses.j0] at H
      by_cases c15 : x21_1 = true
      · subst c15
        have H1 : (some (([] : List (S25)), false)) = some (r1, r2) := by rw [if_pos rfl] at H; exact H
        clear H
        have H := H1
        clear H1
        simp only [Option.some.injEq, Prod.mk.injEq] at H
        obtain ⟨rfl, rfl⟩ := H
        go_wp2
        go_ret2
        exact ⟨_, by first | rfl | (simp [errW_none, errW_some] <;> rfl) | (simp [*, errW_none, errW_some] <;> rfl), by first | exact Kd.R_nil _ _ _ _ _ | exact Kd.N_nil _ _ _ _ _ | exact Kd.V_nil _ _ _ _ _ | exact Kd.Q_nil _ _ _ _ _ | exact Kd.S_nil _ _ _ _ _, by repeat (first | (with_reducible first | exact HB.out | apply below_alloc | apply pw_below_drewN | apply below_drew1 | refine below_set ?_ GE225.out) | exact HB.out)⟩
      · replace c15 := Bool.eq_false_iff.mpr c15
        subst c15
        have H1 : (impl_Axis_poses.l0 kj1 y226 l0_4 (l0_4.length : Int) 0) = some (r1, r2) := by rw [if_neg (show ¬ (false = true) by decide)] at H; exact H
        clear H
        have H := H1
        clear H1
        have H' := Aside0.mk H
        clear H
        have hcz16_0 : wc.cell? ⟨gb225, 0, none⟩ = some (.int .i64 a0_0) := (blk_cell BK225.out 0).trans rfl
        have hcz16_1 : wc.cell? ⟨gb225, 1, none⟩ = some (.int .i64 a0_1) := (blk_cell BK225.out 1).trans rfl
        have hcz16_2 : wc.cell? ⟨gb225, 2, none⟩ = some (.int .i64 a0_2) := (blk_cell BK225.out 2).trans rfl
        have hcz16_3 : wc.cell? ⟨gb225, 3, none⟩ = some (.int .i64 a0_3) := (blk_cell BK225.out 3).trans rfl
        have hcz16_4 : wc.cell? ⟨gb225, 4, none⟩ = some (.slice A0_4 l0_4.length c0_4) := (blk_cell BK225.out 4).trans rfl
        have hfz16_0 := blk_frozen BK225.out 0
        have hfz16_1 := blk_frozen BK225.out 1
        have hfz16_2 := blk_frozen BK225.out 2
        have hfz16_3 := blk_frozen BK225.out 3
        have hfz16_4 := blk_frozen BK225.out 4
        go_wp2
        go_loopg [4, 25] kj1 (fun kq v4 v25 w' => ∃ (x4_2 : List (S25)) (x25_2 : Int), v25 = .int .i64 x25_2 ∧ Aside0 (impl_Axis_poses.l0 kq x4_2 l0_4 (l0_4.length : Int) x25_2 = some (r1, r2)) ∧ Aside0 (kq ≤ kj1) ∧ Aside0 (Kd.R k25 25 w' w.heap.size (fun _ => True) v4 x4_2) ∧ Aside0 (w'.heap[gb225]? = some (.cells #[.int .i64 a0_0, .int .i64 a0_1, .int .i64 a0_2, .int .i64 a0_3, (.slice A0_4 l0_4.length c0_4)] 39 (0, 0))) ∧ Aside0 (Below w.heap.size w w'))
        case atStart => exact ⟨(y226), (0), (by first | rfl | (simp; done) | (simp [*]; done)), H', ⟨Nat.le_refl _⟩, ⟨by (with_reducible repeat (first | apply Kd.R_alloc | apply Kd.R_drewN | apply Kd.R_drew)); exact HO_4.out⟩, ⟨by (with_reducible repeat (first | refine blk_drewN ?_ _ | refine blk_drew ?_ | refine blk_alloc ?_ _)); exact BK225.out⟩, ⟨by repeat (first | (with_reducible first | exact HB.out | apply below_alloc | apply pw_below_drewN | apply below_drew1 | refine below_set ?_ GE225.out) | exact HB.out)⟩⟩
        case round =>
          clear H'
          try clear c1
          try clear c2
          try clear p2
          try clear c4
          try clear c7
          try clear c8
          try clear c15
          try clear hcz10_0
          try clear hcz10_1
          try clear hcz10_2
          try clear hcz10_3
          try clear hcz10_4
          try clear hcz12_0
          try clear hcz12_1
          try clear hcz12_2
          try clear hcz12_3
          try clear hcz12_4
          try clear hcz13_0
          try clear hcz13_1
          try clear hcz13_2
          try clear hcz13_3
          try clear hcz13_4
          try clear hcz16_0
          try clear hcz16_1
          try clear hcz16_2
          try clear hcz16_3
          try clear hcz16_4
          try clear hcz4_0
          try clear hcz4_1
          try clear hcz4_2
          try clear hcz4_3
          try clear hcz4_4
          try clear hfz10_0
          try clear hfz10_1
          try clear hfz10_2
          try clear hfz10_3
          try clear hfz10_4
          try clear hfz12_0
          try clear hfz12_1
          try clear hfz12_2
          try clear hfz12_3
          try clear hfz12_4
          try clear hfz13_0
          try clear hfz13_1
          try clear hfz13_2
          try clear hfz13_3
          try clear hfz13_4
          try clear hfz16_0
          try clear hfz16_1
          try clear hfz16_2
          try clear hfz16_3
          try clear hfz16_4
          try clear hfz4_0
          try clear hfz4_1
          try clear hfz4_2
          try clear hfz4_3
          try clear hfz4_4
          try clear p2
          obtain ⟨x4_2, x25_2, rfl, HA, HK2, HO_4, BK225, HB⟩ := hrel
          cases gk with
          | zero => exact absurd HA.out (by simp [impl_Axis_poses.l0])
          | succ k2 =>
            have H := HA.out
            clear HA
            simp only [impl_Axis_poses.l0] at H
            by_cases c17 : x25_2 < (l0_4.length : Int)
            · rw [if_pos c17] at H
              have c17b0 : decide (x25_2 < (l0_4.length : Int)) = true := decide_eq_true c17
              clear c17
              by_cases c18 : 0 ≤ x25_2
              · rw [if_pos c18] at H
                have c18b0 : decide (0 ≤ x25_2) = true := decide_eq_true c18
                clear c18
                by_cases c19 : x25_2 < (l0_4.length : Int)
                · rw [if_pos c19] at H
                  have c19b0 : decide (x25_2 < (l0_4.length : Int)) = true := decide_eq_true c19
                  clear c19
                  have HC20 := Aside0.mk H
                  clear H
                  have p231 : 0 ≤ (x25_2 : Int) := of_decide_eq_true (by first | (with_reducible assumption) | assumption)
                  have q231 : x25_2 < (l0_4.length : Int) := of_decide_eq_true (by first | (with_reducible assumption) | assumption)
                  obtain ⟨ad231, e231, hx231_0, hx231_1, hx231_2⟩ := at_T116 HR0_4.out x25_2 p231 q231
                  cases e231
                  replace hx231_0 := (HB.out.cell (World.block_lt_of_cell? w _ hx231_0)).trans hx231_0
                  replace hx231_1 := (HB.out.cell (World.block_lt_of_cell? w _ hx231_1)).trans hx231_1
                  replace hx231_2 := (HB.out.cell (World.block_lt_of_cell? w _ hx231_2)).trans hx231_2
                  replace p231 := eq_true p231
                  replace q231 := eq_true q231
                  go_upto_region 7 with (first | ((with_reducible refine gate_dst (N := 6) rfl ?_); (try (refine gate_guard (by rfl) ?_; dsimp only)); refine box_event ?hg (N := 6) ?hd (cs := #[.int .i64 0, .int .i64 0, .int .i64 0]) (t := 116) ?hr ?_; (case hd => rfl); (case hg => rfl); (case hr => first | (go_simp; done) | (go_simp; rfl)); intro gb232 hg w21 hbox hb; have n0_ := Aside0.mk (Kd.R_below (by (with_reducible repeat (first | apply Kd.R_alloc | apply Kd.R_drewN | apply Kd.R_drew)); exact HO_4.out) hb); have n1_ := Aside0.mk (blk_below (g := gb225) (o := .cells #[.int .i64 a0_0, .int .i64 a0_1, .int .i64 a0_2, .int .i64 a0_3, .slice (some ad231) l0_4.length c0_4] 39 (0, 0)) (by (with_reducible repeat (first | refine blk_drewN ?_ _ | refine blk_drew ?_ | refine blk_alloc ?_ _)); exact BK225.out) hb); have n2_ := Aside0.mk (below_step (by repeat (first | (with_reducible first | exact HB.out | apply below_alloc | apply pw_below_drewN | apply below_drew1 | refine below_set ?_ GE225.out) | exact HB.out)) hb); have n3_ := Aside0.mk (hbox); have n4_ := Aside0.mk ((by rw [hg]; exact (below_size (by repeat (first | (with_reducible first | exact HB.out | apply below_alloc | apply pw_below_drewN | apply below_drew1 | refine below_set ?_ GE225.out) | exact HB.out))) : w.heap.size ≤ gb232)); have n5_ := Aside0.mk ((by rw [hg]; exact (below_size (by repeat (first | (with_reducible first | exact HB.out | apply below_alloc | apply pw_below_drewN | apply below_drew1 | refine below_set ?_ GE225.out) | exact HB.out))) : w.heap.size ≤ gb232)); have n6_ := Aside0.mk ((by rw [hg]; exact Nat.ne_of_lt (blk_lt (g := gb225) (o := .cells #[.int .i64 a0_0, .int .i64 a0_1, .int .i64 a0_2, .int .i64 a0_3, .slice (some ad231) l0_4.length c0_4] 39 (0, 0)) (by (with_reducible repeat (first | refine blk_drewN ?_ _ | refine blk_drew ?_ | refine blk_alloc ?_ _)); exact BK225.out)) : gb225 ≠ gb232)); have n7_ := Aside0.mk ((by rw [hg]; exact Nat.ne_of_gt (blk_lt (g := gb225) (o := .cells #[.int .i64 a0_0, .int .i64 a0_1, .int .i64 a0_2, .int .i64 a0_3, .slice (some ad231) l0_4.length c0_4] 39 (0, 0)) (by (with_reducible repeat (first | refine blk_drewN ?_ _ | refine blk_drew ?_ | refine blk_alloc ?_ _)); exact BK225.out)) : gb232 ≠ gb225)); clear HO_4; clear BK225; clear HB; have HO_4 := n0_; have BK225 := n1_; have HB := n2_; have BK232 := n3_; have GW232 := n4_; have GE232 := n5_; have NB225_232 := n6_; have NB232_225 := n7_; clear n0_ n1_ n2_ n3_ n4_ n5_ n6_ n7_; clear hb hbox hg; have hnb22 := NB232_225.out; have hnc22 := NB225_232.out; have hcz23_0 : w21.cell? ⟨gb232, 0, none⟩ = some (.int .i64 0) := (blk_cell BK232.out 0).trans rfl; have hcz23_1 : w21.cell? ⟨gb232, 1, none⟩ = some (.int .i64 0) := (blk_cell BK232.out 1).trans rfl; have hcz23_2 : w21.cell? ⟨gb232, 2, none⟩ = some (.int .i64 0) := (blk_cell BK232.out 2).trans rfl; have hfz23_0 := blk_frozen BK232.out 0; have hfz23_1 := blk_frozen BK232.out 1; have hfz23_2 := blk_frozen BK232.out 2))
                  (try simp only [Act.put, List.setIfInBounds_toArray, List.set_cons_zero, List.set_cons_succ])
                  go_cut [48] (fun v48 wc => ∃ (kq : Nat) (x48_19 : Bool), v48 = .bool x48_19 ∧ Aside0 (impl_Axis_poses.j2 kq x4_2 l0_4 (l0_4.length : Int) x25_2 x48_19 ((rd_T116 l0_4 x25_2).f0) ((rd_T116 l0_4 x25_2).f1) ((rd_T116 l0_4 x25_2).f2) = some (r1, r2)) ∧ Aside0 (kq ≤ k2) ∧ Aside0 (Kd.R k25 25 wc w.heap.size (fun _ => True) u4 x4_2) ∧ Aside0 (wc.heap[gb225]? = some (.cells #[.int .i64 a0_0, .int .i64 a0_1, .int .i64 a0_2, .int .i64 a0_3, (.slice (some ad231) l0_4.length c0_4)] 39 (0, 0))) ∧ Aside0 (wc.heap[gb232]? = some (.cells #[.int .i64 ((rd_T116 l0_4 x25_2).f0), .int .i64 ((rd_T116 l0_4 x25_2).f1), .int .i64 ((rd_T116 l0_4 x25_2).f2)] 116 (0, 0))) ∧ Aside0 (Below w.heap.size w wc))
                  case first =>
                    have H := HC20.out
                    clear HC20
                    replace H := Option.bind_eq_some_iff.mp H
                    obtain ⟨t233, A240, H⟩ := H
                    replace H : (if t233 = true then ((impl_isTurn.f ((rd_T116 l0_4 x25_2).f1) ((rd_T116 l0_4 x25_2).f2)).bind fun t234 => (if t234 = true then (impl_Axis_poses.j2 k2 x4_2 l0_4 (l0_4.length : Int) x25_2 (decide ((wrap64 ((x4_2.length : Int) + ((rd_T116 l0_4 x25_2).f0))) > 61)) ((rd_T116 l0_4 x25_2).f0) ((rd_T116 l0_4 x25_2).f1) ((rd_T116 l0_4 x25_2).f2)) else (impl_Axis_poses.j2 k2 x4_2 l0_4 (l0_4.length : Int) x25_2 true ((rd_T116 l0_4 x25_2).f0) ((rd_T116 l0_4 x25_2).f1) ((rd_T116 l0_4 x25_2).f2)))) else (impl_Axis_poses.j2 k2 x4_2 l0_4 (l0_4.length : Int) x25_2 true ((rd_T116 l0_4 x25_2).f0) ((rd_T116 l0_4 x25_2).f1) ((rd_T116 l0_4 x25_2).f2))) = some (r1, r2) := H
                    have A24 := Aside0.mk A240
                    clear A240
                    by_cases c25 : t233 = true
                    · subst c25
                      have H1 : ((impl_isTurn.f ((rd_T116 l0_4 x25_2).f1) ((rd_T116 l0_4 x25_2).f2)).bind fun t234 => (if t234 = true then (impl_Axis_poses.j2 k2 x4_2 l0_4 (l0_4.length : Int) x25_2 (decide ((wrap64 ((x4_2.length : Int) + ((rd_T116 l0_4 x25_2).f0))) > 61)) ((rd_T116 l0_4 x25_2).f0) ((rd_T116 l0_4 x25_2).f1) ((rd_T116 l0_4 x25_2).f2)) else (impl_Axis_poses.j2 k2 x4_2 l0_4 (l0_4.length : Int) x25_2 true ((rd_T116 l0_4 x25_2).f0) ((rd_T116 l0_4 x25_2).f1) ((rd_T116 l0_4 x25_2).f2)))) = some (r1, r2) := by rw [if_pos rfl] at H; exact H
                      clear H
                      have H := H1
                      clear H1
                      replace H := Option.bind_eq_some_iff.mp H
                      obtain ⟨t234, A260, H⟩ := H
                      replace H : (if t234 = true then (impl_Axis_poses.j2 k2 x4_2 l0_4 (l0_4.length : Int) x25_2 (decide ((wrap64 ((x4_2.length : Int) + ((rd_T116 l0_4 x25_2).f0))) > 61)) ((rd_T116 l0_4 x25_2).f0) ((rd_T116 l0_4 x25_2).f1) ((rd_T116 l0_4 x25_2).f2)) else (impl_Axis_poses.j2 k2 x4_2 l0_4 (l0_4.length : Int) x25_2 true ((rd_T116 l0_4 x25_2).f0) ((rd_T116 l0_4 x25_2).f1) ((rd_T116 l0_4 x25_2).f2))) = some (r1, r2) := H
                      have A26 := Aside0.mk A260
                      clear A260
                      by_cases c27 : t234 = true
                      · subst c27
                        have H1 : (impl_Axis_poses.j2 k2 x4_2 l0_4 (l0_4.length : Int) x25_2 (decide ((wrap64 ((x4_2.length : Int) + ((rd_T116 l0_4 x25_2).f0))) > 61)) ((rd_T116 l0_4 x25_2).f0) ((rd_T116 l0_4 x25_2).f1) ((rd_T116 l0_4 x25_2).f2)) = some (r1, r2) := by rw [if_pos rfl] at H; exact H
                        clear H
                        have H := H1
                        clear H1
                        have H' := Aside0.mk H
                        clear H
                        have hnb28 := NB232_225.out
                        have hnc28 := NB225_232.out
                        have hcz29_0 : w21.cell? ⟨gb232, 0, none⟩ = some (.int .i64 0) := (blk_cell BK232.out 0).trans rfl
                        have hcz29_1 : w21.cell? ⟨gb232, 1, none⟩ = some (.int .i64 0) := (blk_cell BK232.out 1).trans rfl
                        have hcz29_2 : w21.cell? ⟨gb232, 2, none⟩ = some (.int .i64 0) := (blk_cell BK232.out 2).trans rfl
                        have hfz29_0 := blk_frozen BK232.out 0
                        have hfz29_1 := blk_frozen BK232.out 1
                        have hfz29_2 := blk_frozen BK232.out 2
                        go_wp2_with (first | ((with_reducible refine gate_callee (f := 80) rfl ?_); refine goesL_ (some 31) rfl rfl Try.func80 (by kernel_rfl) rfl #[.int .i64 ((rd_T116 l0_4 x25_2).f0), .int .i64 1, .int .i64 60] rfl (by (try simp only [List.map_toArray, List.map_cons, List.map_nil]); first | done | rfl | (simp only [List.length_drop, List.length_take]; rfl)) ?_; (with_reducible refine (impl_within.calls ((rd_T116 l0_4 x25_2).f0) 1 60 true _ A24.out).mono ?_); rintro e w' ⟨rfl, ⟨nd, rfl⟩⟩; refine ⟨_, rfl, ?_⟩) | (go_at_call 69; (with_reducible refine (impl_isTurn.calls ((rd_T116 l0_4 x25_2).f1) ((rd_T116 l0_4 x25_2).f2) true _ A26.out).mono ?_); rintro e w30 ⟨rfl, hb⟩; have n0_ := Aside0.mk (Kd.R_below (by (with_reducible repeat (first | apply Kd.R_alloc | apply Kd.R_drewN | apply Kd.R_drew)); exact (Kd.R_mono (Kd.R_far (p := ⟨gb232, 2, none⟩) (Kd.R_far (p := ⟨gb232, 1, none⟩) (Kd.R_far (p := ⟨gb232, 0, none⟩) (Kd.R_types HO_4.out BK232.out (by decide)) (fun _ hk => hk.2) (.int .i64 ((rd_T116 l0_4 x25_2).f0))) (fun _ hk => hk.2) (.int .i64 ((rd_T116 l0_4 x25_2).f1))) (fun _ hk => hk.2) (.int .i64 ((rd_T116 l0_4 x25_2).f2))) (fun _ h_ => h_.1))) hb); have n1_ := Aside0.mk (blk_below (g := gb225) (o := .cells #[.int .i64 a0_0, .int .i64 a0_1, .int .i64 a0_2, .int .i64 a0_3, .slice (some ad231) l0_4.length c0_4] 39 (0, 0)) (by (with_reducible repeat (first | refine blk_drewN ?_ _ | refine blk_drew ?_ | refine blk_alloc ?_ _)); refine blk_far ?_ NB225_232.out _; (with_reducible repeat (first | refine blk_drewN ?_ _ | refine blk_drew ?_ | refine blk_alloc ?_ _)); refine blk_far ?_ NB225_232.out _; (with_reducible repeat (first | refine blk_drewN ?_ _ | refine blk_drew ?_ | refine blk_alloc ?_ _)); refine blk_far ?_ NB225_232.out _; (with_reducible repeat (first | refine blk_drewN ?_ _ | refine blk_drew ?_ | refine blk_alloc ?_ _)); exact BK225.out) hb); have n2_ := Aside0.mk (blk_below (g := gb232) (o := .cells #[.int .i64 ((rd_T116 l0_4 x25_2).f0), .int .i64 ((rd_T116 l0_4 x25_2).f1), .int .i64 ((rd_T116 l0_4 x25_2).f2)] 116 (0, 0)) (by (with_reducible repeat (first | refine blk_drewN ?_ _ | refine blk_drew ?_ | refine blk_alloc ?_ _)); refine blk_put (cs := #[.int .i64 ((rd_T116 l0_4 x25_2).f0), .int .i64 ((rd_T116 l0_4 x25_2).f1), .int .i64 0]) ?_ 2 _ rfl; (with_reducible repeat (first | refine blk_drewN ?_ _ | refine blk_drew ?_ | refine blk_alloc ?_ _)); refine blk_put (cs := #[.int .i64 ((rd_T116 l0_4 x25_2).f0), .int .i64 0, .int .i64 0]) ?_ 1 _ rfl; (with_reducible repeat (first | refine blk_drewN ?_ _ | refine blk_drew ?_ | refine blk_alloc ?_ _)); refine blk_put (cs := #[.int .i64 0, .int .i64 0, .int .i64 0]) ?_ 0 _ rfl; (with_reducible repeat (first | refine blk_drewN ?_ _ | refine blk_drew ?_ | refine blk_alloc ?_ _)); exact BK232.out) hb); have n3_ := Aside0.mk (below_step (by repeat (first | (with_reducible first | exact HB.out | apply below_alloc | apply pw_below_drewN | apply below_drew1 | refine below_set ?_ GE225.out | refine below_set ?_ GE232.out) | exact HB.out)) hb); clear HO_4; clear BK225; clear BK232; clear HB; have HO_4 := n0_; have BK225 := n1_; have BK232 := n2_; have HB := n3_; clear n0_ n1_ n2_ n3_; (try clear hb); (try clear hb2); (try clear hk); (try clear hi); obtain ⟨Ao31, co31, eo31⟩ := Kd.R_slice HO_4.out; subst eo31; have hcz32_0 : w30.cell? ⟨gb232, 0, none⟩ = some (.int .i64 ((rd_T116 l0_4 x25_2).f0)) := (blk_cell BK232.out 0).trans rfl; have hcz32_1 : w30.cell? ⟨gb232, 1, none⟩ = some (.int .i64 ((rd_T116 l0_4 x25_2).f1)) := (blk_cell BK232.out 1).trans rfl; have hcz32_2 : w30.cell? ⟨gb232, 2, none⟩ = some (.int .i64 ((rd_T116 l0_4 x25_2).f2)) := (blk_cell BK232.out 2).trans rfl; have hfz32_0 := blk_frozen BK232.out 0; have hfz32_1 := blk_frozen BK232.out 1; have hfz32_2 := blk_frozen BK232.out 2))
                        go_meet
                        case rel => exact ⟨_, (decide ((wrap64 ((x4_2.length : Int) + ((rd_T116 l0_4 x25_2).f0))) > 61)), (by first | rfl | (simp; done) | (simp [*]; done)), H', ⟨by have := HJ1.out; have := HK2.out; first | omega | exact Nat.le_refl _⟩, ⟨by (with_reducible repeat (first | apply Kd.R_alloc | apply Kd.R_drewN | apply Kd.R_drew)); exact HO_4.out⟩, ⟨by (with_reducible repeat (first | refine blk_drewN ?_ _ | refine blk_drew ?_ | refine blk_alloc ?_ _)); exact BK225.out⟩, ⟨by (with_reducible repeat (first | refine blk_drewN ?_ _ | refine blk_drew ?_ | refine blk_alloc ?_ _)); exact BK232.out⟩, ⟨by repeat (first | (with_reducible first | exact HB.out | apply below_alloc | apply pw_below_drewN | apply below_drew1 | refine below_set ?_ GE225.out | refine below_set ?_ GE232.out) | exact HB.out)⟩⟩
                      · replace c27 := Bool.eq_false_iff.mpr c27
                        subst c27
                        have H1 : (impl_Axis_poses.j2 k2 x4_2 l0_4 (l0_4.length : Int) x25_2 true ((rd_T116 l0_4 x25_2).f0) ((rd_T116 l0_4 x25_2).f1) ((rd_T116 l0_4 x25_2).f2)) = some (r1, r2) := by rw [if_neg (show ¬ (false = true) by decide)] at H; exact H
                        clear H
                        have H := H1
                        clear H1
                        have H' := Aside0.mk H
                        clear H
                        have hnb33 := NB232_225.out
                        have hnc33 := NB225_232.out
                        have hcz34_0 : w21.cell? ⟨gb232, 0, none⟩ = some (.int .i64 0) := (blk_cell BK232.out 0).trans rfl
                        have hcz34_1 : w21.cell? ⟨gb232, 1, none⟩ = some (.int .i64 0) := (blk_cell BK232.out 1).trans rfl
                        have hcz34_2 : w21.cell? ⟨gb232, 2, none⟩ = some (.int .i64 0) := (blk_cell BK232.out 2).trans rfl
                        have hfz34_0 := blk_frozen BK232.out 0
                        have hfz34_1 := blk_frozen BK232.out 1
                        have hfz34_2 := blk_frozen BK232.out 2
                        go_wp2_with (first | ((with_reducible refine gate_callee (f := 80) rfl ?_); refine goesL_ (some 31) rfl rfl Try.func80 (by kernel_rfl) rfl #[.int .i64 ((rd_T116 l0_4 x25_2).f0), .int .i64 1, .int .i64 60] rfl (by (try simp only [List.map_toArray, List.map_cons, List.map_nil]); first | done | rfl | (simp only [List.length_drop, List.length_take]; rfl)) ?_; (with_reducible refine (impl_within.calls ((rd_T116 l0_4 x25_2).f0) 1 60 true _ A24.out).mono ?_); rintro e w' ⟨rfl, ⟨nd, rfl⟩⟩; refine ⟨_, rfl, ?_⟩) | (go_at_call 69; (with_reducible refine (impl_isTurn.calls ((rd_T116 l0_4 x25_2).f1) ((rd_T116 l0_4 x25_2).f2) false _ A26.out).mono ?_); rintro e w35 ⟨rfl, hb⟩; have n0_ := Aside0.mk (Kd.R_below (by (with_reducible repeat (first | apply Kd.R_alloc | apply Kd.R_drewN | apply Kd.R_drew)); exact (Kd.R_mono (Kd.R_far (p := ⟨gb232, 2, none⟩) (Kd.R_far (p := ⟨gb232, 1, none⟩) (Kd.R_far (p := ⟨gb232, 0, none⟩) (Kd.R_types HO_4.out BK232.out (by decide)) (fun _ hk => hk.2) (.int .i64 ((rd_T116 l0_4 x25_2).f0))) (fun _ hk => hk.2) (.int .i64 ((rd_T116 l0_4 x25_2).f1))) (fun _ hk => hk.2) (.int .i64 ((rd_T116 l0_4 x25_2).f2))) (fun _ h_ => h_.1))) hb); have n1_ := Aside0.mk (blk_below (g := gb225) (o := .cells #[.int .i64 a0_0, .int .i64 a0_1, .int .i64 a0_2, .int .i64 a0_3, .slice (some ad231) l0_4.length c0_4] 39 (0, 0)) (by (with_reducible repeat (first | refine blk_drewN ?_ _ | refine blk_drew ?_ | refine blk_alloc ?_ _)); refine blk_far ?_ NB225_232.out _; (with_reducible repeat (first | refine blk_drewN ?_ _ | refine blk_drew ?_ | refine blk_alloc ?_ _)); refine blk_far ?_ NB225_232.out _; (with_reducible repeat (first | refine blk_drewN ?_ _ | refine blk_drew ?_ | refine blk_alloc ?_ _)); refine blk_far ?_ NB225_232.out _; (with_reducible repeat (first | refine blk_drewN ?_ _ | refine blk_drew ?_ | refine blk_alloc ?_ _)); exact BK225.out) hb); have n2_ := Aside0.mk (blk_below (g := gb232) (o := .cells #[.int .i64 ((rd_T116 l0_4 x25_2).f0), .int .i64 ((rd_T116 l0_4 x25_2).f1), .int .i64 ((rd_T116 l0_4 x25_2).f2)] 116 (0, 0)) (by (with_reducible repeat (first | refine blk_drewN ?_ _ | refine blk_drew ?_ | refine blk_alloc ?_ _)); refine blk_put (cs := #[.int .i64 ((rd_T116 l0_4 x25_2).f0), .int .i64 ((rd_T116 l0_4 x25_2).f1), .int .i64 0]) ?_ 2 _ rfl; (with_reducible repeat (first | refine blk_drewN ?_ _ | refine blk_drew ?_ | refine blk_alloc ?_ _)); refine blk_put (cs := #[.int .i64 ((rd_T116 l0_4 x25_2).f0), .int .i64 0, .int .i64 0]) ?_ 1 _ rfl; (with_reducible repeat (first | refine blk_drewN ?_ _ | refine blk_drew ?_ | refine blk_alloc ?_ _)); refine blk_put (cs := #[.int .i64 0, .int .i64 0, .int .i64 0]) ?_ 0 _ rfl; (with_reducible repeat (first | refine blk_drewN ?_ _ | refine blk_drew ?_ | refine blk_alloc ?_ _)); exact BK232.out) hb); have n3_ := Aside0.mk (below_step (by repeat (first | (with_reducible first | exact HB.out | apply below_alloc | apply pw_below_drewN | apply below_drew1 | refine below_set ?_ GE225.out | refine below_set ?_ GE232.out) | exact HB.out)) hb); clear HO_4; clear BK225; clear BK232; clear HB; have HO_4 := n0_; have BK225 := n1_; have BK232 := n2_; have HB := n3_; clear n0_ n1_ n2_ n3_; (try clear hb); (try clear hb2); (try clear hk); (try clear hi)))
                        go_meet
                        case rel => exact ⟨_, (true), (by first | rfl | (simp; done) | (simp [*]; done)), H', ⟨by have := HJ1.out; have := HK2.out; first | omega | exact Nat.le_refl _⟩, ⟨by (with_reducible repeat (first | apply Kd.R_alloc | apply Kd.R_drewN | apply Kd.R_drew)); exact HO_4.out⟩, ⟨by (with_reducible repeat (first | refine blk_drewN ?_ _ | refine blk_drew ?_ | refine blk_alloc ?_ _)); exact BK225.out⟩, ⟨by (with_reducible repeat (first | refine blk_drewN ?_ _ | refine blk_drew ?_ | refine blk_alloc ?_ _)); exact BK232.out⟩, ⟨by repeat (first | (with_reducible first | exact HB.out | apply below_alloc | apply pw_below_drewN | apply below_drew1 | refine below_set ?_ GE225.out | refine below_set ?_ GE232.out) | exact HB.out)⟩⟩
                    · replace c25 := Bool.eq_false_iff.mpr c25
                      subst c25
                      have H1 : (impl_Axis_poses.j2 k2 x4_2 l0_4 (l0_4.length : Int) x25_2 true ((rd_T116 l0_4 x25_2).f0) ((rd_T116 l0_4 x25_2).f1) ((rd_T116 l0_4 x25_2).f2)) = some (r1, r2) := by rw [if_neg (show ¬ (false = true) by decide)] at H; exact H
                      clear H
                      have H := H1
                      clear H1
                      have H' := Aside0.mk H
                      clear H
                      have hnb36 := NB232_225.out
                      have hnc36 := NB225_232.out
                      have hcz37_0 : w21.cell? ⟨gb232, 0, none⟩ = some (.int .i64 0) := (blk_cell BK232.out 0).trans rfl
                      have hcz37_1 : w21.cell? ⟨gb232, 1, none⟩ = some (.int .i64 0) := (blk_cell BK232.out 1).trans rfl
                      have hcz37_2 : w21.cell? ⟨gb232, 2, none⟩ = some (.int .i64 0) := (blk_cell BK232.out 2).trans rfl
                      have hfz37_0 := blk_frozen BK232.out 0
                      have hfz37_1 := blk_frozen BK232.out 1
                      have hfz37_2 := blk_frozen BK232.out 2
                      go_wp2_with (first | ((with_reducible refine gate_callee (f := 80) rfl ?_); refine goesL_ (some 31) rfl rfl Try.func80 (by kernel_rfl) rfl #[.int .i64 ((rd_T116 l0_4 x25_2).f0), .int .i64 1, .int .i64 60] rfl (by (try simp only [List.map_toArray, List.map_cons, List.map_nil]); first | done | rfl | (simp only [List.length_drop, List.length_take]; rfl)) ?_; (with_reducible refine (impl_within.calls ((rd_T116 l0_4 x25_2).f0) 1 60 false _ A24.out).mono ?_); rintro e w' ⟨rfl, ⟨nd, rfl⟩⟩; refine ⟨_, rfl, ?_⟩))
                      go_meet
                      case rel => exact ⟨_, (true), (by first | rfl | (simp; done) | (simp [*]; done)), H', ⟨by have := HJ1.out; have := HK2.out; first | omega | exact Nat.le_refl _⟩, ⟨by (with_reducible repeat (first | apply Kd.R_alloc | apply Kd.R_drewN | apply Kd.R_drew)); exact Kd.R_mono (Kd.R_far (p := ⟨gb232, 2, none⟩) (Kd.R_far (p := ⟨gb232, 1, none⟩) (Kd.R_far (p := ⟨gb232, 0, none⟩) (Kd.R_types HO_4.out BK232.out (by decide)) (fun _ hk => hk.2) (.int .i64 ((rd_T116 l0_4 x25_2).f0))) (fun _ hk => hk.2) (.int .i64 ((rd_T116 l0_4 x25_2).f1))) (fun _ hk => hk.2) (.int .i64 ((rd_T116 l0_4 x25_2).f2))) (fun _ hk => trivial)⟩, ⟨by (with_reducible repeat (first | refine blk_drewN ?_ _ | refine blk_drew ?_ | refine blk_alloc ?_ _)); refine blk_far ?_ NB225_232.out _; (with_reducible repeat (first | refine blk_drewN ?_ _ | refine blk_drew ?_ | refine blk_alloc ?_ _)); refine blk_far ?_ NB225_232.out _; (with_reducible repeat (first | refine blk_drewN ?_ _ | refine blk_drew ?_ | refine blk_alloc ?_ _)); refine blk_far ?_ NB225_232.out _; (with_reducible repeat (first | refine blk_drewN ?_ _ | refine blk_drew ?_ | refine blk_alloc ?_ _)); exact BK225.out⟩, ⟨by (with_reducible repeat (first | refine blk_drewN ?_ _ | refine blk_drew ?_ | refine blk_alloc ?_ _)); refine blk_put (cs := #[.int .i64 ((rd_T116 l0_4 x25_2).f0), .int .i64 ((rd_T116 l0_4 x25_2).f1), .int .i64 0]) ?_ 2 _ rfl; (with_reducible repeat (first | refine blk_drewN ?_ _ | refine blk_drew ?_ | refine blk_alloc ?_ _)); refine blk_put (cs := #[.int .i64 ((rd_T116 l0_4 x25_2).f0), .int .i64 0, .int .i64 0]) ?_ 1 _ rfl; (with_reducible repeat (first | refine blk_drewN ?_ _ | refine blk_drew ?_ | refine blk_alloc ?_ _)); refine blk_put (cs := #[.int .i64 0, .int .i64 0, .int .i64 0]) ?_ 0 _ rfl; (with_reducible repeat (first | refine blk_drewN ?_ _ | refine blk_drew ?_ | refine blk_alloc ?_ _)); exact BK232.out⟩, ⟨by repeat (first | (with_reducible first | exact HB.out | apply below_alloc | apply pw_below_drewN | apply below_drew1 | refine below_set ?_ GE225.out | refine below_set ?_ GE232.out) | exact HB.out)⟩⟩
                  case rest =>
                    clear HC20
                    try clear c1
                    try clear c2
                    try clear p2
                    try clear q2
                    try clear hx2
                    try clear c3
                    try clear c4
                    try clear p6
                    try clear c7
                    try clear c8
                    try clear c15
                    try clear c17
                    try clear c17b0
                    try clear c18
                    try clear c18b0
                    try clear c19
                    try clear c19b0
                    try clear c22
                    try clear p23
                    try clear q23
                    try clear hx23
                    try clear c25
                    try clear c27
                    try clear c28
                    try clear c33
                    try clear c36
                    try clear hcz10_0
                    try clear hcz10_1
                    try clear hcz10_2
                    try clear hcz10_3
                    try clear hcz10_4
                    try clear hcz12_0
                    try clear hcz12_1
                    try clear hcz12_2
                    try clear hcz12_3
                    try clear hcz12_4
                    try clear hcz13_0
                    try clear hcz13_1
                    try clear hcz13_2
                    try clear hcz13_3
                    try clear hcz13_4
                    try clear hcz16_0
                    try clear hcz16_1
                    try clear hcz16_2
                    try clear hcz16_3
                    try clear hcz16_4
                    try clear hcz23_0
                    try clear hcz23_1
                    try clear hcz23_2
                    try clear hcz29_0
                    try clear hcz29_1
                    try clear hcz29_2
                    try clear hcz32_0
                    try clear hcz32_1
                    try clear hcz32_2
                    try clear hcz34_0
                    try clear hcz34_1
                    try clear hcz34_2
                    try clear hcz37_0
                    try clear hcz37_1
                    try clear hcz37_2
                    try clear hcz4_0
                    try clear hcz4_1
                    try clear hcz4_2
                    try clear hcz4_3
                    try clear hcz4_4
                    try clear hfz10_0
                    try clear hfz10_1
                    try clear hfz10_2
                    try clear hfz10_3
                    try clear hfz10_4
                    try clear hfz12_0
                    try clear hfz12_1
                    try clear hfz12_2
                    try clear hfz12_3
                    try clear hfz12_4
                    try clear hfz13_0
                    try clear hfz13_1
                    try clear hfz13_2
                    try clear hfz13_3
                    try clear hfz13_4
                    try clear hfz16_0
                    try clear hfz16_1
                    try clear hfz16_2
                    try clear hfz16_3
                    try clear hfz16_4
                    try clear hfz23_0
                    try clear hfz23_1
                    try clear hfz23_2
                    try clear hfz29_0
                    try clear hfz29_1
                    try clear hfz29_2
                    try clear hfz32_0
                    try clear hfz32_1
                    try clear hfz32_2
                    try clear hfz34_0
                    try clear hfz34_1
                    try clear hfz34_2
                    try clear hfz37_0
                    try clear hfz37_1
                    try clear hfz37_2
                    try clear hfz4_0
                    try clear hfz4_1
                    try clear hfz4_2
                    try clear hfz4_3
                    try clear hfz4_4
                    try clear hx231_0
                    try clear hx231_1
                    try clear hx231_2
                    try clear p2
                    try clear p231
                    try clear q231
                    obtain ⟨kq, x48_19, rfl, HA, HJ19, HO_4, BK225, BK232, HB⟩ := hcut
                    cases kq with
                    | zero => exact absurd HA.out (by simp [impl_Axis_poses.j2])
                    | succ kj19 =>
                      have H := HA.out
                      clear HA
                      simp only [impl_Axis_poses.j2] at H
                      by_cases c38 : x48_19 = true
                      · subst c38
                        have H1 : (some (([] : List (S25)), false)) = some (r1, r2) := by rw [if_pos rfl] at H; exact H
                        clear H
                        have H := H1
                        clear H1
                        simp only [Option.some.injEq, Prod.mk.injEq] at H
                        obtain ⟨rfl, rfl⟩ := H
                        go_wp2
                        go_ret2
                        exact ⟨_, by first | rfl | (simp [errW_none, errW_some] <;> rfl) | (simp [*, errW_none, errW_some] <;> rfl), by first | exact Kd.R_nil _ _ _ _ _ | exact Kd.N_nil _ _ _ _ _ | exact Kd.V_nil _ _ _ _ _ | exact Kd.Q_nil _ _ _ _ _ | exact Kd.S_nil _ _ _ _ _, by repeat (first | (with_reducible first | exact HB.out | apply below_alloc | apply pw_below_drewN | apply below_drew1 | refine below_set ?_ GE225.out | refine below_set ?_ GE232.out) | exact HB.out)⟩
                      · replace c38 := Bool.eq_false_iff.mpr c38
                        subst c38
                        have H1 : (impl_Axis_poses.l1 kj19 x4_2 l0_4 (l0_4.length : Int) x25_2 ((rd_T116 l0_4 x25_2).f0) 0 ((rd_T116 l0_4 x25_2).f0) ((rd_T116 l0_4 x25_2).f1) ((rd_T116 l0_4 x25_2).f2)) = some (r1, r2) := by rw [if_neg (show ¬ (false = true) by decide)] at H; exact H
                        clear H
                        have H := H1
                        clear H1
                        have H' := Aside0.mk H
                        clear H
                        have hnb39 := NB232_225.out
                        have hnc39 := NB225_232.out
                        have hcz40_0 : wc.cell? ⟨gb232, 0, none⟩ = some (.int .i64 ((rd_T116 l0_4 x25_2).f0)) := (blk_cell BK232.out 0).trans rfl
                        have hcz40_1 : wc.cell? ⟨gb232, 1, none⟩ = some (.int .i64 ((rd_T116 l0_4 x25_2).f1)) := (blk_cell BK232.out 1).trans rfl
                        have hcz40_2 : wc.cell? ⟨gb232, 2, none⟩ = some (.int .i64 ((rd_T116 l0_4 x25_2).f2)) := (blk_cell BK232.out 2).trans rfl
                        have hfz40_0 := blk_frozen BK232.out 0
                        have hfz40_1 := blk_frozen BK232.out 1
                        have hfz40_2 := blk_frozen BK232.out 2
                        go_wp2
                        go_loopg [4, 51] kj19 (fun kq v4 v51 w' => ∃ (x4_4 : List (S25)) (x51_4 : Int), v51 = .int .i64 x51_4 ∧ Aside0 (impl_Axis_poses.l1 kq x4_4 l0_4 (l0_4.length : Int) x25_2 ((rd_T116 l0_4 x25_2).f0) x51_4 ((rd_T116 l0_4 x25_2).f0) ((rd_T116 l0_4 x25_2).f1) ((rd_T116 l0_4 x25_2).f2) = some (r1, r2)) ∧ Aside0 (kq ≤ kj19) ∧ Aside0 (Kd.R k25 25 w' w.heap.size (fun _ => True) v4 x4_4) ∧ Aside0 (w'.heap[gb225]? = some (.cells #[.int .i64 a0_0, .int .i64 a0_1, .int .i64 a0_2, .int .i64 a0_3, (.slice (some ad231) l0_4.length c0_4)] 39 (0, 0))) ∧ Aside0 (w'.heap[gb232]? = some (.cells #[.int .i64 ((rd_T116 l0_4 x25_2).f0), .int .i64 ((rd_T116 l0_4 x25_2).f1), .int .i64 ((rd_T116 l0_4 x25_2).f2)] 116 (0, 0))) ∧ Aside0 (Below w.heap.size w w'))
                        case atStart => exact ⟨(x4_2), (0), (by first | rfl | (simp; done) | (simp [*]; done)), H', ⟨Nat.le_refl _⟩, ⟨by (with_reducible repeat (first | apply Kd.R_alloc | apply Kd.R_drewN | apply Kd.R_drew)); exact HO_4.out⟩, ⟨by (with_reducible repeat (first | refine blk_drewN ?_ _ | refine blk_drew ?_ | refine blk_alloc ?_ _)); exact BK225.out⟩, ⟨by (with_reducible repeat (first | refine blk_drewN ?_ _ | refine blk_drew ?_ | refine blk_alloc ?_ _)); exact BK232.out⟩, ⟨by repeat (first | (with_reducible first | exact HB.out | apply below_alloc | apply pw_below_drewN | apply below_drew1 | refine below_set ?_ GE225.out | refine below_set ?_ GE232.out) | exact HB.out)⟩⟩
                        case round =>
                          clear H'
                          try clear c1
                          try clear c2
                          try clear p2
                          try clear q2
                          try clear hx2
                          try clear c3
                          try clear c4
                          try clear p6
                          try clear c7
                          try clear c8
                          try clear c15
                          try clear c17
                          try clear c17b0
                          try clear c18
                          try clear c18b0
                          try clear c19
                          try clear c19b0
                          try clear c22
                          try clear p23
                          try clear q23
                          try clear hx23
                          try clear c25
                          try clear c27
                          try clear c28
                          try clear c33
                          try clear c36
                          try clear c38
                          try clear c39
                          try clear hcz10_0
                          try clear hcz10_1
                          try clear hcz10_2
                          try clear hcz10_3
                          try clear hcz10_4
                          try clear hcz12_0
                          try clear hcz12_1
                          try clear hcz12_2
                          try clear hcz12_3
                          try clear hcz12_4
                          try clear hcz13_0
                          try clear hcz13_1
                          try clear hcz13_2
                          try clear hcz13_3
                          try clear hcz13_4
                          try clear hcz16_0
                          try clear hcz16_1
                          try clear hcz16_2
                          try clear hcz16_3
                          try clear hcz16_4
                          try clear hcz23_0
                          try clear hcz23_1
                          try clear hcz23_2
                          try clear hcz29_0
                          try clear hcz29_1
                          try clear hcz29_2
                          try clear hcz32_0
                          try clear hcz32_1
                          try clear hcz32_2
                          try clear hcz34_0
                          try clear hcz34_1
                          try clear hcz34_2
                          try clear hcz37_0
                          try clear hcz37_1
                          try clear hcz37_2
                          try clear hcz40_0
                          try clear hcz40_1
                          try clear hcz40_2
                          try clear hcz4_0
                          try clear hcz4_1
                          try clear hcz4_2
                          try clear hcz4_3
                          try clear hcz4_4
                          try clear hfz10_0
                          try clear hfz10_1
                          try clear hfz10_2
                          try clear hfz10_3
                          try clear hfz10_4
                          try clear hfz12_0
                          try clear hfz12_1
                          try clear hfz12_2
                          try clear hfz12_3
                          try clear hfz12_4
                          try clear hfz13_0
                          try clear hfz13_1
                          try clear hfz13_2
                          try clear hfz13_3
                          try clear hfz13_4
                          try clear hfz16_0
                          try clear hfz16_1
                          try clear hfz16_2
                          try clear hfz16_3
                          try clear hfz16_4
                          try clear hfz23_0
                          try clear hfz23_1
                          try clear hfz23_2
                          try clear hfz29_0
                          try clear hfz29_1
                          try clear hfz29_2
                          try clear hfz32_0
                          try clear hfz32_1
                          try clear hfz32_2
                          try clear hfz34_0
                          try clear hfz34_1
                          try clear hfz34_2
                          try clear hfz37_0
                          try clear hfz37_1
                          try clear hfz37_2
                          try clear hfz40_0
                          try clear hfz40_1
                          try clear hfz40_2
                          try clear hfz4_0
                          try clear hfz4_1
                          try clear hfz4_2
                          try clear hfz4_3
                          try clear hfz4_4
                          try clear hx231_0
                          try clear hx231_1
                          try clear hx231_2
                          try clear p2
                          try clear p23
                          try clear p231
                          try clear p6
                          try clear q2
                          try clear q23
                          try clear q231
                          obtain ⟨x4_4, x51_4, rfl, HA, HK4, HO_4, BK225, BK232, HB⟩ := hrel
                          cases gk with
                          | zero => exact absurd HA.out (by simp [impl_Axis_poses.l1])
                          | succ k4 =>
                            have H := HA.out
                            clear HA
                            simp only [impl_Axis_poses.l1] at H
                            by_cases c41 : x51_4 < ((rd_T116 l0_4 x25_2).f0)
                            · rw [if_pos c41] at H
                              have c41b0 : decide (x51_4 < ((rd_T116 l0_4 x25_2).f0)) = true := decide_eq_true c41
                              clear c41
                              obtain ⟨ji42, hji42⟩ : ∃ j_ : Int, (wrap64 ((x4_4.length : Int) - 1)) = j_ := ⟨_, rfl⟩
                              replace H : (if 0 ≤ (ji42) then (if (ji42) < (x4_4.length : Int) then ((impl_Pose_next.f ((rd_T25 x4_4 (ji42)).f0) ((rd_T25 x4_4 (ji42)).f1) ((rd_T25 x4_4 (ji42)).f2) ((rd_T25 x4_4 (ji42)).f3) ((rd_T116 l0_4 x25_2).f1) ((rd_T116 l0_4 x25_2).f2)).bind fun bt236 => ((impl_ValidPose.f bt236.1 bt236.2.1 bt236.2.2.1 bt236.2.2.2).bind fun t241 => (if t241 = true then (if x4_4.length < 4398046511104 then (impl_Axis_poses.l1 k4 (x4_4 ++ [(⟨bt236.1, bt236.2.1, bt236.2.2.1, bt236.2.2.2⟩ : S25)]) l0_4 (l0_4.length : Int) x25_2 ((rd_T116 l0_4 x25_2).f0) (wrap64 (x51_4 + 1)) ((rd_T116 l0_4 x25_2).f0) ((rd_T116 l0_4 x25_2).f1) ((rd_T116 l0_4 x25_2).f2)) else (none)) else (some (([] : List (S25)), false))))) else (none)) else (none)) = some (r1, r2) := by first | (rw [hji42] at H; exact H) | (simp only [hji42] at H ⊢; exact H)
                              have hji42w : (IntKind.i64.wrap ((x4_4.length : Int) - 1)) = ji42 := (i64_w _).trans hji42
                              by_cases c43 : 0 ≤ (ji42)
                              · rw [if_pos c43] at H
                                have c43b0 : decide (0 ≤ (ji42)) = true := decide_eq_true c43
                                clear c43
                                by_cases c44 : (ji42) < (x4_4.length : Int)
                                · rw [if_pos c44] at H
                                  have c44b0 : decide ((ji42) < (x4_4.length : Int)) = true := decide_eq_true c44
                                  clear c44
                                  replace H := Option.bind_eq_some_iff.mp H
                                  obtain ⟨⟨t236, t237, t238, t239⟩, A450, H⟩ := H
                                  replace H : ((impl_ValidPose.f t236 t237 t238 t239).bind fun t241 => (if t241 = true then (if x4_4.length < 4398046511104 then (impl_Axis_poses.l1 k4 (x4_4 ++ [(⟨t236, t237, t238, t239⟩ : S25)]) l0_4 (l0_4.length : Int) x25_2 ((rd_T116 l0_4 x25_2).f0) (wrap64 (x51_4 + 1)) ((rd_T116 l0_4 x25_2).f0) ((rd_T116 l0_4 x25_2).f1) ((rd_T116 l0_4 x25_2).f2)) else (none)) else (some (([] : List (S25)), false)))) = some (r1, r2) := H
                                  have A45 := Aside0.mk A450
                                  clear A450
                                  replace H := Option.bind_eq_some_iff.mp H
                                  obtain ⟨t241, A460, H⟩ := H
                                  replace H : (if t241 = true then (if x4_4.length < 4398046511104 then (impl_Axis_poses.l1 k4 (x4_4 ++ [(⟨t236, t237, t238, t239⟩ : S25)]) l0_4 (l0_4.length : Int) x25_2 ((rd_T116 l0_4 x25_2).f0) (wrap64 (x51_4 + 1)) ((rd_T116 l0_4 x25_2).f0) ((rd_T116 l0_4 x25_2).f1) ((rd_T116 l0_4 x25_2).f2)) else (none)) else (some (([] : List (S25)), false))) = some (r1, r2) := H
                                  have A46 := Aside0.mk A460
                                  clear A460
                                  by_cases c47 : t241 = true
                                  · subst c47
                                    have H1 : (if x4_4.length < 4398046511104 then (impl_Axis_poses.l1 k4 (x4_4 ++ [(⟨t236, t237, t238, t239⟩ : S25)]) l0_4 (l0_4.length : Int) x25_2 ((rd_T116 l0_4 x25_2).f0) (wrap64 (x51_4 + 1)) ((rd_T116 l0_4 x25_2).f0) ((rd_T116 l0_4 x25_2).f1) ((rd_T116 l0_4 x25_2).f2)) else (none)) = some (r1, r2) := by rw [if_pos rfl] at H; exact H
                                    clear H
                                    have H := H1
                                    clear H1
                                    by_cases c48 : x4_4.length < 4398046511104
                                    · rw [if_pos c48] at H
                                      have LMc48 := Aside0.mk c48
                                      clear c48
                                      obtain ⟨y242, hy242⟩ : ∃ y_ : List (S25), y_ = (x4_4 ++ [(⟨t236, t237, t238, t239⟩ : S25)]) := ⟨_, rfl⟩
                                      replace H : (impl_Axis_poses.l1 k4 y242 l0_4 (l0_4.length : Int) x25_2 ((rd_T116 l0_4 x25_2).f0) (wrap64 (x51_4 + 1)) ((rd_T116 l0_4 x25_2).f0) ((rd_T116 l0_4 x25_2).f1) ((rd_T116 l0_4 x25_2).f2)) = some (r1, r2) := by first | (rw [hy242]; with_reducible exact H) | (have H2_ := (Option.bind_some _ _).symm.trans H; rw [hy242]; with_reducible exact H2_) | (have H2_ := (Option.bind_some _ _).symm.trans H; with_reducible exact H2_) | with_reducible exact H | (rw [hy242]; exact H) | exact H
                                      have Ny242 := Aside0.mk hy242
                                      clear hy242
                                      have H' := Aside0.mk H
                                      clear H
                                      try go_wp2
                                      have n0_ := Aside0.mk (Kd.R_drew HO_4.out)
                                      have n1_ := Aside0.mk (blk_drew BK225.out)
                                      have n2_ := Aside0.mk (blk_drew BK232.out)
                                      have n3_ := Aside0.mk (below_drew1 HB.out)
                                      clear HO_4
                                      clear BK225
                                      clear BK232
                                      clear HB
                                      have HO_4 := n0_
                                      have BK225 := n1_
                                      have BK232 := n2_
                                      have HB := n3_
                                      clear n0_ n1_ n2_ n3_
                                      obtain ⟨Ao50, co50, eo50⟩ := Kd.R_slice HO_4.out
                                      (first | subst eo50 | (injection eo50 with f1_ f2_ f3_; have f4_ := f1_.symm; have f5_ := f3_.symm; clear f1_ f2_ f3_; subst f4_; subst f5_))
                                      have p235 : 0 ≤ ((ji42) : Int) := of_decide_eq_true (by first | (with_reducible assumption) | assumption)
                                      have q235 : (ji42) < (x4_4.length : Int) := of_decide_eq_true (by first | (with_reducible assumption) | assumption)
                                      obtain ⟨ad235, e235, hx235_0, hx235_1, hx235_2, hx235_3⟩ := at_T25 (Kd.R_reads' HO_4.out).2.2 (ji42) p235 q235
                                      cases e235
                                      replace p235 := eq_true p235
                                      replace q235 := eq_true q235
                                      refine start_ (n := 13) (S := fun w' => w'.cell? ⟨gb232, 0, none⟩ = some (.int .i64 ((rd_T116 l0_4 x25_2).f0)) ∧ w'.cell? ⟨gb232, 1, none⟩ = some (.int .i64 ((rd_T116 l0_4 x25_2).f1)) ∧ w'.cell? ⟨gb232, 2, none⟩ = some (.int .i64 ((rd_T116 l0_4 x25_2).f2)) ∧ w'.cell? (ad235.add (((ji42)).toNat * 4)) = some (.int .i64 ((rd_T25 x4_4 (ji42)).f0)) ∧ w'.cell? ⟨(ad235.add (((ji42)).toNat * 4)).block, (ad235.add (((ji42)).toNat * 4)).off + 1, none⟩ = some (.int .i64 ((rd_T25 x4_4 (ji42)).f1)) ∧ w'.cell? ⟨(ad235.add (((ji42)).toNat * 4)).block, (ad235.add (((ji42)).toNat * 4)).off + 2, none⟩ = some (.int .i64 ((rd_T25 x4_4 (ji42)).f2)) ∧ w'.cell? ⟨(ad235.add (((ji42)).toNat * 4)).block, (ad235.add (((ji42)).toNat * 4)).off + 3, none⟩ = some (.int .i64 ((rd_T25 x4_4 (ji42)).f3))) (ds := []) #[false, false, false, false, false, false, false, false, false, false, false, false, false] (by kernel_rfl) rfl rfl ⟨(blk_cell BK232.out 0).trans rfl, (blk_cell BK232.out 1).trans rfl, (blk_cell BK232.out 2).trans rfl, hx235_0, hx235_1, hx235_2, hx235_3⟩ (fun hHeld => ?_); refine with_tabW impl_Axis_poses.tab11 impl_Axis_poses.bits11 (fun HT_ HW_ => ?_)
                                      generalize wr.drew = w49 at HO_4 BK225 BK232 HB hx235_0 hx235_1 hx235_2 hx235_3 hHeld ⊢
                                      refine pure_ (i := 0) (N := some 53) (v := ?_) (a' := ?_) #[true, false, false, false, false, false, false, false, false, false, false, false, false] rfl rfl (any_of HT_.out (by kernel_rfl)) (fun _ _ _ h => h) (Or.inl ⟨by rfl, ?_⟩) ?_ ?_
                                      rotate_left
                                      · intro w'
                                        go_simp
                                        with_reducible rfl
                                      rotate_left
                                      · simp only [Act.put, List.setIfInBounds_toArray, List.set_cons_zero, List.set_cons_succ, i64_w, i32_w]
                                        rfl
                                      refine pure_ (i := 1) (N := some 54) (v := ?_) (a' := ?_) #[true, true, false, false, false, false, false, false, false, false, false, false, false] rfl rfl (any_of HT_.out (by kernel_rfl)) (fun _ _ _ h => h) (Or.inl ⟨by rfl, ?_⟩) ?_ ?_
                                      rotate_left
                                      · intro w'
                                        go_simp
                                        with_reducible rfl
                                      rotate_left
                                      · simp only [Act.put, List.setIfInBounds_toArray, List.set_cons_zero, List.set_cons_succ, i64_w, i32_w]
                                        rfl
                                      refine pure_ (i := 2) (N := some 55) (v := ?_) (a' := ?_) #[true, true, true, false, false, false, false, false, false, false, false, false, false] rfl rfl (any_of HT_.out (by kernel_rfl)) (fun _ _ _ h => h) (Or.inl ⟨by rfl, ?_⟩) ?_ ?_
                                      rotate_left
                                      · intro w'
                                        go_simp
                                        with_reducible rfl
                                      rotate_left
                                      · simp only [Act.put, List.setIfInBounds_toArray, List.set_cons_zero, List.set_cons_succ, i64_w, i32_w]
                                        rfl
                                      refine pure_ (i := 3) (N := some 56) (v := ?_) (a' := ?_) #[true, true, true, true, false, false, false, false, false, false, false, false, false] rfl rfl (any_of HT_.out (by kernel_rfl)) (fun _ _ _ h => h) (Or.inl ⟨by rfl, ?_⟩) ?_ ?_
                                      rotate_left
                                      · intro w'
                                        go_simp
                                        with_reducible rfl
                                      rotate_left
                                      · simp only [Act.put, List.setIfInBounds_toArray, List.set_cons_zero, List.set_cons_succ, i64_w, i32_w]
                                        rfl
                                      refine pure_ (i := 4) (N := some 57) (v := ?_) (a' := ?_) #[true, true, true, true, true, false, false, false, false, false, false, false, false] rfl rfl (any_of HT_.out (by kernel_rfl)) (fun _ _ _ h => h) (Or.inl ⟨by rfl, ?_⟩) ?_ ?_
                                      rotate_left
                                      · intro w'
                                        go_simp
                                        with_reducible rfl
                                      rotate_left
                                      · simp only [Act.put, List.setIfInBounds_toArray, List.set_cons_zero, List.set_cons_succ, i64_w, i32_w]
                                        rfl
                                      refine pure_ (i := 6) (N := some 59) (v := ?_) (a' := ?_) #[true, true, true, true, true, false, true, false, false, false, false, false, false] rfl rfl (any_of HT_.out (by kernel_rfl)) (fun _ _ _ h => h) (Or.inl ⟨by rfl, ?_⟩) ?_ ?_
                                      rotate_left
                                      · intro w'
                                        go_simp
                                        with_reducible rfl
                                      rotate_left
                                      · simp only [Act.put, List.setIfInBounds_toArray, List.set_cons_zero, List.set_cons_succ, i64_w, i32_w]
                                        rfl
                                      refine pure_ (i := 8) (N := some 61) (v := ?_) (a' := ?_) #[true, true, true, true, true, false, true, false, true, false, false, false, false] rfl rfl (any_of HT_.out (by kernel_rfl)) (fun _ _ _ h => h) (Or.inl ⟨by rfl, ?_⟩) ?_ ?_
                                      rotate_left
                                      · intro w'
                                        go_simp
                                        with_reducible rfl
                                      rotate_left
                                      · simp only [Act.put, List.setIfInBounds_toArray, List.set_cons_zero, List.set_cons_succ, i64_w, i32_w]
                                        rfl
                                      refine take_ (i := 5) (N := some 58) (v := ?_) (a' := ?_) #[true, true, true, true, true, true, true, false, true, false, false, false, false] rfl rfl (take_ofW HT_.out HW_.out (by kernel_rfl)) (fun _ _ _ h => h) (Or.inl ⟨by rfl, ?_⟩) hHeld ?_ ?_
                                      rotate_left
                                      · rintro w' ⟨s0, s1, s2, s3, s4, s5, s6⟩
                                        go_simp
                                        with_reducible rfl
                                      rotate_left
                                      · simp only [Act.put, List.setIfInBounds_toArray, List.set_cons_zero, List.set_cons_succ, i64_w, i32_w]
                                        rfl
                                      refine take_ (i := 7) (N := some 60) (v := ?_) (a' := ?_) #[true, true, true, true, true, true, true, true, true, false, false, false, false] rfl rfl (take_ofW HT_.out HW_.out (by kernel_rfl)) (fun _ _ _ h => h) (Or.inl ⟨by rfl, ?_⟩) hHeld ?_ ?_
                                      rotate_left
                                      · rintro w' ⟨s0, s1, s2, s3, s4, s5, s6⟩
                                        go_simp
                                        with_reducible rfl
                                      rotate_left
                                      · simp only [Act.put, List.setIfInBounds_toArray, List.set_cons_zero, List.set_cons_succ, i64_w, i32_w]
                                        rfl
                                      refine take_ (i := 9) (N := some 62) (v := ?_) (a' := ?_) #[true, true, true, true, true, true, true, true, true, true, false, false, false] rfl rfl (take_ofW HT_.out HW_.out (by kernel_rfl)) (fun _ _ _ h => h) (Or.inl ⟨by rfl, ?_⟩) hHeld ?_ ?_
                                      rotate_left
                                      · rintro w' ⟨s0, s1, s2, s3, s4, s5, s6⟩
                                        go_simp
                                        with_reducible rfl
                                      rotate_left
                                      · simp only [Act.put, List.setIfInBounds_toArray, List.set_cons_zero, List.set_cons_succ, i64_w, i32_w]
                                        rfl
                                      refine join_ (σ := Nat) 1 #[true, true, true, true, true, true, true, true, true, true, true, true, false] (fun s_ => [(63, .agg #[.int .i64 t236, .int .i64 t237, .int .i64 t238, .int .i64 t239]), (7, .pointer (some ⟨s_, 0, none⟩))]) (fun s_ w' => (w'.cell? ⟨gb232, 0, none⟩ = some (.int .i64 ((rd_T116 l0_4 x25_2).f0)) ∧ w'.cell? ⟨gb232, 1, none⟩ = some (.int .i64 ((rd_T116 l0_4 x25_2).f1)) ∧ w'.cell? ⟨gb232, 2, none⟩ = some (.int .i64 ((rd_T116 l0_4 x25_2).f2)) ∧ w'.cell? (ad235.add (((ji42)).toNat * 4)) = some (.int .i64 ((rd_T25 x4_4 (ji42)).f0)) ∧ w'.cell? ⟨(ad235.add (((ji42)).toNat * 4)).block, (ad235.add (((ji42)).toNat * 4)).off + 1, none⟩ = some (.int .i64 ((rd_T25 x4_4 (ji42)).f1)) ∧ w'.cell? ⟨(ad235.add (((ji42)).toNat * 4)).block, (ad235.add (((ji42)).toNat * 4)).off + 2, none⟩ = some (.int .i64 ((rd_T25 x4_4 (ji42)).f2)) ∧ w'.cell? ⟨(ad235.add (((ji42)).toNat * 4)).block, (ad235.add (((ji42)).toNat * 4)).off + 3, none⟩ = some (.int .i64 ((rd_T25 x4_4 (ji42)).f3))) ∧ (Kd.R k25 25 w' w.heap.size (fun k_ => k_ ≠ s_) (.slice (some ad235) x4_4.length co50) x4_4) ∧ (w'.heap[gb225]? = some (.cells #[.int .i64 a0_0, .int .i64 a0_1, .int .i64 a0_2, .int .i64 a0_3, .slice (some ad231) l0_4.length c0_4] 39 (0, 0))) ∧ (w'.heap[gb232]? = some (.cells #[.int .i64 ((rd_T116 l0_4 x25_2).f0), .int .i64 ((rd_T116 l0_4 x25_2).f1), .int .i64 ((rd_T116 l0_4 x25_2).f2)] 116 (0, 0))) ∧ (w'.heap[s_]? = some (.cells #[.int .i64 0, .int .i64 0, .int .i64 0, .int .i64 0] 25 (0, 0))) ∧ (w.heap.size ≤ s_) ∧ (w.heap.size ≤ s_) ∧ (gb225 ≠ s_) ∧ (s_ ≠ gb225) ∧ (gb232 ≠ s_) ∧ (s_ ≠ gb232) ∧ (Below w.heap.size w w')) ?_ ?_
                                      rotate_left
                                      · intro hCont
                                        refine two_ (i := 10) (j := 11) (Ni := some 63) (Nj := some 7) #[true, true, true, true, true, true, true, true, true, true, true, false, false] #[true, true, true, true, true, true, true, true, true, true, false, true, false] rfl rfl rfl rfl (two_of HT_.out (by kernel_rfl)) (by decide) (by decide) (fun K hK => ?_) (fun K hK => ?_)
                                        · skip
                                          refine goes_ Try.func70 (by kernel_rfl) rfl #[.agg #[.int .i64 ((rd_T25 x4_4 (ji42)).f0), .int .i64 ((rd_T25 x4_4 (ji42)).f1), .int .i64 ((rd_T25 x4_4 (ji42)).f2), .int .i64 ((rd_T25 x4_4 (ji42)).f3)], .int .i64 ((rd_T116 l0_4 x25_2).f1), .int .i64 ((rd_T116 l0_4 x25_2).f2)] (by rfl) rfl rfl (by (try simp only [List.map_toArray, List.map_cons, List.map_nil]); first | done | (simp only [hji42]; rfl) | rfl | (simp only [List.length_drop, List.length_take]; rfl)) ?_
                                          with_reducible refine (impl_Pose_next.calls ((rd_T25 x4_4 (ji42)).f0) ((rd_T25 x4_4 (ji42)).f1) ((rd_T25 x4_4 (ji42)).f2) ((rd_T25 x4_4 (ji42)).f3) ((rd_T116 l0_4 x25_2).f1) ((rd_T116 l0_4 x25_2).f2) t236 t237 t238 t239 _ A45.out).mono ?_
                                          rintro e w51 ⟨rfl, hb⟩
                                          have HS3_ := (hb.cell (World.block_lt_of_cell? _ _ (hHeld.2.2.2.1))).trans (hHeld.2.2.2.1)
                                          have HS4_ := (hb.cell (World.block_lt_of_cell? _ _ (hHeld.2.2.2.2.1))).trans (hHeld.2.2.2.2.1)
                                          have HS5_ := (hb.cell (World.block_lt_of_cell? _ _ (hHeld.2.2.2.2.2.1))).trans (hHeld.2.2.2.2.2.1)
                                          have HS6_ := (hb.cell (World.block_lt_of_cell? _ _ (hHeld.2.2.2.2.2.2))).trans (hHeld.2.2.2.2.2.2)
                                          refine ⟨_, rfl, ?_⟩
                                          have n0_ := Aside0.mk (Kd.R_below (by (with_reducible repeat (first | apply Kd.R_alloc | apply Kd.R_drewN | apply Kd.R_drew)); exact HO_4.out) hb)
                                          have n1_ := Aside0.mk (blk_below (g := gb225) (o := .cells #[.int .i64 a0_0, .int .i64 a0_1, .int .i64 a0_2, .int .i64 a0_3, .slice (some ad231) l0_4.length c0_4] 39 (0, 0)) (by (with_reducible repeat (first | refine blk_drewN ?_ _ | refine blk_drew ?_ | refine blk_alloc ?_ _)); exact BK225.out) hb)
                                          have n2_ := Aside0.mk (blk_below (g := gb232) (o := .cells #[.int .i64 ((rd_T116 l0_4 x25_2).f0), .int .i64 ((rd_T116 l0_4 x25_2).f1), .int .i64 ((rd_T116 l0_4 x25_2).f2)] 116 (0, 0)) (by (with_reducible repeat (first | refine blk_drewN ?_ _ | refine blk_drew ?_ | refine blk_alloc ?_ _)); exact BK232.out) hb)
                                          have n3_ := Aside0.mk (below_step (by repeat (first | (with_reducible first | exact HB.out | apply below_alloc | apply pw_below_drewN | apply below_drew1 | refine below_set ?_ GE225.out | refine below_set ?_ GE232.out) | exact HB.out)) hb)
                                          clear HO_4
                                          clear BK225
                                          clear BK232
                                          clear HB
                                          have HO_4 := n0_
                                          have BK225 := n1_
                                          have BK232 := n2_
                                          have HB := n3_
                                          clear n0_ n1_ n2_ n3_
                                          (try clear hb)
                                          (try clear hb2)
                                          (try clear hk)
                                          (try clear hi)
                                          refine hK.out _ _ ⟨(blk_cell BK232.out 0).trans rfl, (blk_cell BK232.out 1).trans rfl, (blk_cell BK232.out 2).trans rfl, HS3_, HS4_, HS5_, HS6_⟩ (fun hHeld => ?_)
                                          clear hK K
                                          refine norm_ (a' := ?_) ?_ ?_
                                          rotate_left
                                          · show Act.put _ (some 63) _ = _
                                            simp only [Act.put, List.setIfInBounds_toArray, List.set_cons_zero, List.set_cons_succ, i64_w, i32_w]
                                            rfl
                                          refine one_ (i := 11) (N := some 7) #[true, true, true, true, true, true, true, true, true, true, true, true, false] rfl rfl (one_of HT_.out (by kernel_rfl)) (by decide) (fun K hK => ?_)
                                          refine box_step ?hg (N := 7) ?hd (cs := #[.int .i64 0, .int .i64 0, .int .i64 0, .int .i64 0]) (t := 25) ?hr ?_; (case hd => rfl); (case hg => rfl); (case hr => first | (go_simp; done) | (go_simp; rfl))
                                          intro gb240 hg w52 hbox hb
                                          have HS3_ := (hb.cell (World.block_lt_of_cell? _ _ (hHeld.2.2.2.1))).trans (hHeld.2.2.2.1)
                                          have HS4_ := (hb.cell (World.block_lt_of_cell? _ _ (hHeld.2.2.2.2.1))).trans (hHeld.2.2.2.2.1)
                                          have HS5_ := (hb.cell (World.block_lt_of_cell? _ _ (hHeld.2.2.2.2.2.1))).trans (hHeld.2.2.2.2.2.1)
                                          have HS6_ := (hb.cell (World.block_lt_of_cell? _ _ (hHeld.2.2.2.2.2.2))).trans (hHeld.2.2.2.2.2.2)
                                          have n0_ := Aside0.mk (Kd.R_below (Kd.R_elderB (by (with_reducible repeat (first | apply Kd.R_alloc | apply Kd.R_drewN | apply Kd.R_drew)); exact HO_4.out) gb240 (Nat.le_of_eq hg.symm)) hb)
                                          have n1_ := Aside0.mk (blk_below (g := gb225) (o := .cells #[.int .i64 a0_0, .int .i64 a0_1, .int .i64 a0_2, .int .i64 a0_3, .slice (some ad231) l0_4.length c0_4] 39 (0, 0)) (by (with_reducible repeat (first | refine blk_drewN ?_ _ | refine blk_drew ?_ | refine blk_alloc ?_ _)); exact BK225.out) hb)
                                          have n2_ := Aside0.mk (blk_below (g := gb232) (o := .cells #[.int .i64 ((rd_T116 l0_4 x25_2).f0), .int .i64 ((rd_T116 l0_4 x25_2).f1), .int .i64 ((rd_T116 l0_4 x25_2).f2)] 116 (0, 0)) (by (with_reducible repeat (first | refine blk_drewN ?_ _ | refine blk_drew ?_ | refine blk_alloc ?_ _)); exact BK232.out) hb)
                                          have n3_ := Aside0.mk (below_step (by repeat (first | (with_reducible first | exact HB.out | apply below_alloc | apply pw_below_drewN | apply below_drew1 | refine below_set ?_ GE225.out | refine below_set ?_ GE232.out) | exact HB.out)) hb)
                                          have n4_ := Aside0.mk (hbox)
                                          have n5_ := Aside0.mk ((by rw [hg]; exact (below_size (by repeat (first | (with_reducible first | exact HB.out | apply below_alloc | apply pw_below_drewN | apply below_drew1 | refine below_set ?_ GE225.out | refine below_set ?_ GE232.out) | exact HB.out))) : w.heap.size ≤ gb240))
                                          have n6_ := Aside0.mk ((by rw [hg]; exact (below_size (by repeat (first | (with_reducible first | exact HB.out | apply below_alloc | apply pw_below_drewN | apply below_drew1 | refine below_set ?_ GE225.out | refine below_set ?_ GE232.out) | exact HB.out))) : w.heap.size ≤ gb240))
                                          have n7_ := Aside0.mk ((by rw [hg]; exact Nat.ne_of_lt (blk_lt (g := gb225) (o := .cells #[.int .i64 a0_0, .int .i64 a0_1, .int .i64 a0_2, .int .i64 a0_3, .slice (some ad231) l0_4.length c0_4] 39 (0, 0)) (by (with_reducible repeat (first | refine blk_drewN ?_ _ | refine blk_drew ?_ | refine blk_alloc ?_ _)); exact BK225.out)) : gb225 ≠ gb240))
                                          have n8_ := Aside0.mk ((by rw [hg]; exact Nat.ne_of_gt (blk_lt (g := gb225) (o := .cells #[.int .i64 a0_0, .int .i64 a0_1, .int .i64 a0_2, .int .i64 a0_3, .slice (some ad231) l0_4.length c0_4] 39 (0, 0)) (by (with_reducible repeat (first | refine blk_drewN ?_ _ | refine blk_drew ?_ | refine blk_alloc ?_ _)); exact BK225.out)) : gb240 ≠ gb225))
                                          have n9_ := Aside0.mk ((by rw [hg]; exact Nat.ne_of_lt (blk_lt (g := gb232) (o := .cells #[.int .i64 ((rd_T116 l0_4 x25_2).f0), .int .i64 ((rd_T116 l0_4 x25_2).f1), .int .i64 ((rd_T116 l0_4 x25_2).f2)] 116 (0, 0)) (by (with_reducible repeat (first | refine blk_drewN ?_ _ | refine blk_drew ?_ | refine blk_alloc ?_ _)); exact BK232.out)) : gb232 ≠ gb240))
                                          have n10_ := Aside0.mk ((by rw [hg]; exact Nat.ne_of_gt (blk_lt (g := gb232) (o := .cells #[.int .i64 ((rd_T116 l0_4 x25_2).f0), .int .i64 ((rd_T116 l0_4 x25_2).f1), .int .i64 ((rd_T116 l0_4 x25_2).f2)] 116 (0, 0)) (by (with_reducible repeat (first | refine blk_drewN ?_ _ | refine blk_drew ?_ | refine blk_alloc ?_ _)); exact BK232.out)) : gb240 ≠ gb232))
                                          clear HO_4
                                          clear BK225
                                          clear BK232
                                          clear HB
                                          have HO_4 := n0_
                                          have BK225 := n1_
                                          have BK232 := n2_
                                          have HB := n3_
                                          have BK240 := n4_
                                          have GW240 := n5_
                                          have GE240 := n6_
                                          have NB225_240 := n7_
                                          have NB240_225 := n8_
                                          have NB232_240 := n9_
                                          have NB240_232 := n10_
                                          clear n0_ n1_ n2_ n3_ n4_ n5_ n6_ n7_ n8_ n9_ n10_
                                          clear hb hbox hg
                                          refine hK.out _ _ ⟨(blk_cell BK232.out 0).trans rfl, (blk_cell BK232.out 1).trans rfl, (blk_cell BK232.out 2).trans rfl, HS3_, HS4_, HS5_, HS6_⟩ (fun hHeld => ?_)
                                          clear hK K
                                          refine norm_ (a' := ?_) ?_ ?_
                                          rotate_left
                                          · show Act.put _ (some 7) _ = _
                                            simp only [Act.put, List.setIfInBounds_toArray, List.set_cons_zero, List.set_cons_succ, i64_w, i32_w]
                                            rfl
                                          exact norm_ (by simp only [putAll, Act.put, List.setIfInBounds_toArray, List.set_cons_zero, List.set_cons_succ]) (hCont (gb240) _ ⟨hHeld, (by (with_reducible repeat (first | apply Kd.R_alloc | apply Kd.R_drewN | apply Kd.R_drew)); exact Kd.R_mono HO_4.out (fun _ hk => hk.2)), (by (with_reducible repeat (first | refine blk_drewN ?_ _ | refine blk_drew ?_ | refine blk_alloc ?_ _)); exact BK225.out), (by (with_reducible repeat (first | refine blk_drewN ?_ _ | refine blk_drew ?_ | refine blk_alloc ?_ _)); exact BK232.out), (by (with_reducible repeat (first | refine blk_drewN ?_ _ | refine blk_drew ?_ | refine blk_alloc ?_ _)); exact BK240.out), GW240.out, GE240.out, NB225_240.out, NB240_225.out, NB232_240.out, NB240_232.out, (by repeat (first | (with_reducible first | exact HB.out | apply below_alloc | apply pw_below_drewN | apply below_drew1 | refine below_set ?_ GE225.out | refine below_set ?_ GE232.out | refine below_set ?_ GE240.out) | exact HB.out))⟩)
                                        · skip
                                          refine box_step ?hg (N := 7) ?hd (cs := #[.int .i64 0, .int .i64 0, .int .i64 0, .int .i64 0]) (t := 25) ?hr ?_; (case hd => rfl); (case hg => rfl); (case hr => first | (go_simp; done) | (go_simp; rfl))
                                          intro gb240 hg w51 hbox hb
                                          have HS3_ := (hb.cell (World.block_lt_of_cell? _ _ (hHeld.2.2.2.1))).trans (hHeld.2.2.2.1)
                                          have HS4_ := (hb.cell (World.block_lt_of_cell? _ _ (hHeld.2.2.2.2.1))).trans (hHeld.2.2.2.2.1)
                                          have HS5_ := (hb.cell (World.block_lt_of_cell? _ _ (hHeld.2.2.2.2.2.1))).trans (hHeld.2.2.2.2.2.1)
                                          have HS6_ := (hb.cell (World.block_lt_of_cell? _ _ (hHeld.2.2.2.2.2.2))).trans (hHeld.2.2.2.2.2.2)
                                          have n0_ := Aside0.mk (Kd.R_below (Kd.R_elderB (by (with_reducible repeat (first | apply Kd.R_alloc | apply Kd.R_drewN | apply Kd.R_drew)); exact HO_4.out) gb240 (Nat.le_of_eq hg.symm)) hb)
                                          have n1_ := Aside0.mk (blk_below (g := gb225) (o := .cells #[.int .i64 a0_0, .int .i64 a0_1, .int .i64 a0_2, .int .i64 a0_3, .slice (some ad231) l0_4.length c0_4] 39 (0, 0)) (by (with_reducible repeat (first | refine blk_drewN ?_ _ | refine blk_drew ?_ | refine blk_alloc ?_ _)); exact BK225.out) hb)
                                          have n2_ := Aside0.mk (blk_below (g := gb232) (o := .cells #[.int .i64 ((rd_T116 l0_4 x25_2).f0), .int .i64 ((rd_T116 l0_4 x25_2).f1), .int .i64 ((rd_T116 l0_4 x25_2).f2)] 116 (0, 0)) (by (with_reducible repeat (first | refine blk_drewN ?_ _ | refine blk_drew ?_ | refine blk_alloc ?_ _)); exact BK232.out) hb)
                                          have n3_ := Aside0.mk (below_step (by repeat (first | (with_reducible first | exact HB.out | apply below_alloc | apply pw_below_drewN | apply below_drew1 | refine below_set ?_ GE225.out | refine below_set ?_ GE232.out) | exact HB.out)) hb)
                                          have n4_ := Aside0.mk (hbox)
                                          have n5_ := Aside0.mk ((by rw [hg]; exact (below_size (by repeat (first | (with_reducible first | exact HB.out | apply below_alloc | apply pw_below_drewN | apply below_drew1 | refine below_set ?_ GE225.out | refine below_set ?_ GE232.out) | exact HB.out))) : w.heap.size ≤ gb240))
                                          have n6_ := Aside0.mk ((by rw [hg]; exact (below_size (by repeat (first | (with_reducible first | exact HB.out | apply below_alloc | apply pw_below_drewN | apply below_drew1 | refine below_set ?_ GE225.out | refine below_set ?_ GE232.out) | exact HB.out))) : w.heap.size ≤ gb240))
                                          have n7_ := Aside0.mk ((by rw [hg]; exact Nat.ne_of_lt (blk_lt (g := gb225) (o := .cells #[.int .i64 a0_0, .int .i64 a0_1, .int .i64 a0_2, .int .i64 a0_3, .slice (some ad231) l0_4.length c0_4] 39 (0, 0)) (by (with_reducible repeat (first | refine blk_drewN ?_ _ | refine blk_drew ?_ | refine blk_alloc ?_ _)); exact BK225.out)) : gb225 ≠ gb240))
                                          have n8_ := Aside0.mk ((by rw [hg]; exact Nat.ne_of_gt (blk_lt (g := gb225) (o := .cells #[.int .i64 a0_0, .int .i64 a0_1, .int .i64 a0_2, .int .i64 a0_3, .slice (some ad231) l0_4.length c0_4] 39 (0, 0)) (by (with_reducible repeat (first | refine blk_drewN ?_ _ | refine blk_drew ?_ | refine blk_alloc ?_ _)); exact BK225.out)) : gb240 ≠ gb225))
                                          have n9_ := Aside0.mk ((by rw [hg]; exact Nat.ne_of_lt (blk_lt (g := gb232) (o := .cells #[.int .i64 ((rd_T116 l0_4 x25_2).f0), .int .i64 ((rd_T116 l0_4 x25_2).f1), .int .i64 ((rd_T116 l0_4 x25_2).f2)] 116 (0, 0)) (by (with_reducible repeat (first | refine blk_drewN ?_ _ | refine blk_drew ?_ | refine blk_alloc ?_ _)); exact BK232.out)) : gb232 ≠ gb240))
                                          have n10_ := Aside0.mk ((by rw [hg]; exact Nat.ne_of_gt (blk_lt (g := gb232) (o := .cells #[.int .i64 ((rd_T116 l0_4 x25_2).f0), .int .i64 ((rd_T116 l0_4 x25_2).f1), .int .i64 ((rd_T116 l0_4 x25_2).f2)] 116 (0, 0)) (by (with_reducible repeat (first | refine blk_drewN ?_ _ | refine blk_drew ?_ | refine blk_alloc ?_ _)); exact BK232.out)) : gb240 ≠ gb232))
                                          clear HO_4
                                          clear BK225
                                          clear BK232
                                          clear HB
                                          have HO_4 := n0_
                                          have BK225 := n1_
                                          have BK232 := n2_
                                          have HB := n3_
                                          have BK240 := n4_
                                          have GW240 := n5_
                                          have GE240 := n6_
                                          have NB225_240 := n7_
                                          have NB240_225 := n8_
                                          have NB232_240 := n9_
                                          have NB240_232 := n10_
                                          clear n0_ n1_ n2_ n3_ n4_ n5_ n6_ n7_ n8_ n9_ n10_
                                          clear hb hbox hg
                                          refine hK.out _ _ ⟨(blk_cell BK232.out 0).trans rfl, (blk_cell BK232.out 1).trans rfl, (blk_cell BK232.out 2).trans rfl, HS3_, HS4_, HS5_, HS6_⟩ (fun hHeld => ?_)
                                          clear hK K
                                          refine norm_ (a' := ?_) ?_ ?_
                                          rotate_left
                                          · show Act.put _ (some 7) _ = _
                                            simp only [Act.put, List.setIfInBounds_toArray, List.set_cons_zero, List.set_cons_succ, i64_w, i32_w]
                                            rfl
                                          refine one_ (i := 10) (N := some 63) #[true, true, true, true, true, true, true, true, true, true, true, true, false] rfl rfl (one_of HT_.out (by kernel_rfl)) (by decide) (fun K hK => ?_)
                                          refine goes_ Try.func70 (by kernel_rfl) rfl #[.agg #[.int .i64 ((rd_T25 x4_4 (ji42)).f0), .int .i64 ((rd_T25 x4_4 (ji42)).f1), .int .i64 ((rd_T25 x4_4 (ji42)).f2), .int .i64 ((rd_T25 x4_4 (ji42)).f3)], .int .i64 ((rd_T116 l0_4 x25_2).f1), .int .i64 ((rd_T116 l0_4 x25_2).f2)] (by rfl) rfl rfl (by (try simp only [List.map_toArray, List.map_cons, List.map_nil]); first | done | (simp only [hji42]; rfl) | rfl | (simp only [List.length_drop, List.length_take]; rfl)) ?_
                                          with_reducible refine (impl_Pose_next.calls ((rd_T25 x4_4 (ji42)).f0) ((rd_T25 x4_4 (ji42)).f1) ((rd_T25 x4_4 (ji42)).f2) ((rd_T25 x4_4 (ji42)).f3) ((rd_T116 l0_4 x25_2).f1) ((rd_T116 l0_4 x25_2).f2) t236 t237 t238 t239 _ A45.out).mono ?_
                                          rintro e w52 ⟨rfl, hb⟩
                                          have HS3_ := (hb.cell (World.block_lt_of_cell? _ _ (hHeld.2.2.2.1))).trans (hHeld.2.2.2.1)
                                          have HS4_ := (hb.cell (World.block_lt_of_cell? _ _ (hHeld.2.2.2.2.1))).trans (hHeld.2.2.2.2.1)
                                          have HS5_ := (hb.cell (World.block_lt_of_cell? _ _ (hHeld.2.2.2.2.2.1))).trans (hHeld.2.2.2.2.2.1)
                                          have HS6_ := (hb.cell (World.block_lt_of_cell? _ _ (hHeld.2.2.2.2.2.2))).trans (hHeld.2.2.2.2.2.2)
                                          refine ⟨_, rfl, ?_⟩
                                          have n0_ := Aside0.mk (Kd.R_below (by (with_reducible repeat (first | apply Kd.R_alloc | apply Kd.R_drewN | apply Kd.R_drew)); exact HO_4.out) hb)
                                          have n1_ := Aside0.mk (blk_below (g := gb225) (o := .cells #[.int .i64 a0_0, .int .i64 a0_1, .int .i64 a0_2, .int .i64 a0_3, .slice (some ad231) l0_4.length c0_4] 39 (0, 0)) (by (with_reducible repeat (first | refine blk_drewN ?_ _ | refine blk_drew ?_ | refine blk_alloc ?_ _)); exact BK225.out) hb)
                                          have n2_ := Aside0.mk (blk_below (g := gb232) (o := .cells #[.int .i64 ((rd_T116 l0_4 x25_2).f0), .int .i64 ((rd_T116 l0_4 x25_2).f1), .int .i64 ((rd_T116 l0_4 x25_2).f2)] 116 (0, 0)) (by (with_reducible repeat (first | refine blk_drewN ?_ _ | refine blk_drew ?_ | refine blk_alloc ?_ _)); exact BK232.out) hb)
                                          have n3_ := Aside0.mk (blk_below (g := gb240) (o := .cells #[.int .i64 0, .int .i64 0, .int .i64 0, .int .i64 0] 25 (0, 0)) (by (with_reducible repeat (first | refine blk_drewN ?_ _ | refine blk_drew ?_ | refine blk_alloc ?_ _)); exact BK240.out) hb)
                                          have n4_ := Aside0.mk (below_step (by repeat (first | (with_reducible first | exact HB.out | apply below_alloc | apply pw_below_drewN | apply below_drew1 | refine below_set ?_ GE225.out | refine below_set ?_ GE232.out | refine below_set ?_ GE240.out) | exact HB.out)) hb)
                                          clear HO_4
                                          clear BK225
                                          clear BK232
                                          clear BK240
                                          clear HB
                                          have HO_4 := n0_
                                          have BK225 := n1_
                                          have BK232 := n2_
                                          have BK240 := n3_
                                          have HB := n4_
                                          clear n0_ n1_ n2_ n3_ n4_
                                          (try clear hb)
                                          (try clear hb2)
                                          (try clear hk)
                                          (try clear hi)
                                          refine hK.out _ _ ⟨(blk_cell BK232.out 0).trans rfl, (blk_cell BK232.out 1).trans rfl, (blk_cell BK232.out 2).trans rfl, HS3_, HS4_, HS5_, HS6_⟩ (fun hHeld => ?_)
                                          clear hK K
                                          refine norm_ (a' := ?_) ?_ ?_
                                          rotate_left
                                          · show Act.put _ (some 63) _ = _
                                            simp only [Act.put, List.setIfInBounds_toArray, List.set_cons_zero, List.set_cons_succ, i64_w, i32_w]
                                            rfl
                                          exact norm_ (by simp only [putAll, Act.put, List.setIfInBounds_toArray, List.set_cons_zero, List.set_cons_succ]) (hCont (gb240) _ ⟨hHeld, (by (with_reducible repeat (first | apply Kd.R_alloc | apply Kd.R_drewN | apply Kd.R_drew)); exact Kd.R_mono HO_4.out (fun _ hk => hk.2)), (by (with_reducible repeat (first | refine blk_drewN ?_ _ | refine blk_drew ?_ | refine blk_alloc ?_ _)); exact BK225.out), (by (with_reducible repeat (first | refine blk_drewN ?_ _ | refine blk_drew ?_ | refine blk_alloc ?_ _)); exact BK232.out), (by (with_reducible repeat (first | refine blk_drewN ?_ _ | refine blk_drew ?_ | refine blk_alloc ?_ _)); exact BK240.out), GW240.out, GE240.out, NB225_240.out, NB240_225.out, NB232_240.out, NB240_232.out, (by repeat (first | (with_reducible first | exact HB.out | apply below_alloc | apply pw_below_drewN | apply below_drew1 | refine below_set ?_ GE225.out | refine below_set ?_ GE232.out | refine below_set ?_ GE240.out) | exact HB.out))⟩)
                                      rintro gb240 w53 ⟨hS_, h0_, h1_, h2_, h3_, h4_, h5_, h6_, h7_, h8_, h9_, h10_⟩
                                      have n0_ : Aside0 (Kd.R k25 25 w53 w.heap.size (fun k_ => k_ ≠ gb240) (.slice (some ad235) x4_4.length co50) x4_4) := ⟨h0_⟩
                                      have n1_ : Aside0 (w53.heap[gb225]? = some (.cells #[.int .i64 a0_0, .int .i64 a0_1, .int .i64 a0_2, .int .i64 a0_3, .slice (some ad231) l0_4.length c0_4] 39 (0, 0))) := ⟨h1_⟩
                                      have n2_ : Aside0 (w53.heap[gb232]? = some (.cells #[.int .i64 ((rd_T116 l0_4 x25_2).f0), .int .i64 ((rd_T116 l0_4 x25_2).f1), .int .i64 ((rd_T116 l0_4 x25_2).f2)] 116 (0, 0))) := ⟨h2_⟩
                                      have n3_ : Aside0 (w53.heap[gb240]? = some (.cells #[.int .i64 0, .int .i64 0, .int .i64 0, .int .i64 0] 25 (0, 0))) := ⟨h3_⟩
                                      have n4_ : Aside0 (w.heap.size ≤ gb240) := ⟨h4_⟩
                                      have n5_ : Aside0 (w.heap.size ≤ gb240) := ⟨h5_⟩
                                      have n6_ : Aside0 (gb225 ≠ gb240) := ⟨h6_⟩
                                      have n7_ : Aside0 (gb240 ≠ gb225) := ⟨h7_⟩
                                      have n8_ : Aside0 (gb232 ≠ gb240) := ⟨h8_⟩
                                      have n9_ : Aside0 (gb240 ≠ gb232) := ⟨h9_⟩
                                      have n10_ : Aside0 (Below w.heap.size w w53) := ⟨h10_⟩
                                      clear HO_4
                                      clear BK225
                                      clear BK232
                                      clear HB
                                      clear h0_ h1_ h2_ h3_ h4_ h5_ h6_ h7_ h8_ h9_ h10_
                                      have HO_4 := n0_
                                      have BK225 := n1_
                                      have BK232 := n2_
                                      have BK240 := n3_
                                      have GW240 := n4_
                                      have GE240 := n5_
                                      have NB225_240 := n6_
                                      have NB240_225 := n7_
                                      have NB232_240 := n8_
                                      have NB240_232 := n9_
                                      have HB := n10_
                                      clear n0_ n1_ n2_ n3_ n4_ n5_ n6_ n7_ n8_ n9_ n10_
                                      have hHeld : w53.cell? ⟨gb232, 0, none⟩ = some (.int .i64 ((rd_T116 l0_4 x25_2).f0)) ∧ w53.cell? ⟨gb232, 1, none⟩ = some (.int .i64 ((rd_T116 l0_4 x25_2).f1)) ∧ w53.cell? ⟨gb232, 2, none⟩ = some (.int .i64 ((rd_T116 l0_4 x25_2).f2)) ∧ w53.cell? (ad235.add (((ji42)).toNat * 4)) = some (.int .i64 ((rd_T25 x4_4 (ji42)).f0)) ∧ w53.cell? ⟨(ad235.add (((ji42)).toNat * 4)).block, (ad235.add (((ji42)).toNat * 4)).off + 1, none⟩ = some (.int .i64 ((rd_T25 x4_4 (ji42)).f1)) ∧ w53.cell? ⟨(ad235.add (((ji42)).toNat * 4)).block, (ad235.add (((ji42)).toNat * 4)).off + 2, none⟩ = some (.int .i64 ((rd_T25 x4_4 (ji42)).f2)) ∧ w53.cell? ⟨(ad235.add (((ji42)).toNat * 4)).block, (ad235.add (((ji42)).toNat * 4)).off + 3, none⟩ = some (.int .i64 ((rd_T25 x4_4 (ji42)).f3)) := hS_
                                      refine norm_ (a' := ?_) ?_ ?_
                                      rotate_left
                                      · simp only [putAll, Act.put, List.setIfInBounds_toArray, List.set_cons_zero, List.set_cons_succ]
                                        rfl
                                      refine one_ (i := 12) (N := none) #[true, true, true, true, true, true, true, true, true, true, true, true, true] rfl rfl (one_of HT_.out (by kernel_rfl)) (by decide) (fun K hK => ?_)
                                      have hs54 : w53.cell? ⟨gb240, 0, none⟩ = some (.int .i64 0) := (blk_cell BK240.out 0).trans rfl
                                      have hfs54 := blk_frozen BK240.out 0
                                      have hns54_0 := NB225_240.out
                                      have hns54_1 := NB232_240.out
                                      have hms54_0 := NB240_225.out
                                      have hms54_1 := NB240_232.out
                                      have hs55 : w53.cell? ⟨gb240, 1, none⟩ = some (.int .i64 0) := (blk_cell BK240.out 1).trans rfl
                                      have hfs55 := blk_frozen BK240.out 1
                                      have hns55_0 := NB225_240.out
                                      have hns55_1 := NB232_240.out
                                      have hms55_0 := NB240_225.out
                                      have hms55_1 := NB240_232.out
                                      have hs56 : w53.cell? ⟨gb240, 2, none⟩ = some (.int .i64 0) := (blk_cell BK240.out 2).trans rfl
                                      have hfs56 := blk_frozen BK240.out 2
                                      have hns56_0 := NB225_240.out
                                      have hns56_1 := NB232_240.out
                                      have hms56_0 := NB240_225.out
                                      have hms56_1 := NB240_232.out
                                      have hs57 : w53.cell? ⟨gb240, 3, none⟩ = some (.int .i64 0) := (blk_cell BK240.out 3).trans rfl
                                      have hfs57 := blk_frozen BK240.out 3
                                      have hns57_0 := NB225_240.out
                                      have hns57_1 := NB232_240.out
                                      have hms57_0 := NB240_225.out
                                      have hms57_1 := NB240_232.out
                                      refine skip_ (w1 := ?_) (by rfl) rfl ?_ ?_
                                      rotate_left
                                      · go_simp
                                        rfl
                                      refine hK.out _ _ ⟨((cell_far (p := ⟨gb240, _, none⟩) NB232_240.out _).trans (((cell_far (p := ⟨gb240, _, none⟩) NB232_240.out _).trans (((cell_far (p := ⟨gb240, _, none⟩) NB232_240.out _).trans (((cell_far (p := ⟨gb240, _, none⟩) NB232_240.out _).trans (hHeld.1)))))))), ((cell_far (p := ⟨gb240, _, none⟩) NB232_240.out _).trans (((cell_far (p := ⟨gb240, _, none⟩) NB232_240.out _).trans (((cell_far (p := ⟨gb240, _, none⟩) NB232_240.out _).trans (((cell_far (p := ⟨gb240, _, none⟩) NB232_240.out _).trans (hHeld.2.1)))))))), ((cell_far (p := ⟨gb240, _, none⟩) NB232_240.out _).trans (((cell_far (p := ⟨gb240, _, none⟩) NB232_240.out _).trans (((cell_far (p := ⟨gb240, _, none⟩) NB232_240.out _).trans (((cell_far (p := ⟨gb240, _, none⟩) NB232_240.out _).trans (hHeld.2.2.1)))))))), ((cell_far (p := ⟨gb240, _, none⟩) (by first | exact Kd.own_blk (Kd.R_away HO_4.out (fun _ hk => hk)) | (rw [add_block]; exact Kd.own_blk (Kd.R_away HO_4.out (fun _ hk => hk))) | (show (Addr.add _ _).block ≠ _; rw [add_block]; exact Kd.own_blk (Kd.R_away HO_4.out (fun _ hk => hk))) | (dsimp only; exact Kd.own_blk (Kd.R_away HO_4.out (fun _ hk => hk)))) _).trans (((cell_far (p := ⟨gb240, _, none⟩) (by first | exact Kd.own_blk (Kd.R_away HO_4.out (fun _ hk => hk)) | (rw [add_block]; exact Kd.own_blk (Kd.R_away HO_4.out (fun _ hk => hk))) | (show (Addr.add _ _).block ≠ _; rw [add_block]; exact Kd.own_blk (Kd.R_away HO_4.out (fun _ hk => hk))) | (dsimp only; exact Kd.own_blk (Kd.R_away HO_4.out (fun _ hk => hk)))) _).trans (((cell_far (p := ⟨gb240, _, none⟩) (by first | exact Kd.own_blk (Kd.R_away HO_4.out (fun _ hk => hk)) | (rw [add_block]; exact Kd.own_blk (Kd.R_away HO_4.out (fun _ hk => hk))) | (show (Addr.add _ _).block ≠ _; rw [add_block]; exact Kd.own_blk (Kd.R_away HO_4.out (fun _ hk => hk))) | (dsimp only; exact Kd.own_blk (Kd.R_away HO_4.out (fun _ hk => hk)))) _).trans (((cell_far (p := ⟨gb240, _, none⟩) (by first | exact Kd.own_blk (Kd.R_away HO_4.out (fun _ hk => hk)) | (rw [add_block]; exact Kd.own_blk (Kd.R_away HO_4.out (fun _ hk => hk))) | (show (Addr.add _ _).block ≠ _; rw [add_block]; exact Kd.own_blk (Kd.R_away HO_4.out (fun _ hk => hk))) | (dsimp only; exact Kd.own_blk (Kd.R_away HO_4.out (fun _ hk => hk)))) _).trans (hHeld.2.2.2.1)))))))), ((cell_far (p := ⟨gb240, _, none⟩) (by first | exact Kd.own_blk (Kd.R_away HO_4.out (fun _ hk => hk)) | (rw [add_block]; exact Kd.own_blk (Kd.R_away HO_4.out (fun _ hk => hk))) | (show (Addr.add _ _).block ≠ _; rw [add_block]; exact Kd.own_blk (Kd.R_away HO_4.out (fun _ hk => hk))) | (dsimp only; exact Kd.own_blk (Kd.R_away HO_4.out (fun _ hk => hk)))) _).trans (((cell_far (p := ⟨gb240, _, none⟩) (by first | exact Kd.own_blk (Kd.R_away HO_4.out (fun _ hk => hk)) | (rw [add_block]; exact Kd.own_blk (Kd.R_away HO_4.out (fun _ hk => hk))) | (show (Addr.add _ _).block ≠ _; rw [add_block]; exact Kd.own_blk (Kd.R_away HO_4.out (fun _ hk => hk))) | (dsimp only; exact Kd.own_blk (Kd.R_away HO_4.out (fun _ hk => hk)))) _).trans (((cell_far (p := ⟨gb240, _, none⟩) (by first | exact Kd.own_blk (Kd.R_away HO_4.out (fun _ hk => hk)) | (rw [add_block]; exact Kd.own_blk (Kd.R_away HO_4.out (fun _ hk => hk))) | (show (Addr.add _ _).block ≠ _; rw [add_block]; exact Kd.own_blk (Kd.R_away HO_4.out (fun _ hk => hk))) | (dsimp only; exact Kd.own_blk (Kd.R_away HO_4.out (fun _ hk => hk)))) _).trans (((cell_far (p := ⟨gb240, _, none⟩) (by first | exact Kd.own_blk (Kd.R_away HO_4.out (fun _ hk => hk)) | (rw [add_block]; exact Kd.own_blk (Kd.R_away HO_4.out (fun _ hk => hk))) | (show (Addr.add _ _).block ≠ _; rw [add_block]; exact Kd.own_blk (Kd.R_away HO_4.out (fun _ hk => hk))) | (dsimp only; exact Kd.own_blk (Kd.R_away HO_4.out (fun _ hk => hk)))) _).trans (hHeld.2.2.2.2.1)))))))), ((cell_far (p := ⟨gb240, _, none⟩) (by first | exact Kd.own_blk (Kd.R_away HO_4.out (fun _ hk => hk)) | (rw [add_block]; exact Kd.own_blk (Kd.R_away HO_4.out (fun _ hk => hk))) | (show (Addr.add _ _).block ≠ _; rw [add_block]; exact Kd.own_blk (Kd.R_away HO_4.out (fun _ hk => hk))) | (dsimp only; exact Kd.own_blk (Kd.R_away HO_4.out (fun _ hk => hk)))) _).trans (((cell_far (p := ⟨gb240, _, none⟩) (by first | exact Kd.own_blk (Kd.R_away HO_4.out (fun _ hk => hk)) | (rw [add_block]; exact Kd.own_blk (Kd.R_away HO_4.out (fun _ hk => hk))) | (show (Addr.add _ _).block ≠ _; rw [add_block]; exact Kd.own_blk (Kd.R_away HO_4.out (fun _ hk => hk))) | (dsimp only; exact Kd.own_blk (Kd.R_away HO_4.out (fun _ hk => hk)))) _).trans (((cell_far (p := ⟨gb240, _, none⟩) (by first | exact Kd.own_blk (Kd.R_away HO_4.out (fun _ hk => hk)) | (rw [add_block]; exact Kd.own_blk (Kd.R_away HO_4.out (fun _ hk => hk))) | (show (Addr.add _ _).block ≠ _; rw [add_block]; exact Kd.own_blk (Kd.R_away HO_4.out (fun _ hk => hk))) | (dsimp only; exact Kd.own_blk (Kd.R_away HO_4.out (fun _ hk => hk)))) _).trans (((cell_far (p := ⟨gb240, _, none⟩) (by first | exact Kd.own_blk (Kd.R_away HO_4.out (fun _ hk => hk)) | (rw [add_block]; exact Kd.own_blk (Kd.R_away HO_4.out (fun _ hk => hk))) | (show (Addr.add _ _).block ≠ _; rw [add_block]; exact Kd.own_blk (Kd.R_away HO_4.out (fun _ hk => hk))) | (dsimp only; exact Kd.own_blk (Kd.R_away HO_4.out (fun _ hk => hk)))) _).trans (hHeld.2.2.2.2.2.1)))))))), ((cell_far (p := ⟨gb240, _, none⟩) (by first | exact Kd.own_blk (Kd.R_away HO_4.out (fun _ hk => hk)) | (rw [add_block]; exact Kd.own_blk (Kd.R_away HO_4.out (fun _ hk => hk))) | (show (Addr.add _ _).block ≠ _; rw [add_block]; exact Kd.own_blk (Kd.R_away HO_4.out (fun _ hk => hk))) | (dsimp only; exact Kd.own_blk (Kd.R_away HO_4.out (fun _ hk => hk)))) _).trans (((cell_far (p := ⟨gb240, _, none⟩) (by first | exact Kd.own_blk (Kd.R_away HO_4.out (fun _ hk => hk)) | (rw [add_block]; exact Kd.own_blk (Kd.R_away HO_4.out (fun _ hk => hk))) | (show (Addr.add _ _).block ≠ _; rw [add_block]; exact Kd.own_blk (Kd.R_away HO_4.out (fun _ hk => hk))) | (dsimp only; exact Kd.own_blk (Kd.R_away HO_4.out (fun _ hk => hk)))) _).trans (((cell_far (p := ⟨gb240, _, none⟩) (by first | exact Kd.own_blk (Kd.R_away HO_4.out (fun _ hk => hk)) | (rw [add_block]; exact Kd.own_blk (Kd.R_away HO_4.out (fun _ hk => hk))) | (show (Addr.add _ _).block ≠ _; rw [add_block]; exact Kd.own_blk (Kd.R_away HO_4.out (fun _ hk => hk))) | (dsimp only; exact Kd.own_blk (Kd.R_away HO_4.out (fun _ hk => hk)))) _).trans (((cell_far (p := ⟨gb240, _, none⟩) (by first | exact Kd.own_blk (Kd.R_away HO_4.out (fun _ hk => hk)) | (rw [add_block]; exact Kd.own_blk (Kd.R_away HO_4.out (fun _ hk => hk))) | (show (Addr.add _ _).block ≠ _; rw [add_block]; exact Kd.own_blk (Kd.R_away HO_4.out (fun _ hk => hk))) | (dsimp only; exact Kd.own_blk (Kd.R_away HO_4.out (fun _ hk => hk)))) _).trans (hHeld.2.2.2.2.2.2))))))))⟩ (fun hHeld => ?_)
                                      clear hK K
                                      refine done_ (done_of HT_.out (by kernel_rfl)) ?_
                                      have hnb58 := NB240_225.out
                                      have hnc58 := NB225_240.out
                                      have hnb59 := NB240_232.out
                                      have hnc59 := NB232_240.out
                                      have hcz60_0 : w53.cell? ⟨gb240, 0, none⟩ = some (.int .i64 0) := (blk_cell BK240.out 0).trans rfl
                                      have hcz60_1 : w53.cell? ⟨gb240, 1, none⟩ = some (.int .i64 0) := (blk_cell BK240.out 1).trans rfl
                                      have hcz60_2 : w53.cell? ⟨gb240, 2, none⟩ = some (.int .i64 0) := (blk_cell BK240.out 2).trans rfl
                                      have hcz60_3 : w53.cell? ⟨gb240, 3, none⟩ = some (.int .i64 0) := (blk_cell BK240.out 3).trans rfl
                                      have hfz60_0 := blk_frozen BK240.out 0
                                      have hfz60_1 := blk_frozen BK240.out 1
                                      have hfz60_2 := blk_frozen BK240.out 2
                                      have hfz60_3 := blk_frozen BK240.out 3
                                      try go_wp2_with (first | ((with_reducible refine gate_callee (f := 22) rfl ?_); refine goesL_ (some 65) rfl rfl Try.func22 (by kernel_rfl) rfl #[.agg #[.int .i64 t236, .int .i64 t237, .int .i64 t238, .int .i64 t239]] rfl (by (try simp only [List.map_toArray, List.map_cons, List.map_nil]); first | done | rfl | (simp only [List.length_drop, List.length_take]; rfl)) ?_; (with_reducible refine (impl_ValidPose.calls t236 t237 t238 t239 true _ A46.out).mono ?_); rintro e w61 ⟨rfl, hb⟩; refine ⟨_, rfl, ?_⟩; have n0_ := Aside0.mk (Kd.R_below (by (with_reducible repeat (first | apply Kd.R_alloc | apply Kd.R_drewN | apply Kd.R_drew)); exact (Kd.R_mono (Kd.R_far (p := ⟨gb240, 3, none⟩) (Kd.R_far (p := ⟨gb240, 2, none⟩) (Kd.R_far (p := ⟨gb240, 1, none⟩) (Kd.R_far (p := ⟨gb240, 0, none⟩) (Kd.R_mono HO_4.out (fun k_ hk => (⟨hk, hk⟩ : _ ∧ k_ ≠ gb240))) (fun _ hk => hk.2) (.int .i64 t236)) (fun _ hk => hk.2) (.int .i64 t237)) (fun _ hk => hk.2) (.int .i64 t238)) (fun _ hk => hk.2) (.int .i64 t239)) (fun _ h_ => h_.1))) hb); have n1_ := Aside0.mk (blk_below (g := gb225) (o := .cells #[.int .i64 a0_0, .int .i64 a0_1, .int .i64 a0_2, .int .i64 a0_3, .slice (some ad231) l0_4.length c0_4] 39 (0, 0)) (by (with_reducible repeat (first | refine blk_drewN ?_ _ | refine blk_drew ?_ | refine blk_alloc ?_ _)); refine blk_far ?_ NB225_240.out _; (with_reducible repeat (first | refine blk_drewN ?_ _ | refine blk_drew ?_ | refine blk_alloc ?_ _)); refine blk_far ?_ NB225_240.out _; (with_reducible repeat (first | refine blk_drewN ?_ _ | refine blk_drew ?_ | refine blk_alloc ?_ _)); refine blk_far ?_ NB225_240.out _; (with_reducible repeat (first | refine blk_drewN ?_ _ | refine blk_drew ?_ | refine blk_alloc ?_ _)); refine blk_far ?_ NB225_240.out _; (with_reducible repeat (first | refine blk_drewN ?_ _ | refine blk_drew ?_ | refine blk_alloc ?_ _)); exact BK225.out) hb); have n2_ := Aside0.mk (blk_below (g := gb232) (o := .cells #[.int .i64 ((rd_T116 l0_4 x25_2).f0), .int .i64 ((rd_T116 l0_4 x25_2).f1), .int .i64 ((rd_T116 l0_4 x25_2).f2)] 116 (0, 0)) (by (with_reducible repeat (first | refine blk_drewN ?_ _ | refine blk_drew ?_ | refine blk_alloc ?_ _)); refine blk_far ?_ NB232_240.out _; (with_reducible repeat (first | refine blk_drewN ?_ _ | refine blk_drew ?_ | refine blk_alloc ?_ _)); refine blk_far ?_ NB232_240.out _; (with_reducible repeat (first | refine blk_drewN ?_ _ | refine blk_drew ?_ | refine blk_alloc ?_ _)); refine blk_far ?_ NB232_240.out _; (with_reducible repeat (first | refine blk_drewN ?_ _ | refine blk_drew ?_ | refine blk_alloc ?_ _)); refine blk_far ?_ NB232_240.out _; (with_reducible repeat (first | refine blk_drewN ?_ _ | refine blk_drew ?_ | refine blk_alloc ?_ _)); exact BK232.out) hb); have n3_ := Aside0.mk (blk_below (g := gb240) (o := .cells #[.int .i64 t236, .int .i64 t237, .int .i64 t238, .int .i64 t239] 25 (0, 0)) (by (with_reducible repeat (first | refine blk_drewN ?_ _ | refine blk_drew ?_ | refine blk_alloc ?_ _)); refine blk_put (cs := #[.int .i64 t236, .int .i64 t237, .int .i64 t238, .int .i64 0]) ?_ 3 _ rfl; (with_reducible repeat (first | refine blk_drewN ?_ _ | refine blk_drew ?_ | refine blk_alloc ?_ _)); refine blk_put (cs := #[.int .i64 t236, .int .i64 t237, .int .i64 0, .int .i64 0]) ?_ 2 _ rfl; (with_reducible repeat (first | refine blk_drewN ?_ _ | refine blk_drew ?_ | refine blk_alloc ?_ _)); refine blk_put (cs := #[.int .i64 t236, .int .i64 0, .int .i64 0, .int .i64 0]) ?_ 1 _ rfl; (with_reducible repeat (first | refine blk_drewN ?_ _ | refine blk_drew ?_ | refine blk_alloc ?_ _)); refine blk_put (cs := #[.int .i64 0, .int .i64 0, .int .i64 0, .int .i64 0]) ?_ 0 _ rfl; (with_reducible repeat (first | refine blk_drewN ?_ _ | refine blk_drew ?_ | refine blk_alloc ?_ _)); exact BK240.out) hb); have n4_ := Aside0.mk (below_step (by repeat (first | (with_reducible first | exact HB.out | apply below_alloc | apply pw_below_drewN | apply below_drew1 | refine below_set ?_ GE225.out | refine below_set ?_ GE232.out | refine below_set ?_ GE240.out) | exact HB.out)) hb); clear HO_4; clear BK225; clear BK232; clear BK240; clear HB; have HO_4 := n0_; have BK225 := n1_; have BK232 := n2_; have BK240 := n3_; have HB := n4_; clear n0_ n1_ n2_ n3_ n4_; (try clear hb); (try clear hb2); (try clear hk); (try clear hi); have hcz62_0 : w61.cell? ⟨gb240, 0, none⟩ = some (.int .i64 t236) := (blk_cell BK240.out 0).trans rfl; have hcz62_1 : w61.cell? ⟨gb240, 1, none⟩ = some (.int .i64 t237) := (blk_cell BK240.out 1).trans rfl; have hcz62_2 : w61.cell? ⟨gb240, 2, none⟩ = some (.int .i64 t238) := (blk_cell BK240.out 2).trans rfl; have hcz62_3 : w61.cell? ⟨gb240, 3, none⟩ = some (.int .i64 t239) := (blk_cell BK240.out 3).trans rfl; have hfz62_0 := blk_frozen BK240.out 0; have hfz62_1 := blk_frozen BK240.out 1; have hfz62_2 := blk_frozen BK240.out 2; have hfz62_3 := blk_frozen BK240.out 3) | ((with_reducible refine gate_builtin (b := .append) (xs := #[.tmp 67, .tmp 69]) rfl ?_); (try (refine gate_guard (by rfl) ?_; dsimp only)); at_builtin; refine Kd.R_append k25 (w0 := w) w.heap.size rfl (.tmp 67) (.tmp 69) 48 25 (.agg #[(.int .i64 0), (.int .i64 0), (.int .i64 0), (.int .i64 0)]) 32 rfl Try.underlying48 info25 rfl (by decide) (by omega) (.slice (some ad235) x4_4.length co50) x4_4 (⟨t236, t237, t238, t239⟩ : S25) [.int .i64 t236, .int .i64 t237, .int .i64 t238, .int .i64 t239] (fun k_ => k_ ≠ gb240) (fun _ => False) rfl rfl ?aP (fun _ hk => hk.elim) ?aF ?aO ?aB ?aS ?aL ?_; (case aP => exact k25_mkM _ _ _ (⟨t236, t237, t238, t239⟩ : S25)); (case aB => exact (by repeat (first | (with_reducible first | exact HB.out | apply below_alloc | apply pw_below_drewN | apply below_drew1 | refine below_set ?_ GE225.out | refine below_set ?_ GE232.out | refine below_set ?_ GE240.out) | exact HB.out))); (case aF => exact (fun k_ hk => Kd.freshB (g := gb240) (o := .cells #[.int .i64 t236, .int .i64 t237, .int .i64 t238, .int .i64 t239] 25 (0, 0)) (by (with_reducible repeat (first | refine blk_drewN ?_ _ | refine blk_drew ?_ | refine blk_alloc ?_ _)); exact BK240.out) k_ hk)); (case aO => exact (by (with_reducible repeat (first | apply Kd.R_alloc | apply Kd.R_drewN | apply Kd.R_drew)); exact HO_4.out)); (case aS => exact (below_size (by repeat (first | (with_reducible first | exact HB.out | apply below_alloc | apply pw_below_drewN | apply below_drew1 | refine below_set ?_ GE225.out | refine below_set ?_ GE232.out | refine below_set ?_ GE240.out) | exact HB.out)))); (case aL => have := LMc48.out; omega); intro v243 w63 ho hb hg hat; rw [← Ny242.out] at ho; have n0_ := Aside0.mk (blk_grown (g := gb225) (o := .cells #[.int .i64 a0_0, .int .i64 a0_1, .int .i64 a0_2, .int .i64 a0_3, .slice (some ad231) l0_4.length c0_4] 39 (0, 0)) (by (with_reducible repeat (first | refine blk_drewN ?_ _ | refine blk_drew ?_ | refine blk_alloc ?_ _)); exact BK225.out) hg (Kd.R_ne HO_4.out BK225.out (by decide))); have n1_ := Aside0.mk (blk_grown (g := gb232) (o := .cells #[.int .i64 ((rd_T116 l0_4 x25_2).f0), .int .i64 ((rd_T116 l0_4 x25_2).f1), .int .i64 ((rd_T116 l0_4 x25_2).f2)] 116 (0, 0)) (by (with_reducible repeat (first | refine blk_drewN ?_ _ | refine blk_drew ?_ | refine blk_alloc ?_ _)); exact BK232.out) hg (Kd.R_ne HO_4.out BK232.out (by decide))); have n2_ := Aside0.mk (blk_grown (g := gb240) (o := .cells #[.int .i64 t236, .int .i64 t237, .int .i64 t238, .int .i64 t239] 25 (0, 0)) (by (with_reducible repeat (first | refine blk_drewN ?_ _ | refine blk_drew ?_ | refine blk_alloc ?_ _)); exact BK240.out) hg (Kd.R_away HO_4.out (fun _ hk => hk))); have n3_ := Aside0.mk (hb); have n4_ := Aside0.mk (ho); clear BK225; clear BK232; clear BK240; clear HB; clear HO_4; have BK225 := n0_; have BK232 := n1_; have BK240 := n2_; have HB := n3_; have HO244 := n4_; clear n0_ n1_ n2_ n3_ n4_; clear ho hb hg hat))
                                      go_roundg k4
                                      case measure => have := HJ1.out; have := HK2.out; have := HJ19.out; have := HK4.out; omega
                                      case rel => exact ⟨(y242), (wrap64 (x51_4 + 1)), (by first | rfl | (simp; done) | (simp [*]; done)), H', ⟨by have := HJ1.out; have := HK2.out; have := HJ19.out; have := HK4.out; omega⟩, ⟨by (with_reducible repeat (first | apply Kd.R_alloc | apply Kd.R_drewN | apply Kd.R_drew)); exact Kd.R_mono HO244.out (fun _ hk => trivial)⟩, ⟨by (with_reducible repeat (first | refine blk_drewN ?_ _ | refine blk_drew ?_ | refine blk_alloc ?_ _)); exact BK225.out⟩, ⟨by (with_reducible repeat (first | refine blk_drewN ?_ _ | refine blk_drew ?_ | refine blk_alloc ?_ _)); exact BK232.out⟩, ⟨by repeat (first | (with_reducible first | exact HB.out | apply below_alloc | apply pw_below_drewN | apply below_drew1 | refine below_set ?_ GE225.out | refine below_set ?_ GE232.out | refine below_set ?_ GE240.out) | exact HB.out)⟩⟩
                                    · rw [if_neg c48] at H
                                      exact absurd H (by simp)
                                  · replace c47 := Bool.eq_false_iff.mpr c47
                                    subst c47
                                    have H1 : (some (([] : List (S25)), false)) = some (r1, r2) := by rw [if_neg (show ¬ (false = true) by decide)] at H; exact H
                                    clear H
                                    have H := H1
                                    clear H1
                                    simp only [Option.some.injEq, Prod.mk.injEq] at H
                                    obtain ⟨rfl, rfl⟩ := H
                                    try go_wp2
                                    have n0_ := Aside0.mk (Kd.R_drew HO_4.out)
                                    have n1_ := Aside0.mk (blk_drew BK225.out)
                                    have n2_ := Aside0.mk (blk_drew BK232.out)
                                    have n3_ := Aside0.mk (below_drew1 HB.out)
                                    clear HO_4
                                    clear BK225
                                    clear BK232
                                    clear HB
                                    have HO_4 := n0_
                                    have BK225 := n1_
                                    have BK232 := n2_
                                    have HB := n3_
                                    clear n0_ n1_ n2_ n3_
                                    obtain ⟨Ao65, co65, eo65⟩ := Kd.R_slice HO_4.out
                                    (first | subst eo65 | (injection eo65 with f1_ f2_ f3_; have f4_ := f1_.symm; have f5_ := f3_.symm; clear f1_ f2_ f3_; subst f4_; subst f5_))
                                    have p235 : 0 ≤ ((ji42) : Int) := of_decide_eq_true (by first | (with_reducible assumption) | assumption)
                                    have q235 : (ji42) < (x4_4.length : Int) := of_decide_eq_true (by first | (with_reducible assumption) | assumption)
                                    obtain ⟨ad235, e235, hx235_0, hx235_1, hx235_2, hx235_3⟩ := at_T25 (Kd.R_reads' HO_4.out).2.2 (ji42) p235 q235
                                    cases e235
                                    replace p235 := eq_true p235
                                    replace q235 := eq_true q235
                                    refine start_ (n := 13) (S := fun w' => w'.cell? ⟨gb232, 0, none⟩ = some (.int .i64 ((rd_T116 l0_4 x25_2).f0)) ∧ w'.cell? ⟨gb232, 1, none⟩ = some (.int .i64 ((rd_T116 l0_4 x25_2).f1)) ∧ w'.cell? ⟨gb232, 2, none⟩ = some (.int .i64 ((rd_T116 l0_4 x25_2).f2)) ∧ w'.cell? (ad235.add (((ji42)).toNat * 4)) = some (.int .i64 ((rd_T25 x4_4 (ji42)).f0)) ∧ w'.cell? ⟨(ad235.add (((ji42)).toNat * 4)).block, (ad235.add (((ji42)).toNat * 4)).off + 1, none⟩ = some (.int .i64 ((rd_T25 x4_4 (ji42)).f1)) ∧ w'.cell? ⟨(ad235.add (((ji42)).toNat * 4)).block, (ad235.add (((ji42)).toNat * 4)).off + 2, none⟩ = some (.int .i64 ((rd_T25 x4_4 (ji42)).f2)) ∧ w'.cell? ⟨(ad235.add (((ji42)).toNat * 4)).block, (ad235.add (((ji42)).toNat * 4)).off + 3, none⟩ = some (.int .i64 ((rd_T25 x4_4 (ji42)).f3))) (ds := []) #[false, false, false, false, false, false, false, false, false, false, false, false, false] (by kernel_rfl) rfl rfl ⟨(blk_cell BK232.out 0).trans rfl, (blk_cell BK232.out 1).trans rfl, (blk_cell BK232.out 2).trans rfl, hx235_0, hx235_1, hx235_2, hx235_3⟩ (fun hHeld => ?_); refine with_tabW impl_Axis_poses.tab11 impl_Axis_poses.bits11 (fun HT_ HW_ => ?_)
                                    generalize wr.drew = w64 at HO_4 BK225 BK232 HB hx235_0 hx235_1 hx235_2 hx235_3 hHeld ⊢
                                    refine pure_ (i := 0) (N := some 53) (v := ?_) (a' := ?_) #[true, false, false, false, false, false, false, false, false, false, false, false, false] rfl rfl (any_of HT_.out (by kernel_rfl)) (fun _ _ _ h => h) (Or.inl ⟨by rfl, ?_⟩) ?_ ?_
                                    rotate_left
                                    · intro w'
                                      go_simp
                                      with_reducible rfl
                                    rotate_left
                                    · simp only [Act.put, List.setIfInBounds_toArray, List.set_cons_zero, List.set_cons_succ, i64_w, i32_w]
                                      rfl
                                    refine pure_ (i := 1) (N := some 54) (v := ?_) (a' := ?_) #[true, true, false, false, false, false, false, false, false, false, false, false, false] rfl rfl (any_of HT_.out (by kernel_rfl)) (fun _ _ _ h => h) (Or.inl ⟨by rfl, ?_⟩) ?_ ?_
                                    rotate_left
                                    · intro w'
                                      go_simp
                                      with_reducible rfl
                                    rotate_left
                                    · simp only [Act.put, List.setIfInBounds_toArray, List.set_cons_zero, List.set_cons_succ, i64_w, i32_w]
                                      rfl
                                    refine pure_ (i := 2) (N := some 55) (v := ?_) (a' := ?_) #[true, true, true, false, false, false, false, false, false, false, false, false, false] rfl rfl (any_of HT_.out (by kernel_rfl)) (fun _ _ _ h => h) (Or.inl ⟨by rfl, ?_⟩) ?_ ?_
                                    rotate_left
                                    · intro w'
                                      go_simp
                                      with_reducible rfl
                                    rotate_left
                                    · simp only [Act.put, List.setIfInBounds_toArray, List.set_cons_zero, List.set_cons_succ, i64_w, i32_w]
                                      rfl
                                    refine pure_ (i := 3) (N := some 56) (v := ?_) (a' := ?_) #[true, true, true, true, false, false, false, false, false, false, false, false, false] rfl rfl (any_of HT_.out (by kernel_rfl)) (fun _ _ _ h => h) (Or.inl ⟨by rfl, ?_⟩) ?_ ?_
                                    rotate_left
                                    · intro w'
                                      go_simp
                                      with_reducible rfl
                                    rotate_left
                                    · simp only [Act.put, List.setIfInBounds_toArray, List.set_cons_zero, List.set_cons_succ, i64_w, i32_w]
                                      rfl
                                    refine pure_ (i := 4) (N := some 57) (v := ?_) (a' := ?_) #[true, true, true, true, true, false, false, false, false, false, false, false, false] rfl rfl (any_of HT_.out (by kernel_rfl)) (fun _ _ _ h => h) (Or.inl ⟨by rfl, ?_⟩) ?_ ?_
                                    rotate_left
                                    · intro w'
                                      go_simp
                                      with_reducible rfl
                                    rotate_left
                                    · simp only [Act.put, List.setIfInBounds_toArray, List.set_cons_zero, List.set_cons_succ, i64_w, i32_w]
                                      rfl
                                    refine pure_ (i := 6) (N := some 59) (v := ?_) (a' := ?_) #[true, true, true, true, true, false, true, false, false, false, false, false, false] rfl rfl (any_of HT_.out (by kernel_rfl)) (fun _ _ _ h => h) (Or.inl ⟨by rfl, ?_⟩) ?_ ?_
                                    rotate_left
                                    · intro w'
                                      go_simp
                                      with_reducible rfl
                                    rotate_left
                                    · simp only [Act.put, List.setIfInBounds_toArray, List.set_cons_zero, List.set_cons_succ, i64_w, i32_w]
                                      rfl
                                    refine pure_ (i := 8) (N := some 61) (v := ?_) (a' := ?_) #[true, true, true, true, true, false, true, false, true, false, false, false, false] rfl rfl (any_of HT_.out (by kernel_rfl)) (fun _ _ _ h => h) (Or.inl ⟨by rfl, ?_⟩) ?_ ?_
                                    rotate_left
                                    · intro w'
                                      go_simp
                                      with_reducible rfl
                                    rotate_left
                                    · simp only [Act.put, List.setIfInBounds_toArray, List.set_cons_zero, List.set_cons_succ, i64_w, i32_w]
                                      rfl
                                    refine take_ (i := 5) (N := some 58) (v := ?_) (a' := ?_) #[true, true, true, true, true, true, true, false, true, false, false, false, false] rfl rfl (take_ofW HT_.out HW_.out (by kernel_rfl)) (fun _ _ _ h => h) (Or.inl ⟨by rfl, ?_⟩) hHeld ?_ ?_
                                    rotate_left
                                    · rintro w' ⟨s0, s1, s2, s3, s4, s5, s6⟩
                                      go_simp
                                      with_reducible rfl
                                    rotate_left
                                    · simp only [Act.put, List.setIfInBounds_toArray, List.set_cons_zero, List.set_cons_succ, i64_w, i32_w]
                                      rfl
                                    refine take_ (i := 7) (N := some 60) (v := ?_) (a' := ?_) #[true, true, true, true, true, true, true, true, true, false, false, false, false] rfl rfl (take_ofW HT_.out HW_.out (by kernel_rfl)) (fun _ _ _ h => h) (Or.inl ⟨by rfl, ?_⟩) hHeld ?_ ?_
                                    rotate_left
                                    · rintro w' ⟨s0, s1, s2, s3, s4, s5, s6⟩
                                      go_simp
                                      with_reducible rfl
                                    rotate_left
                                    · simp only [Act.put, List.setIfInBounds_toArray, List.set_cons_zero, List.set_cons_succ, i64_w, i32_w]
                                      rfl
                                    refine take_ (i := 9) (N := some 62) (v := ?_) (a' := ?_) #[true, true, true, true, true, true, true, true, true, true, false, false, false] rfl rfl (take_ofW HT_.out HW_.out (by kernel_rfl)) (fun _ _ _ h => h) (Or.inl ⟨by rfl, ?_⟩) hHeld ?_ ?_
                                    rotate_left
                                    · rintro w' ⟨s0, s1, s2, s3, s4, s5, s6⟩
                                      go_simp
                                      with_reducible rfl
                                    rotate_left
                                    · simp only [Act.put, List.setIfInBounds_toArray, List.set_cons_zero, List.set_cons_succ, i64_w, i32_w]
                                      rfl
                                    refine join_ (σ := Nat) 1 #[true, true, true, true, true, true, true, true, true, true, true, true, false] (fun s_ => [(63, .agg #[.int .i64 t236, .int .i64 t237, .int .i64 t238, .int .i64 t239]), (7, .pointer (some ⟨s_, 0, none⟩))]) (fun s_ w' => (w'.cell? ⟨gb232, 0, none⟩ = some (.int .i64 ((rd_T116 l0_4 x25_2).f0)) ∧ w'.cell? ⟨gb232, 1, none⟩ = some (.int .i64 ((rd_T116 l0_4 x25_2).f1)) ∧ w'.cell? ⟨gb232, 2, none⟩ = some (.int .i64 ((rd_T116 l0_4 x25_2).f2)) ∧ w'.cell? (ad235.add (((ji42)).toNat * 4)) = some (.int .i64 ((rd_T25 x4_4 (ji42)).f0)) ∧ w'.cell? ⟨(ad235.add (((ji42)).toNat * 4)).block, (ad235.add (((ji42)).toNat * 4)).off + 1, none⟩ = some (.int .i64 ((rd_T25 x4_4 (ji42)).f1)) ∧ w'.cell? ⟨(ad235.add (((ji42)).toNat * 4)).block, (ad235.add (((ji42)).toNat * 4)).off + 2, none⟩ = some (.int .i64 ((rd_T25 x4_4 (ji42)).f2)) ∧ w'.cell? ⟨(ad235.add (((ji42)).toNat * 4)).block, (ad235.add (((ji42)).toNat * 4)).off + 3, none⟩ = some (.int .i64 ((rd_T25 x4_4 (ji42)).f3))) ∧ (Kd.R k25 25 w' w.heap.size (fun k_ => k_ ≠ s_) (.slice (some ad235) x4_4.length co65) x4_4) ∧ (w'.heap[gb225]? = some (.cells #[.int .i64 a0_0, .int .i64 a0_1, .int .i64 a0_2, .int .i64 a0_3, .slice (some ad231) l0_4.length c0_4] 39 (0, 0))) ∧ (w'.heap[gb232]? = some (.cells #[.int .i64 ((rd_T116 l0_4 x25_2).f0), .int .i64 ((rd_T116 l0_4 x25_2).f1), .int .i64 ((rd_T116 l0_4 x25_2).f2)] 116 (0, 0))) ∧ (w'.heap[s_]? = some (.cells #[.int .i64 0, .int .i64 0, .int .i64 0, .int .i64 0] 25 (0, 0))) ∧ (w.heap.size ≤ s_) ∧ (w.heap.size ≤ s_) ∧ (gb225 ≠ s_) ∧ (s_ ≠ gb225) ∧ (gb232 ≠ s_) ∧ (s_ ≠ gb232) ∧ (Below w.heap.size w w')) ?_ ?_
                                    rotate_left
                                    · intro hCont
                                      refine two_ (i := 10) (j := 11) (Ni := some 63) (Nj := some 7) #[true, true, true, true, true, true, true, true, true, true, true, false, false] #[true, true, true, true, true, true, true, true, true, true, false, true, false] rfl rfl rfl rfl (two_of HT_.out (by kernel_rfl)) (by decide) (by decide) (fun K hK => ?_) (fun K hK => ?_)
                                      · skip
                                        refine goes_ Try.func70 (by kernel_rfl) rfl #[.agg #[.int .i64 ((rd_T25 x4_4 (ji42)).f0), .int .i64 ((rd_T25 x4_4 (ji42)).f1), .int .i64 ((rd_T25 x4_4 (ji42)).f2), .int .i64 ((rd_T25 x4_4 (ji42)).f3)], .int .i64 ((rd_T116 l0_4 x25_2).f1), .int .i64 ((rd_T116 l0_4 x25_2).f2)] (by rfl) rfl rfl (by (try simp only [List.map_toArray, List.map_cons, List.map_nil]); first | done | (simp only [hji42]; rfl) | rfl | (simp only [List.length_drop, List.length_take]; rfl)) ?_
                                        with_reducible refine (impl_Pose_next.calls ((rd_T25 x4_4 (ji42)).f0) ((rd_T25 x4_4 (ji42)).f1) ((rd_T25 x4_4 (ji42)).f2) ((rd_T25 x4_4 (ji42)).f3) ((rd_T116 l0_4 x25_2).f1) ((rd_T116 l0_4 x25_2).f2) t236 t237 t238 t239 _ A45.out).mono ?_
                                        rintro e w66 ⟨rfl, hb⟩
                                        have HS3_ := (hb.cell (World.block_lt_of_cell? _ _ (hHeld.2.2.2.1))).trans (hHeld.2.2.2.1)
                                        have HS4_ := (hb.cell (World.block_lt_of_cell? _ _ (hHeld.2.2.2.2.1))).trans (hHeld.2.2.2.2.1)
                                        have HS5_ := (hb.cell (World.block_lt_of_cell? _ _ (hHeld.2.2.2.2.2.1))).trans (hHeld.2.2.2.2.2.1)
                                        have HS6_ := (hb.cell (World.block_lt_of_cell? _ _ (hHeld.2.2.2.2.2.2))).trans (hHeld.2.2.2.2.2.2)
                                        refine ⟨_, rfl, ?_⟩
                                        have n0_ := Aside0.mk (Kd.R_below (by (with_reducible repeat (first | apply Kd.R_alloc | apply Kd.R_drewN | apply Kd.R_drew)); exact HO_4.out) hb)
                                        have n1_ := Aside0.mk (blk_below (g := gb225) (o := .cells #[.int .i64 a0_0, .int .i64 a0_1, .int .i64 a0_2, .int .i64 a0_3, .slice (some ad231) l0_4.length c0_4] 39 (0, 0)) (by (with_reducible repeat (first | refine blk_drewN ?_ _ | refine blk_drew ?_ | refine blk_alloc ?_ _)); exact BK225.out) hb)
                                        have n2_ := Aside0.mk (blk_below (g := gb232) (o := .cells #[.int .i64 ((rd_T116 l0_4 x25_2).f0), .int .i64 ((rd_T116 l0_4 x25_2).f1), .int .i64 ((rd_T116 l0_4 x25_2).f2)] 116 (0, 0)) (by (with_reducible repeat (first | refine blk_drewN ?_ _ | refine blk_drew ?_ | refine blk_alloc ?_ _)); exact BK232.out) hb)
                                        have n3_ := Aside0.mk (below_step (by repeat (first | (with_reducible first | exact HB.out | apply below_alloc | apply pw_below_drewN | apply below_drew1 | refine below_set ?_ GE225.out | refine below_set ?_ GE232.out) | exact HB.out)) hb)
                                        clear HO_4
                                        clear BK225
                                        clear BK232
                                        clear HB
                                        have HO_4 := n0_
                                        have BK225 := n1_
                                        have BK232 := n2_
                                        have HB := n3_
                                        clear n0_ n1_ n2_ n3_
                                        (try clear hb)
                                        (try clear hb2)
                                        (try clear hk)
                                        (try clear hi)
                                        refine hK.out _ _ ⟨(blk_cell BK232.out 0).trans rfl, (blk_cell BK232.out 1).trans rfl, (blk_cell BK232.out 2).trans rfl, HS3_, HS4_, HS5_, HS6_⟩ (fun hHeld => ?_)
                                        clear hK K
                                        refine norm_ (a' := ?_) ?_ ?_
                                        rotate_left
                                        · show Act.put _ (some 63) _ = _
                                          simp only [Act.put, List.setIfInBounds_toArray, List.set_cons_zero, List.set_cons_succ, i64_w, i32_w]
                                          rfl
                                        refine one_ (i := 11) (N := some 7) #[true, true, true, true, true, true, true, true, true, true, true, true, false] rfl rfl (one_of HT_.out (by kernel_rfl)) (by decide) (fun K hK => ?_)
                                        refine box_step ?hg (N := 7) ?hd (cs := #[.int .i64 0, .int .i64 0, .int .i64 0, .int .i64 0]) (t := 25) ?hr ?_; (case hd => rfl); (case hg => rfl); (case hr => first | (go_simp; done) | (go_simp; rfl))
                                        intro gb240 hg w67 hbox hb
                                        have HS3_ := (hb.cell (World.block_lt_of_cell? _ _ (hHeld.2.2.2.1))).trans (hHeld.2.2.2.1)
                                        have HS4_ := (hb.cell (World.block_lt_of_cell? _ _ (hHeld.2.2.2.2.1))).trans (hHeld.2.2.2.2.1)
                                        have HS5_ := (hb.cell (World.block_lt_of_cell? _ _ (hHeld.2.2.2.2.2.1))).trans (hHeld.2.2.2.2.2.1)
                                        have HS6_ := (hb.cell (World.block_lt_of_cell? _ _ (hHeld.2.2.2.2.2.2))).trans (hHeld.2.2.2.2.2.2)
                                        have n0_ := Aside0.mk (Kd.R_below (Kd.R_elderB (by (with_reducible repeat (first | apply Kd.R_alloc | apply Kd.R_drewN | apply Kd.R_drew)); exact HO_4.out) gb240 (Nat.le_of_eq hg.symm)) hb)
                                        have n1_ := Aside0.mk (blk_below (g := gb225) (o := .cells #[.int .i64 a0_0, .int .i64 a0_1, .int .i64 a0_2, .int .i64 a0_3, .slice (some ad231) l0_4.length c0_4] 39 (0, 0)) (by (with_reducible repeat (first | refine blk_drewN ?_ _ | refine blk_drew ?_ | refine blk_alloc ?_ _)); exact BK225.out) hb)
                                        have n2_ := Aside0.mk (blk_below (g := gb232) (o := .cells #[.int .i64 ((rd_T116 l0_4 x25_2).f0), .int .i64 ((rd_T116 l0_4 x25_2).f1), .int .i64 ((rd_T116 l0_4 x25_2).f2)] 116 (0, 0)) (by (with_reducible repeat (first | refine blk_drewN ?_ _ | refine blk_drew ?_ | refine blk_alloc ?_ _)); exact BK232.out) hb)
                                        have n3_ := Aside0.mk (below_step (by repeat (first | (with_reducible first | exact HB.out | apply below_alloc | apply pw_below_drewN | apply below_drew1 | refine below_set ?_ GE225.out | refine below_set ?_ GE232.out) | exact HB.out)) hb)
                                        have n4_ := Aside0.mk (hbox)
                                        have n5_ := Aside0.mk ((by rw [hg]; exact (below_size (by repeat (first | (with_reducible first | exact HB.out | apply below_alloc | apply pw_below_drewN | apply below_drew1 | refine below_set ?_ GE225.out | refine below_set ?_ GE232.out) | exact HB.out))) : w.heap.size ≤ gb240))
                                        have n6_ := Aside0.mk ((by rw [hg]; exact (below_size (by repeat (first | (with_reducible first | exact HB.out | apply below_alloc | apply pw_below_drewN | apply below_drew1 | refine below_set ?_ GE225.out | refine below_set ?_ GE232.out) | exact HB.out))) : w.heap.size ≤ gb240))
                                        have n7_ := Aside0.mk ((by rw [hg]; exact Nat.ne_of_lt (blk_lt (g := gb225) (o := .cells #[.int .i64 a0_0, .int .i64 a0_1, .int .i64 a0_2, .int .i64 a0_3, .slice (some ad231) l0_4.length c0_4] 39 (0, 0)) (by (with_reducible repeat (first | refine blk_drewN ?_ _ | refine blk_drew ?_ | refine blk_alloc ?_ _)); exact BK225.out)) : gb225 ≠ gb240))
                                        have n8_ := Aside0.mk ((by rw [hg]; exact Nat.ne_of_gt (blk_lt (g := gb225) (o := .cells #[.int .i64 a0_0, .int .i64 a0_1, .int .i64 a0_2, .int .i64 a0_3, .slice (some ad231) l0_4.length c0_4] 39 (0, 0)) (by (with_reducible repeat (first | refine blk_drewN ?_ _ | refine blk_drew ?_ | refine blk_alloc ?_ _)); exact BK225.out)) : gb240 ≠ gb225))
                                        have n9_ := Aside0.mk ((by rw [hg]; exact Nat.ne_of_lt (blk_lt (g := gb232) (o := .cells #[.int .i64 ((rd_T116 l0_4 x25_2).f0), .int .i64 ((rd_T116 l0_4 x25_2).f1), .int .i64 ((rd_T116 l0_4 x25_2).f2)] 116 (0, 0)) (by (with_reducible repeat (first | refine blk_drewN ?_ _ | refine blk_drew ?_ | refine blk_alloc ?_ _)); exact BK232.out)) : gb232 ≠ gb240))
                                        have n10_ := Aside0.mk ((by rw [hg]; exact Nat.ne_of_gt (blk_lt (g := gb232) (o := .cells #[.int .i64 ((rd_T116 l0_4 x25_2).f0), .int .i64 ((rd_T116 l0_4 x25_2).f1), .int .i64 ((rd_T116 l0_4 x25_2).f2)] 116 (0, 0)) (by (with_reducible repeat (first | refine blk_drewN ?_ _ | refine blk_drew ?_ | refine blk_alloc ?_ _)); exact BK232.out)) : gb240 ≠ gb232))
                                        clear HO_4
                                        clear BK225
                                        clear BK232
                                        clear HB
                                        have HO_4 := n0_
                                        have BK225 := n1_
                                        have BK232 := n2_
                                        have HB := n3_
                                        have BK240 := n4_
                                        have GW240 := n5_
                                        have GE240 := n6_
                                        have NB225_240 := n7_
                                        have NB240_225 := n8_
                                        have NB232_240 := n9_
                                        have NB240_232 := n10_
                                        clear n0_ n1_ n2_ n3_ n4_ n5_ n6_ n7_ n8_ n9_ n10_
                                        clear hb hbox hg
                                        refine hK.out _ _ ⟨(blk_cell BK232.out 0).trans rfl, (blk_cell BK232.out 1).trans rfl, (blk_cell BK232.out 2).trans rfl, HS3_, HS4_, HS5_, HS6_⟩ (fun hHeld => ?_)
                                        clear hK K
                                        refine norm_ (a' := ?_) ?_ ?_
                                        rotate_left
                                        · show Act.put _ (some 7) _ = _
                                          simp only [Act.put, List.setIfInBounds_toArray, List.set_cons_zero, List.set_cons_succ, i64_w, i32_w]
                                          rfl
                                        exact norm_ (by simp only [putAll, Act.put, List.setIfInBounds_toArray, List.set_cons_zero, List.set_cons_succ]) (hCont (gb240) _ ⟨hHeld, (by (with_reducible repeat (first | apply Kd.R_alloc | apply Kd.R_drewN | apply Kd.R_drew)); exact Kd.R_mono HO_4.out (fun _ hk => hk.2)), (by (with_reducible repeat (first | refine blk_drewN ?_ _ | refine blk_drew ?_ | refine blk_alloc ?_ _)); exact BK225.out), (by (with_reducible repeat (first | refine blk_drewN ?_ _ | refine blk_drew ?_ | refine blk_alloc ?_ _)); exact BK232.out), (by (with_reducible repeat (first | refine blk_drewN ?_ _ | refine blk_drew ?_ | refine blk_alloc ?_ _)); exact BK240.out), GW240.out, GE240.out, NB225_240.out, NB240_225.out, NB232_240.out, NB240_232.out, (by repeat (first | (with_reducible first | exact HB.out | apply below_alloc | apply pw_below_drewN | apply below_drew1 | refine below_set ?_ GE225.out | refine below_set ?_ GE232.out | refine below_set ?_ GE240.out) | exact HB.out))⟩)
                                      · skip
                                        refine box_step ?hg (N := 7) ?hd (cs := #[.int .i64 0, .int .i64 0, .int .i64 0, .int .i64 0]) (t := 25) ?hr ?_; (case hd => rfl); (case hg => rfl); (case hr => first | (go_simp; done) | (go_simp; rfl))
                                        intro gb240 hg w66 hbox hb
                                        have HS3_ := (hb.cell (World.block_lt_of_cell? _ _ (hHeld.2.2.2.1))).trans (hHeld.2.2.2.1)
                                        have HS4_ := (hb.cell (World.block_lt_of_cell? _ _ (hHeld.2.2.2.2.1))).trans (hHeld.2.2.2.2.1)
                                        have HS5_ := (hb.cell (World.block_lt_of_cell? _ _ (hHeld.2.2.2.2.2.1))).trans (hHeld.2.2.2.2.2.1)
                                        have HS6_ := (hb.cell (World.block_lt_of_cell? _ _ (hHeld.2.2.2.2.2.2))).trans (hHeld.2.2.2.2.2.2)
                                        have n0_ := Aside0.mk (Kd.R_below (Kd.R_elderB (by (with_reducible repeat (first | apply Kd.R_alloc | apply Kd.R_drewN | apply Kd.R_drew)); exact HO_4.out) gb240 (Nat.le_of_eq hg.symm)) hb)
                                        have n1_ := Aside0.mk (blk_below (g := gb225) (o := .cells #[.int .i64 a0_0, .int .i64 a0_1, .int .i64 a0_2, .int .i64 a0_3, .slice (some ad231) l0_4.length c0_4] 39 (0, 0)) (by (with_reducible repeat (first | refine blk_drewN ?_ _ | refine blk_drew ?_ | refine blk_alloc ?_ _)); exact BK225.out) hb)
                                        have n2_ := Aside0.mk (blk_below (g := gb232) (o := .cells #[.int .i64 ((rd_T116 l0_4 x25_2).f0), .int .i64 ((rd_T116 l0_4 x25_2).f1), .int .i64 ((rd_T116 l0_4 x25_2).f2)] 116 (0, 0)) (by (with_reducible repeat (first | refine blk_drewN ?_ _ | refine blk_drew ?_ | refine blk_alloc ?_ _)); exact BK232.out) hb)
                                        have n3_ := Aside0.mk (below_step (by repeat (first | (with_reducible first | exact HB.out | apply below_alloc | apply pw_below_drewN | apply below_drew1 | refine below_set ?_ GE225.out | refine below_set ?_ GE232.out) | exact HB.out)) hb)
                                        have n4_ := Aside0.mk (hbox)
                                        have n5_ := Aside0.mk ((by rw [hg]; exact (below_size (by repeat (first | (with_reducible first | exact HB.out | apply below_alloc | apply pw_below_drewN | apply below_drew1 | refine below_set ?_ GE225.out | refine below_set ?_ GE232.out) | exact HB.out))) : w.heap.size ≤ gb240))
                                        have n6_ := Aside0.mk ((by rw [hg]; exact (below_size (by repeat (first | (with_reducible first | exact HB.out | apply below_alloc | apply pw_below_drewN | apply below_drew1 | refine below_set ?_ GE225.out | refine below_set ?_ GE232.out) | exact HB.out))) : w.heap.size ≤ gb240))
                                        have n7_ := Aside0.mk ((by rw [hg]; exact Nat.ne_of_lt (blk_lt (g := gb225) (o := .cells #[.int .i64 a0_0, .int .i64 a0_1, .int .i64 a0_2, .int .i64 a0_3, .slice (some ad231) l0_4.length c0_4] 39 (0, 0)) (by (with_reducible repeat (first | refine blk_drewN ?_ _ | refine blk_drew ?_ | refine blk_alloc ?_ _)); exact BK225.out)) : gb225 ≠ gb240))
                                        have n8_ := Aside0.mk ((by rw [hg]; exact Nat.ne_of_gt (blk_lt (g := gb225) (o := .cells #[.int .i64 a0_0, .int .i64 a0_1, .int .i64 a0_2, .int .i64 a0_3, .slice (some ad231) l0_4.length c0_4] 39 (0, 0)) (by (with_reducible repeat (first | refine blk_drewN ?_ _ | refine blk_drew ?_ | refine blk_alloc ?_ _)); exact BK225.out)) : gb240 ≠ gb225))
                                        have n9_ := Aside0.mk ((by rw [hg]; exact Nat.ne_of_lt (blk_lt (g := gb232) (o := .cells #[.int .i64 ((rd_T116 l0_4 x25_2).f0), .int .i64 ((rd_T116 l0_4 x25_2).f1), .int .i64 ((rd_T116 l0_4 x25_2).f2)] 116 (0, 0)) (by (with_reducible repeat (first | refine blk_drewN ?_ _ | refine blk_drew ?_ | refine blk_alloc ?_ _)); exact BK232.out)) : gb232 ≠ gb240))
                                        have n10_ := Aside0.mk ((by rw [hg]; exact Nat.ne_of_gt (blk_lt (g := gb232) (o := .cells #[.int .i64 ((rd_T116 l0_4 x25_2).f0), .int .i64 ((rd_T116 l0_4 x25_2).f1), .int .i64 ((rd_T116 l0_4 x25_2).f2)] 116 (0, 0)) (by (with_reducible repeat (first | refine blk_drewN ?_ _ | refine blk_drew ?_ | refine blk_alloc ?_ _)); exact BK232.out)) : gb240 ≠ gb232))
                                        clear HO_4
                                        clear BK225
                                        clear BK232
                                        clear HB
                                        have HO_4 := n0_
                                        have BK225 := n1_
                                        have BK232 := n2_
                                        have HB := n3_
                                        have BK240 := n4_
                                        have GW240 := n5_
                                        have GE240 := n6_
                                        have NB225_240 := n7_
                                        have NB240_225 := n8_
                                        have NB232_240 := n9_
                                        have NB240_232 := n10_
                                        clear n0_ n1_ n2_ n3_ n4_ n5_ n6_ n7_ n8_ n9_ n10_
                                        clear hb hbox hg
                                        refine hK.out _ _ ⟨(blk_cell BK232.out 0).trans rfl, (blk_cell BK232.out 1).trans rfl, (blk_cell BK232.out 2).trans rfl, HS3_, HS4_, HS5_, HS6_⟩ (fun hHeld => ?_)
                                        clear hK K
                                        refine norm_ (a' := ?_) ?_ ?_
                                        rotate_left
                                        · show Act.put _ (some 7) _ = _
                                          simp only [Act.put, List.setIfInBounds_toArray, List.set_cons_zero, List.set_cons_succ, i64_w, i32_w]
                                          rfl
                                        refine one_ (i := 10) (N := some 63) #[true, true, true, true, true, true, true, true, true, true, true, true, false] rfl rfl (one_of HT_.out (by kernel_rfl)) (by decide) (fun K hK => ?_)
                                        refine goes_ Try.func70 (by kernel_rfl) rfl #[.agg #[.int .i64 ((rd_T25 x4_4 (ji42)).f0), .int .i64 ((rd_T25 x4_4 (ji42)).f1), .int .i64 ((rd_T25 x4_4 (ji42)).f2), .int .i64 ((rd_T25 x4_4 (ji42)).f3)], .int .i64 ((rd_T116 l0_4 x25_2).f1), .int .i64 ((rd_T116 l0_4 x25_2).f2)] (by rfl) rfl rfl (by (try simp only [List.map_toArray, List.map_cons, List.map_nil]); first | done | (simp only [hji42]; rfl) | rfl | (simp only [List.length_drop, List.length_take]; rfl)) ?_
                                        with_reducible refine (impl_Pose_next.calls ((rd_T25 x4_4 (ji42)).f0) ((rd_T25 x4_4 (ji42)).f1) ((rd_T25 x4_4 (ji42)).f2) ((rd_T25 x4_4 (ji42)).f3) ((rd_T116 l0_4 x25_2).f1) ((rd_T116 l0_4 x25_2).f2) t236 t237 t238 t239 _ A45.out).mono ?_
                                        rintro e w67 ⟨rfl, hb⟩
                                        have HS3_ := (hb.cell (World.block_lt_of_cell? _ _ (hHeld.2.2.2.1))).trans (hHeld.2.2.2.1)
                                        have HS4_ := (hb.cell (World.block_lt_of_cell? _ _ (hHeld.2.2.2.2.1))).trans (hHeld.2.2.2.2.1)
                                        have HS5_ := (hb.cell (World.block_lt_of_cell? _ _ (hHeld.2.2.2.2.2.1))).trans (hHeld.2.2.2.2.2.1)
                                        have HS6_ := (hb.cell (World.block_lt_of_cell? _ _ (hHeld.2.2.2.2.2.2))).trans (hHeld.2.2.2.2.2.2)
                                        refine ⟨_, rfl, ?_⟩
                                        have n0_ := Aside0.mk (Kd.R_below (by (with_reducible repeat (first | apply Kd.R_alloc | apply Kd.R_drewN | apply Kd.R_drew)); exact HO_4.out) hb)
                                        have n1_ := Aside0.mk (blk_below (g := gb225) (o := .cells #[.int .i64 a0_0, .int .i64 a0_1, .int .i64 a0_2, .int .i64 a0_3, .slice (some ad231) l0_4.length c0_4] 39 (0, 0)) (by (with_reducible repeat (first | refine blk_drewN ?_ _ | refine blk_drew ?_ | refine blk_alloc ?_ _)); exact BK225.out) hb)
                                        have n2_ := Aside0.mk (blk_below (g := gb232) (o := .cells #[.int .i64 ((rd_T116 l0_4 x25_2).f0), .int .i64 ((rd_T116 l0_4 x25_2).f1), .int .i64 ((rd_T116 l0_4 x25_2).f2)] 116 (0, 0)) (by (with_reducible repeat (first | refine blk_drewN ?_ _ | refine blk_drew ?_ | refine blk_alloc ?_ _)); exact BK232.out) hb)
                                        have n3_ := Aside0.mk (blk_below (g := gb240) (o := .cells #[.int .i64 0, .int .i64 0, .int .i64 0, .int .i64 0] 25 (0, 0)) (by (with_reducible repeat (first | refine blk_drewN ?_ _ | refine blk_drew ?_ | refine blk_alloc ?_ _)); exact BK240.out) hb)
                                        have n4_ := Aside0.mk (below_step (by repeat (first | (with_reducible first | exact HB.out | apply below_alloc | apply pw_below_drewN | apply below_drew1 | refine below_set ?_ GE225.out | refine below_set ?_ GE232.out | refine below_set ?_ GE240.out) | exact HB.out)) hb)
                                        clear HO_4
                                        clear BK225
                                        clear BK232
                                        clear BK240
                                        clear HB
                                        have HO_4 := n0_
                                        have BK225 := n1_
                                        have BK232 := n2_
                                        have BK240 := n3_
                                        have HB := n4_
                                        clear n0_ n1_ n2_ n3_ n4_
                                        (try clear hb)
                                        (try clear hb2)
                                        (try clear hk)
                                        (try clear hi)
                                        refine hK.out _ _ ⟨(blk_cell BK232.out 0).trans rfl, (blk_cell BK232.out 1).trans rfl, (blk_cell BK232.out 2).trans rfl, HS3_, HS4_, HS5_, HS6_⟩ (fun hHeld => ?_)
                                        clear hK K
                                        refine norm_ (a' := ?_) ?_ ?_
                                        rotate_left
                                        · show Act.put _ (some 63) _ = _
                                          simp only [Act.put, List.setIfInBounds_toArray, List.set_cons_zero, List.set_cons_succ, i64_w, i32_w]
                                          rfl
                                        exact norm_ (by simp only [putAll, Act.put, List.setIfInBounds_toArray, List.set_cons_zero, List.set_cons_succ]) (hCont (gb240) _ ⟨hHeld, (by (with_reducible repeat (first | apply Kd.R_alloc | apply Kd.R_drewN | apply Kd.R_drew)); exact Kd.R_mono HO_4.out (fun _ hk => hk.2)), (by (with_reducible repeat (first | refine blk_drewN ?_ _ | refine blk_drew ?_ | refine blk_alloc ?_ _)); exact BK225.out), (by (with_reducible repeat (first | refine blk_drewN ?_ _ | refine blk_drew ?_ | refine blk_alloc ?_ _)); exact BK232.out), (by (with_reducible repeat (first | refine blk_drewN ?_ _ | refine blk_drew ?_ | refine blk_alloc ?_ _)); exact BK240.out), GW240.out, GE240.out, NB225_240.out, NB240_225.out, NB232_240.out, NB240_232.out, (by repeat (first | (with_reducible first | exact HB.out | apply below_alloc | apply pw_below_drewN | apply below_drew1 | refine below_set ?_ GE225.out | refine below_set ?_ GE232.out | refine below_set ?_ GE240.out) | exact HB.out))⟩)
                                    rintro gb240 w68 ⟨hS_, h0_, h1_, h2_, h3_, h4_, h5_, h6_, h7_, h8_, h9_, h10_⟩
                                    have n0_ : Aside0 (Kd.R k25 25 w68 w.heap.size (fun k_ => k_ ≠ gb240) (.slice (some ad235) x4_4.length co65) x4_4) := ⟨h0_⟩
                                    have n1_ : Aside0 (w68.heap[gb225]? = some (.cells #[.int .i64 a0_0, .int .i64 a0_1, .int .i64 a0_2, .int .i64 a0_3, .slice (some ad231) l0_4.length c0_4] 39 (0, 0))) := ⟨h1_⟩
                                    have n2_ : Aside0 (w68.heap[gb232]? = some (.cells #[.int .i64 ((rd_T116 l0_4 x25_2).f0), .int .i64 ((rd_T116 l0_4 x25_2).f1), .int .i64 ((rd_T116 l0_4 x25_2).f2)] 116 (0, 0))) := ⟨h2_⟩
                                    have n3_ : Aside0 (w68.heap[gb240]? = some (.cells #[.int .i64 0, .int .i64 0, .int .i64 0, .int .i64 0] 25 (0, 0))) := ⟨h3_⟩
                                    have n4_ : Aside0 (w.heap.size ≤ gb240) := ⟨h4_⟩
                                    have n5_ : Aside0 (w.heap.size ≤ gb240) := ⟨h5_⟩
                                    have n6_ : Aside0 (gb225 ≠ gb240) := ⟨h6_⟩
                                    have n7_ : Aside0 (gb240 ≠ gb225) := ⟨h7_⟩
                                    have n8_ : Aside0 (gb232 ≠ gb240) := ⟨h8_⟩
                                    have n9_ : Aside0 (gb240 ≠ gb232) := ⟨h9_⟩
                                    have n10_ : Aside0 (Below w.heap.size w w68) := ⟨h10_⟩
                                    clear HO_4
                                    clear BK225
                                    clear BK232
                                    clear HB
                                    clear h0_ h1_ h2_ h3_ h4_ h5_ h6_ h7_ h8_ h9_ h10_
                                    have HO_4 := n0_
                                    have BK225 := n1_
                                    have BK232 := n2_
                                    have BK240 := n3_
                                    have GW240 := n4_
                                    have GE240 := n5_
                                    have NB225_240 := n6_
                                    have NB240_225 := n7_
                                    have NB232_240 := n8_
                                    have NB240_232 := n9_
                                    have HB := n10_
                                    clear n0_ n1_ n2_ n3_ n4_ n5_ n6_ n7_ n8_ n9_ n10_
                                    have hHeld : w68.cell? ⟨gb232, 0, none⟩ = some (.int .i64 ((rd_T116 l0_4 x25_2).f0)) ∧ w68.cell? ⟨gb232, 1, none⟩ = some (.int .i64 ((rd_T116 l0_4 x25_2).f1)) ∧ w68.cell? ⟨gb232, 2, none⟩ = some (.int .i64 ((rd_T116 l0_4 x25_2).f2)) ∧ w68.cell? (ad235.add (((ji42)).toNat * 4)) = some (.int .i64 ((rd_T25 x4_4 (ji42)).f0)) ∧ w68.cell? ⟨(ad235.add (((ji42)).toNat * 4)).block, (ad235.add (((ji42)).toNat * 4)).off + 1, none⟩ = some (.int .i64 ((rd_T25 x4_4 (ji42)).f1)) ∧ w68.cell? ⟨(ad235.add (((ji42)).toNat * 4)).block, (ad235.add (((ji42)).toNat * 4)).off + 2, none⟩ = some (.int .i64 ((rd_T25 x4_4 (ji42)).f2)) ∧ w68.cell? ⟨(ad235.add (((ji42)).toNat * 4)).block, (ad235.add (((ji42)).toNat * 4)).off + 3, none⟩ = some (.int .i64 ((rd_T25 x4_4 (ji42)).f3)) := hS_
                                    refine norm_ (a' := ?_) ?_ ?_
                                    rotate_left
                                    · simp only [putAll, Act.put, List.setIfInBounds_toArray, List.set_cons_zero, List.set_cons_succ]
                                      rfl
                                    refine one_ (i := 12) (N := none) #[true, true, true, true, true, true, true, true, true, true, true, true, true] rfl rfl (one_of HT_.out (by kernel_rfl)) (by decide) (fun K hK => ?_)
                                    have hs69 : w68.cell? ⟨gb240, 0, none⟩ = some (.int .i64 0) := (blk_cell BK240.out 0).trans rfl
                                    have hfs69 := blk_frozen BK240.out 0
                                    have hns69_0 := NB225_240.out
                                    have hns69_1 := NB232_240.out
                                    have hms69_0 := NB240_225.out
                                    have hms69_1 := NB240_232.out
                                    have hs70 : w68.cell? ⟨gb240, 1, none⟩ = some (.int .i64 0) := (blk_cell BK240.out 1).trans rfl
                                    have hfs70 := blk_frozen BK240.out 1
                                    have hns70_0 := NB225_240.out
                                    have hns70_1 := NB232_240.out
                                    have hms70_0 := NB240_225.out
                                    have hms70_1 := NB240_232.out
                                    have hs71 : w68.cell? ⟨gb240, 2, none⟩ = some (.int .i64 0) := (blk_cell BK240.out 2).trans rfl
                                    have hfs71 := blk_frozen BK240.out 2
                                    have hns71_0 := NB225_240.out
                                    have hns71_1 := NB232_240.out
                                    have hms71_0 := NB240_225.out
                                    have hms71_1 := NB240_232.out
                                    have hs72 : w68.cell? ⟨gb240, 3, none⟩ = some (.int .i64 0) := (blk_cell BK240.out 3).trans rfl
                                    have hfs72 := blk_frozen BK240.out 3
                                    have hns72_0 := NB225_240.out
                                    have hns72_1 := NB232_240.out
                                    have hms72_0 := NB240_225.out
                                    have hms72_1 := NB240_232.out
                                    refine skip_ (w1 := ?_) (by rfl) rfl ?_ ?_
                                    rotate_left
                                    · go_simp
                                      rfl
                                    refine hK.out _ _ ⟨((cell_far (p := ⟨gb240, _, none⟩) NB232_240.out _).trans (((cell_far (p := ⟨gb240, _, none⟩) NB232_240.out _).trans (((cell_far (p := ⟨gb240, _, none⟩) NB232_240.out _).trans (((cell_far (p := ⟨gb240, _, none⟩) NB232_240.out _).trans (hHeld.1)))))))), ((cell_far (p := ⟨gb240, _, none⟩) NB232_240.out _).trans (((cell_far (p := ⟨gb240, _, none⟩) NB232_240.out _).trans (((cell_far (p := ⟨gb240, _, none⟩) NB232_240.out _).trans (((cell_far (p := ⟨gb240, _, none⟩) NB232_240.out _).trans (hHeld.2.1)))))))), ((cell_far (p := ⟨gb240, _, none⟩) NB232_240.out _).trans (((cell_far (p := ⟨gb240, _, none⟩) NB232_240.out _).trans (((cell_far (p := ⟨gb240, _, none⟩) NB232_240.out _).trans (((cell_far (p := ⟨gb240, _, none⟩) NB232_240.out _).trans (hHeld.2.2.1)))))))), ((cell_far (p := ⟨gb240, _, none⟩) (by first | exact Kd.own_blk (Kd.R_away HO_4.out (fun _ hk => hk)) | (rw [add_block]; exact Kd.own_blk (Kd.R_away HO_4.out (fun _ hk => hk))) | (show (Addr.add _ _).block ≠ _; rw [add_block]; exact Kd.own_blk (Kd.R_away HO_4.out (fun _ hk => hk))) | (dsimp only; exact Kd.own_blk (Kd.R_away HO_4.out (fun _ hk => hk)))) _).trans (((cell_far (p := ⟨gb240, _, none⟩) (by first | exact Kd.own_blk (Kd.R_away HO_4.out (fun _ hk => hk)) | (rw [add_block]; exact Kd.own_blk (Kd.R_away HO_4.out (fun _ hk => hk))) | (show (Addr.add _ _).block ≠ _; rw [add_block]; exact Kd.own_blk (Kd.R_away HO_4.out (fun _ hk => hk))) | (dsimp only; exact Kd.own_blk (Kd.R_away HO_4.out (fun _ hk => hk)))) _).trans (((cell_far (p := ⟨gb240, _, none⟩) (by first | exact Kd.own_blk (Kd.R_away HO_4.out (fun _ hk => hk)) | (rw [add_block]; exact Kd.own_blk (Kd.R_away HO_4.out (fun _ hk => hk))) | (show (Addr.add _ _).block ≠ _; rw [add_block]; exact Kd.own_blk (Kd.R_away HO_4.out (fun _ hk => hk))) | (dsimp only; exact Kd.own_blk (Kd.R_away HO_4.out (fun _ hk => hk)))) _).trans (((cell_far (p := ⟨gb240, _, none⟩) (by first | exact Kd.own_blk (Kd.R_away HO_4.out (fun _ hk => hk)) | (rw [add_block]; exact Kd.own_blk (Kd.R_away HO_4.out (fun _ hk => hk))) | (show (Addr.add _ _).block ≠ _; rw [add_block]; exact Kd.own_blk (Kd.R_away HO_4.out (fun _ hk => hk))) | (dsimp only; exact Kd.own_blk (Kd.R_away HO_4.out (fun _ hk => hk)))) _).trans (hHeld.2.2.2.1)))))))), ((cell_far (p := ⟨gb240, _, none⟩) (by first | exact Kd.own_blk (Kd.R_away HO_4.out (fun _ hk => hk)) | (rw [add_block]; exact Kd.own_blk (Kd.R_away HO_4.out (fun _ hk => hk))) | (show (Addr.add _ _).block ≠ _; rw [add_block]; exact Kd.own_blk (Kd.R_away HO_4.out (fun _ hk => hk))) | (dsimp only; exact Kd.own_blk (Kd.R_away HO_4.out (fun _ hk => hk)))) _).trans (((cell_far (p := ⟨gb240, _, none⟩) (by first | exact Kd.own_blk (Kd.R_away HO_4.out (fun _ hk => hk)) | (rw [add_block]; exact Kd.own_blk (Kd.R_away HO_4.out (fun _ hk => hk))) | (show (Addr.add _ _).block ≠ _; rw [add_block]; exact Kd.own_blk (Kd.R_away HO_4.out (fun _ hk => hk))) | (dsimp only; exact Kd.own_blk (Kd.R_away HO_4.out (fun _ hk => hk)))) _).trans (((cell_far (p := ⟨gb240, _, none⟩) (by first | exact Kd.own_blk (Kd.R_away HO_4.out (fun _ hk => hk)) | (rw [add_block]; exact Kd.own_blk (Kd.R_away HO_4.out (fun _ hk => hk))) | (show (Addr.add _ _).block ≠ _; rw [add_block]; exact Kd.own_blk (Kd.R_away HO_4.out (fun _ hk => hk))) | (dsimp only; exact Kd.own_blk (Kd.R_away HO_4.out (fun _ hk => hk)))) _).trans (((cell_far (p := ⟨gb240, _, none⟩) (by first | exact Kd.own_blk (Kd.R_away HO_4.out (fun _ hk => hk)) | (rw [add_block]; exact Kd.own_blk (Kd.R_away HO_4.out (fun _ hk => hk))) | (show (Addr.add _ _).block ≠ _; rw [add_block]; exact Kd.own_blk (Kd.R_away HO_4.out (fun _ hk => hk))) | (dsimp only; exact Kd.own_blk (Kd.R_away HO_4.out (fun _ hk => hk)))) _).trans (hHeld.2.2.2.2.1)))))))), ((cell_far (p := ⟨gb240, _, none⟩) (by first | exact Kd.own_blk (Kd.R_away HO_4.out (fun _ hk => hk)) | (rw [add_block]; exact Kd.own_blk (Kd.R_away HO_4.out (fun _ hk => hk))) | (show (Addr.add _ _).block ≠ _; rw [add_block]; exact Kd.own_blk (Kd.R_away HO_4.out (fun _ hk => hk))) | (dsimp only; exact Kd.own_blk (Kd.R_away HO_4.out (fun _ hk => hk)))) _).trans (((cell_far (p := ⟨gb240, _, none⟩) (by first | exact Kd.own_blk (Kd.R_away HO_4.out (fun _ hk => hk)) | (rw [add_block]; exact Kd.own_blk (Kd.R_away HO_4.out (fun _ hk => hk))) | (show (Addr.add _ _).block ≠ _; rw [add_block]; exact Kd.own_blk (Kd.R_away HO_4.out (fun _ hk => hk))) | (dsimp only; exact Kd.own_blk (Kd.R_away HO_4.out (fun _ hk => hk)))) _).trans (((cell_far (p := ⟨gb240, _, none⟩) (by first | exact Kd.own_blk (Kd.R_away HO_4.out (fun _ hk => hk)) | (rw [add_block]; exact Kd.own_blk (Kd.R_away HO_4.out (fun _ hk => hk))) | (show (Addr.add _ _).block ≠ _; rw [add_block]; exact Kd.own_blk (Kd.R_away HO_4.out (fun _ hk => hk))) | (dsimp only; exact Kd.own_blk (Kd.R_away HO_4.out (fun _ hk => hk)))) _).trans (((cell_far (p := ⟨gb240, _, none⟩) (by first | exact Kd.own_blk (Kd.R_away HO_4.out (fun _ hk => hk)) | (rw [add_block]; exact Kd.own_blk (Kd.R_away HO_4.out (fun _ hk => hk))) | (show (Addr.add _ _).block ≠ _; rw [add_block]; exact Kd.own_blk (Kd.R_away HO_4.out (fun _ hk => hk))) | (dsimp only; exact Kd.own_blk (Kd.R_away HO_4.out (fun _ hk => hk)))) _).trans (hHeld.2.2.2.2.2.1)))))))), ((cell_far (p := ⟨gb240, _, none⟩) (by first | exact Kd.own_blk (Kd.R_away HO_4.out (fun _ hk => hk)) | (rw [add_block]; exact Kd.own_blk (Kd.R_away HO_4.out (fun _ hk => hk))) | (show (Addr.add _ _).block ≠ _; rw [add_block]; exact Kd.own_blk (Kd.R_away HO_4.out (fun _ hk => hk))) | (dsimp only; exact Kd.own_blk (Kd.R_away HO_4.out (fun _ hk => hk)))) _).trans (((cell_far (p := ⟨gb240, _, none⟩) (by first | exact Kd.own_blk (Kd.R_away HO_4.out (fun _ hk => hk)) | (rw [add_block]; exact Kd.own_blk (Kd.R_away HO_4.out (fun _ hk => hk))) | (show (Addr.add _ _).block ≠ _; rw [add_block]; exact Kd.own_blk (Kd.R_away HO_4.out (fun _ hk => hk))) | (dsimp only; exact Kd.own_blk (Kd.R_away HO_4.out (fun _ hk => hk)))) _).trans (((cell_far (p := ⟨gb240, _, none⟩) (by first | exact Kd.own_blk (Kd.R_away HO_4.out (fun _ hk => hk)) | (rw [add_block]; exact Kd.own_blk (Kd.R_away HO_4.out (fun _ hk => hk))) | (show (Addr.add _ _).block ≠ _; rw [add_block]; exact Kd.own_blk (Kd.R_away HO_4.out (fun _ hk => hk))) | (dsimp only; exact Kd.own_blk (Kd.R_away HO_4.out (fun _ hk => hk)))) _).trans (((cell_far (p := ⟨gb240, _, none⟩) (by first | exact Kd.own_blk (Kd.R_away HO_4.out (fun _ hk => hk)) | (rw [add_block]; exact Kd.own_blk (Kd.R_away HO_4.out (fun _ hk => hk))) | (show (Addr.add _ _).block ≠ _; rw [add_block]; exact Kd.own_blk (Kd.R_away HO_4.out (fun _ hk => hk))) | (dsimp only; exact Kd.own_blk (Kd.R_away HO_4.out (fun _ hk => hk)))) _).trans (hHeld.2.2.2.2.2.2))))))))⟩ (fun hHeld => ?_)
                                    clear hK K
                                    refine done_ (done_of HT_.out (by kernel_rfl)) ?_
                                    have hnb73 := NB240_225.out
                                    have hnc73 := NB225_240.out
                                    have hnb74 := NB240_232.out
                                    have hnc74 := NB232_240.out
                                    have hcz75_0 : w68.cell? ⟨gb240, 0, none⟩ = some (.int .i64 0) := (blk_cell BK240.out 0).trans rfl
                                    have hcz75_1 : w68.cell? ⟨gb240, 1, none⟩ = some (.int .i64 0) := (blk_cell BK240.out 1).trans rfl
                                    have hcz75_2 : w68.cell? ⟨gb240, 2, none⟩ = some (.int .i64 0) := (blk_cell BK240.out 2).trans rfl
                                    have hcz75_3 : w68.cell? ⟨gb240, 3, none⟩ = some (.int .i64 0) := (blk_cell BK240.out 3).trans rfl
                                    have hfz75_0 := blk_frozen BK240.out 0
                                    have hfz75_1 := blk_frozen BK240.out 1
                                    have hfz75_2 := blk_frozen BK240.out 2
                                    have hfz75_3 := blk_frozen BK240.out 3
                                    try go_wp2_with (first | ((with_reducible refine gate_callee (f := 22) rfl ?_); refine goesL_ (some 65) rfl rfl Try.func22 (by kernel_rfl) rfl #[.agg #[.int .i64 t236, .int .i64 t237, .int .i64 t238, .int .i64 t239]] rfl (by (try simp only [List.map_toArray, List.map_cons, List.map_nil]); first | done | rfl | (simp only [List.length_drop, List.length_take]; rfl)) ?_; (with_reducible refine (impl_ValidPose.calls t236 t237 t238 t239 false _ A46.out).mono ?_); rintro e w76 ⟨rfl, hb⟩; refine ⟨_, rfl, ?_⟩; have n0_ := Aside0.mk (Kd.R_below (by (with_reducible repeat (first | apply Kd.R_alloc | apply Kd.R_drewN | apply Kd.R_drew)); exact (Kd.R_mono (Kd.R_far (p := ⟨gb240, 3, none⟩) (Kd.R_far (p := ⟨gb240, 2, none⟩) (Kd.R_far (p := ⟨gb240, 1, none⟩) (Kd.R_far (p := ⟨gb240, 0, none⟩) (Kd.R_mono HO_4.out (fun k_ hk => (⟨hk, hk⟩ : _ ∧ k_ ≠ gb240))) (fun _ hk => hk.2) (.int .i64 t236)) (fun _ hk => hk.2) (.int .i64 t237)) (fun _ hk => hk.2) (.int .i64 t238)) (fun _ hk => hk.2) (.int .i64 t239)) (fun _ h_ => h_.1))) hb); have n1_ := Aside0.mk (blk_below (g := gb225) (o := .cells #[.int .i64 a0_0, .int .i64 a0_1, .int .i64 a0_2, .int .i64 a0_3, .slice (some ad231) l0_4.length c0_4] 39 (0, 0)) (by (with_reducible repeat (first | refine blk_drewN ?_ _ | refine blk_drew ?_ | refine blk_alloc ?_ _)); refine blk_far ?_ NB225_240.out _; (with_reducible repeat (first | refine blk_drewN ?_ _ | refine blk_drew ?_ | refine blk_alloc ?_ _)); refine blk_far ?_ NB225_240.out _; (with_reducible repeat (first | refine blk_drewN ?_ _ | refine blk_drew ?_ | refine blk_alloc ?_ _)); refine blk_far ?_ NB225_240.out _; (with_reducible repeat (first | refine blk_drewN ?_ _ | refine blk_drew ?_ | refine blk_alloc ?_ _)); refine blk_far ?_ NB225_240.out _; (with_reducible repeat (first | refine blk_drewN ?_ _ | refine blk_drew ?_ | refine blk_alloc ?_ _)); exact BK225.out) hb); have n2_ := Aside0.mk (blk_below (g := gb232) (o := .cells #[.int .i64 ((rd_T116 l0_4 x25_2).f0), .int .i64 ((rd_T116 l0_4 x25_2).f1), .int .i64 ((rd_T116 l0_4 x25_2).f2)] 116 (0, 0)) (by (with_reducible repeat (first | refine blk_drewN ?_ _ | refine blk_drew ?_ | refine blk_alloc ?_ _)); refine blk_far ?_ NB232_240.out _; (with_reducible repeat (first | refine blk_drewN ?_ _ | refine blk_drew ?_ | refine blk_alloc ?_ _)); refine blk_far ?_ NB232_240.out _; (with_reducible repeat (first | refine blk_drewN ?_ _ | refine blk_drew ?_ | refine blk_alloc ?_ _)); refine blk_far ?_ NB232_240.out _; (with_reducible repeat (first | refine blk_drewN ?_ _ | refine blk_drew ?_ | refine blk_alloc ?_ _)); refine blk_far ?_ NB232_240.out _; (with_reducible repeat (first | refine blk_drewN ?_ _ | refine blk_drew ?_ | refine blk_alloc ?_ _)); exact BK232.out) hb); have n3_ := Aside0.mk (blk_below (g := gb240) (o := .cells #[.int .i64 t236, .int .i64 t237, .int .i64 t238, .int .i64 t239] 25 (0, 0)) (by (with_reducible repeat (first | refine blk_drewN ?_ _ | refine blk_drew ?_ | refine blk_alloc ?_ _)); refine blk_put (cs := #[.int .i64 t236, .int .i64 t237, .int .i64 t238, .int .i64 0]) ?_ 3 _ rfl; (with_reducible repeat (first | refine blk_drewN ?_ _ | refine blk_drew ?_ | refine blk_alloc ?_ _)); refine blk_put (cs := #[.int .i64 t236, .int .i64 t237, .int .i64 0, .int .i64 0]) ?_ 2 _ rfl; (with_reducible repeat (first | refine blk_drewN ?_ _ | refine blk_drew ?_ | refine blk_alloc ?_ _)); refine blk_put (cs := #[.int .i64 t236, .int .i64 0, .int .i64 0, .int .i64 0]) ?_ 1 _ rfl; (with_reducible repeat (first | refine blk_drewN ?_ _ | refine blk_drew ?_ | refine blk_alloc ?_ _)); refine blk_put (cs := #[.int .i64 0, .int .i64 0, .int .i64 0, .int .i64 0]) ?_ 0 _ rfl; (with_reducible repeat (first | refine blk_drewN ?_ _ | refine blk_drew ?_ | refine blk_alloc ?_ _)); exact BK240.out) hb); have n4_ := Aside0.mk (below_step (by repeat (first | (with_reducible first | exact HB.out | apply below_alloc | apply pw_below_drewN | apply below_drew1 | refine below_set ?_ GE225.out | refine below_set ?_ GE232.out | refine below_set ?_ GE240.out) | exact HB.out)) hb); clear HO_4; clear BK225; clear BK232; clear BK240; clear HB; have HO_4 := n0_; have BK225 := n1_; have BK232 := n2_; have BK240 := n3_; have HB := n4_; clear n0_ n1_ n2_ n3_ n4_; (try clear hb); (try clear hb2); (try clear hk); (try clear hi)))
                                    go_ret2
                                    exact ⟨_, by first | rfl | (simp [errW_none, errW_some] <;> rfl) | (simp only [← hji42]; first | rfl | (simp [errW_none, errW_some] <;> rfl)) | (simp [*, errW_none, errW_some] <;> rfl), by first | exact Kd.R_nil _ _ _ _ _ | exact Kd.N_nil _ _ _ _ _ | exact Kd.V_nil _ _ _ _ _ | exact Kd.Q_nil _ _ _ _ _ | exact Kd.S_nil _ _ _ _ _, by repeat (first | (with_reducible first | exact HB.out | apply below_alloc | apply pw_below_drewN | apply below_drew1 | refine below_set ?_ GE225.out | refine below_set ?_ GE232.out | refine below_set ?_ GE240.out) | exact HB.out)⟩
                                · rw [if_neg c44] at H
                                  exact absurd H (by simp)
                              · rw [if_neg c43] at H
                                exact absurd H (by simp)
                            · rw [if_neg c41] at H
                              have c41b0 : decide (x51_4 < ((rd_T116 l0_4 x25_2).f0)) = false := decide_eq_false c41
                              clear c41
                              have H' := Aside0.mk H
                              clear H
                              go_wp2
                              go_roundg k4
                              case measure => have := HJ1.out; have := HK2.out; have := HJ19.out; have := HK4.out; omega
                              case rel => exact ⟨(x4_4), (wrap64 (x25_2 + 1)), (by first | rfl | (simp; done) | (simp [*]; done)), H', ⟨by have := HJ1.out; have := HK2.out; have := HJ19.out; have := HK4.out; omega⟩, ⟨by (with_reducible repeat (first | apply Kd.R_alloc | apply Kd.R_drewN | apply Kd.R_drew)); exact HO_4.out⟩, ⟨by (with_reducible repeat (first | refine blk_drewN ?_ _ | refine blk_drew ?_ | refine blk_alloc ?_ _)); exact BK225.out⟩, ⟨by repeat (first | (with_reducible first | exact HB.out | apply below_alloc | apply pw_below_drewN | apply below_drew1 | refine below_set ?_ GE225.out | refine below_set ?_ GE232.out) | exact HB.out)⟩⟩
                · rw [if_neg c19] at H
                  exact absurd H (by simp)
              · rw [if_neg c18] at H
                exact absurd H (by simp)
            · rw [if_neg c17] at H
              have c17b0 : decide (x25_2 < (l0_4.length : Int)) = false := decide_eq_false c17
              clear c17
              simp only [Option.some.injEq, Prod.mk.injEq] at H
              obtain ⟨rfl, rfl⟩ := H
              go_wp2
              go_ret2
              exact ⟨_, by first | rfl | (simp [errW_none, errW_some] <;> rfl) | (simp [*, errW_none, errW_some] <;> rfl), by (with_reducible repeat (first | apply Kd.R_alloc | apply Kd.R_drewN | apply Kd.R_drew)); exact HO_4.out, by repeat (first | (with_reducible first | exact HB.out | apply below_alloc | apply pw_below_drewN | apply below_drew1 | refine below_set ?_ GE225.out) | exact HB.out)⟩

end Go.Proofs.Ythlbcjoogcanmaa.Q
