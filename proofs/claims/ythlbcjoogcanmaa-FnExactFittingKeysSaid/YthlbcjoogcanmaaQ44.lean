-- Written by a program of this claim's session (gprint.py over the kit's print); not typed by hand; Lean checks it.
import Derived.Test.YthlbcjoogcanmaaQ0
import Derived.Test.YthlbcjoogcanmaaQ6
import Derived.Test.YthlbcjoogcanmaaQ8
import Derived.Test.YthlbcjoogcanmaaQ14
import Derived.Test.YthlbcjoogcanmaaQ18
import Derived.Test.YthlbcjoogcanmaaQ27
namespace Go.Proofs.Ythlbcjoogcanmaa.Q
open Go.RowKit Go.Proofs.YthlbcjoogcanmaaW.PrintWords Go.Proofs.YthlbcjoogcanmaaW.PrintLast Go.Proofs.YthlbcjoogcanmaaW.PrintMore
attribute [local go_sem] max2_int min2_int max_two min_two max_three min_three max_four min_four   -- for this text's walks alone
set_option linter.unusedVariables false
set_option linter.unusedSimpArgs false

/-! ### spec_l04Fitting: function 100 -/
def spec_l04Fitting.l0 : Nat → List Int → Int → Int → Int → Int → Int → Int → Int → Int → Int → Int → Option (List Int)
  | 0, _, _, _, _, _, _, _, _, _, _, _ => none
  | k + 1, x3, x4, x1000, x1001, x1002, x1003, x1004, x1005, x1006, x1007, x1008 => if x4 < 16 then ((spec_l04Build.f k x1000 x1001 x1002 x1003 x1004 x1005 x1006 x1007 x1008 1 x4).bind fun bt1167 => (if bt1167.2.2.2.2.2.2.2.2.2 = true then (if x3.length < 17592186044416 then (spec_l04Fitting.l0 k (x3 ++ [x4]) (wrap64 (x4 + 1)) x1000 x1001 x1002 x1003 x1004 x1005 x1006 x1007 x1008) else (none)) else (spec_l04Fitting.l0 k x3 (wrap64 (x4 + 1)) x1000 x1001 x1002 x1003 x1004 x1005 x1006 x1007 x1008))) else (some x3)
def spec_l04Fitting.f (k : Nat) (a0_0 : Int) (a0_1 : Int) (a0_2 : Int) (a0_3 : Int) (a0_4 : Int) (a0_5 : Int) (a0_6 : Int) (a0_7 : Int) (a0_8 : Int) : Option (List Int) := spec_l04Fitting.l0 k (([] : List Int)) 0 a0_0 a0_1 a0_2 a0_3 a0_4 a0_5 a0_6 a0_7 a0_8
theorem spec_l04Fitting.mono_l : ∀ k, (∀ y0 y1 y2 y3 y4 y5 y6 y7 y8 y9 y10, LeO (spec_l04Fitting.l0 k y0 y1 y2 y3 y4 y5 y6 y7 y8 y9 y10) (spec_l04Fitting.l0 (k + 1) y0 y1 y2 y3 y4 y5 y6 y7 y8 y9 y10))
  | 0 => fun _ _ _ _ _ _ _ _ _ _ _ r h => by simp [spec_l04Fitting.l0] at h
  | k + 1 => by
    have ih0 := spec_l04Fitting.mono_l k
    · intro y0 y1 y2 y3 y4 y5 y6 y7 y8 y9 y10
      unfold spec_l04Fitting.l0
      repeat' first
      | (with_reducible exact ih0 _ _ _ _ _ _ _ _ _ _ _)
      | (with_reducible exact spec_l04Build.mono _ _ _ _ _ _ _ _ _ _ _ _)
      | (with_reducible exact LeO.refl _)
      | (with_reducible exact LeO.none _)
      | (with_reducible refine LeO.ite ?_ ?_)
      | (with_reducible refine LeO.bind ?_ (fun _ => ?_))
      | exact ih0 _ _ _ _ _ _ _ _ _ _ _
      | exact spec_l04Build.mono _ _ _ _ _ _ _ _ _ _ _ _
      | exact LeO.none _
      | refine LeO.ite ?_ ?_
      | refine LeO.bind ?_ (fun _ => ?_)
theorem spec_l04Fitting.mono : ∀ a0 a1 a2 a3 a4 a5 a6 a7 a8 k, LeO (spec_l04Fitting.f k a0 a1 a2 a3 a4 a5 a6 a7 a8) (spec_l04Fitting.f (k + 1) a0 a1 a2 a3 a4 a5 a6 a7 a8) := by
  intro a0 a1 a2 a3 a4 a5 a6 a7 a8 k
  have ih0 := spec_l04Fitting.mono_l k
  unfold spec_l04Fitting.f
  repeat' first
      | (with_reducible exact ih0 _ _ _ _ _ _ _ _ _ _ _)
      | (with_reducible exact spec_l04Build.mono _ _ _ _ _ _ _ _ _ _ _ _)
      | (with_reducible exact LeO.refl _)
      | (with_reducible exact LeO.none _)
      | (with_reducible refine LeO.ite ?_ ?_)
      | (with_reducible refine LeO.bind ?_ (fun _ => ?_))
      | exact ih0 _ _ _ _ _ _ _ _ _ _ _
      | exact spec_l04Build.mono _ _ _ _ _ _ _ _ _ _ _ _
      | exact LeO.none _
      | refine LeO.ite ?_ ?_
      | refine LeO.bind ?_ (fun _ => ?_)
set_option maxHeartbeats 8000000 in
set_option maxRecDepth 100000 in
theorem spec_l04Fitting.calls (k : Nat) (gB0 : Nat) (a0_0 : Int) (a0_1 : Int) (a0_2 : Int) (a0_3 : Int) (a0_4 : Int) (a0_5 : Int) (a0_6 : Int) (a0_7 : Int) (a0_8 : Int) (r : List Int) (w : World) (hb0 : w.heap[gB0]? = some (.cells #[.int .i64 a0_0, .int .i64 a0_1, .int .i64 a0_2, .int .i64 a0_3, .int .i64 a0_4, .int .i64 a0_5, .int .i64 a0_6, .int .i64 a0_7, .int .i64 a0_8] 58 (0, 0))) (h : spec_l04Fitting.f k a0_0 a0_1 a0_2 a0_3 a0_4 a0_5 a0_6 a0_7 a0_8 = some r) :
    Calls Try.prog 100 #[.pointer (some ⟨gB0, 0, none⟩)] w fun e w' => ∃ v0_ : Value, e = .returned (v0_) ∧ Kd.R (Kd.int .i64) 2 w' w.heap.size (fun _ => True) v0_ r ∧ Below w.heap.size w w' := by
  have hu75 := Try.underlying75
  have hu58 := Try.underlying58
  have BK0 := Aside0.mk hb0
  clear hb0
  have HB := Aside0.mk (Below.refl w.heap.size w)
  have H : (spec_l04Fitting.l0 k (([] : List Int)) 0 a0_0 a0_1 a0_2 a0_3 a0_4 a0_5 a0_6 a0_7 a0_8) = some r := h
  clear h
  obtain ⟨y1164, hy1164⟩ : ∃ y_ : List Int, y_ = (([] : List Int)) := ⟨_, rfl⟩
  replace H : (spec_l04Fitting.l0 k y1164 0 a0_0 a0_1 a0_2 a0_3 a0_4 a0_5 a0_6 a0_7 a0_8) = some r := by first | (rw [hy1164]; with_reducible exact H) | (have H2_ := (Option.bind_some _ _).symm.trans H; rw [hy1164]; with_reducible exact H2_) | (have H2_ := (Option.bind_some _ _).symm.trans H; with_reducible exact H2_) | with_reducible exact H | (rw [hy1164]; exact H) | exact H
  have Ny1164 := Aside0.mk hy1164
  clear hy1164
  have H' := Aside0.mk H
  clear H
  go_enter Try.func100, Try.ntmps100
  go_wp2_with (first | ((with_reducible refine gate_dst (N := 7) rfl ?_); refine Kd.R_lit (Kd.int .i64) _ 2 ?hg (N := 7) ?hd (xs := ([] : List Int)) (inner := []) (ok := fun _ => True) (okp := fun _ => True) ?hr ?hp (fun _ hk => hk) trivial (Below.refl _ _) (Nat.le_refl _) (by simp) ?_; (case hd => rfl); (case hg => rfl); (case hr => first | (go_simp; done) | (go_simp; rfl)); (case hp => exact (Reps.none _ _)); intro v1165 w2 ho3 hb hg_ hnew_; clear hg_ hnew_; (first | rw [← Ny1164.out] at ho3 | (simp only [Int.reduceToNat] at ho3; rw [← Ny1164.out] at ho3)); have n0_ := Aside0.mk (Kd.R_lower ho3 (below_size (by repeat (first | (with_reducible first | exact HB.out | apply below_alloc | apply pw_below_drewN | apply below_drew1 | refine below_set ?_ GE0.out) | exact HB.out)))); have n1_ := Aside0.mk (blk_below (g := gB0) (o := .cells #[.int .i64 a0_0, .int .i64 a0_1, .int .i64 a0_2, .int .i64 a0_3, .int .i64 a0_4, .int .i64 a0_5, .int .i64 a0_6, .int .i64 a0_7, .int .i64 a0_8] 58 (0, 0)) (by (with_reducible repeat (first | refine blk_drewN ?_ _ | refine blk_drew ?_ | refine blk_alloc ?_ _)); exact BK0.out) hb); have n2_ := Aside0.mk (below_step (by repeat (first | (with_reducible first | exact HB.out | apply below_alloc | apply pw_below_drewN | apply below_drew1 | refine below_set ?_ GE0.out) | exact HB.out)) hb); clear BK0; clear HB; have HO1166 := n0_; have BK0 := n1_; have HB := n2_; clear n0_ n1_ n2_; clear hb ho3))
  go_loopg [3, 4] k (fun kq v3 v4 w' => ∃ (x3_1 : List Int) (x4_1 : Int) (x1000_1 : Int) (x1001_1 : Int) (x1002_1 : Int) (x1003_1 : Int) (x1004_1 : Int) (x1005_1 : Int) (x1006_1 : Int) (x1007_1 : Int) (x1008_1 : Int), v4 = .int .i64 x4_1 ∧ Aside0 (spec_l04Fitting.l0 kq x3_1 x4_1 x1000_1 x1001_1 x1002_1 x1003_1 x1004_1 x1005_1 x1006_1 x1007_1 x1008_1 = some r) ∧ Aside0 (kq ≤ k) ∧ Aside0 (Kd.R (Kd.int .i64) 2 w' w.heap.size (fun _ => True) v3 x3_1) ∧ Aside0 (w'.heap[gB0]? = some (.cells #[.int .i64 x1000_1, .int .i64 x1001_1, .int .i64 x1002_1, .int .i64 x1003_1, .int .i64 x1004_1, .int .i64 x1005_1, .int .i64 x1006_1, .int .i64 x1007_1, .int .i64 x1008_1] 58 (0, 0))) ∧ Aside0 (Below w.heap.size w w'))
  case atStart => exact ⟨(y1164), (0), (a0_0), (a0_1), (a0_2), (a0_3), (a0_4), (a0_5), (a0_6), (a0_7), (a0_8), (by first | rfl | (simp; done) | (simp [*]; done)), H', ⟨Nat.le_refl _⟩, ⟨by (with_reducible repeat (first | apply Kd.R_alloc | apply Kd.R_drewN | apply Kd.R_drew)); exact HO1166.out⟩, ⟨by (with_reducible repeat (first | refine blk_drewN ?_ _ | refine blk_drew ?_ | refine blk_alloc ?_ _)); exact BK0.out⟩, ⟨by repeat (first | (with_reducible first | exact HB.out | apply below_alloc | apply pw_below_drewN | apply below_drew1 | refine below_set ?_ GE0.out) | exact HB.out)⟩⟩
  case round =>
    clear H'
    try clear c1
    try clear p2
    obtain ⟨x3_1, x4_1, x1000_1, x1001_1, x1002_1, x1003_1, x1004_1, x1005_1, x1006_1, x1007_1, x1008_1, rfl, HA, HK1, HO_3, BK0, HB⟩ := hrel
    cases gk with
    | zero => exact absurd HA.out (by simp [spec_l04Fitting.l0])
    | succ k1 =>
      have H := HA.out
      clear HA
      simp only [spec_l04Fitting.l0] at H
      by_cases c4 : x4_1 < 16
      · rw [if_pos c4] at H
        have c4b0 : decide (x4_1 < 16) = true := decide_eq_true c4
        clear c4
        replace H := Option.bind_eq_some_iff.mp H
        obtain ⟨⟨t1167, t1168, t1169, t1170, t1171, t1172, t1173, t1174, t1175, t1176⟩, A50, H⟩ := H
        replace H : (if t1176 = true then (if x3_1.length < 17592186044416 then (spec_l04Fitting.l0 k1 (x3_1 ++ [x4_1]) (wrap64 (x4_1 + 1)) x1000_1 x1001_1 x1002_1 x1003_1 x1004_1 x1005_1 x1006_1 x1007_1 x1008_1) else (none)) else (spec_l04Fitting.l0 k1 x3_1 (wrap64 (x4_1 + 1)) x1000_1 x1001_1 x1002_1 x1003_1 x1004_1 x1005_1 x1006_1 x1007_1 x1008_1)) = some r := H
        have A5 := Aside0.mk A50
        clear A50
        by_cases c6 : t1176 = true
        · subst c6
          have H1 : (if x3_1.length < 17592186044416 then (spec_l04Fitting.l0 k1 (x3_1 ++ [x4_1]) (wrap64 (x4_1 + 1)) x1000_1 x1001_1 x1002_1 x1003_1 x1004_1 x1005_1 x1006_1 x1007_1 x1008_1) else (none)) = some r := by rw [if_pos rfl] at H; exact H
          clear H
          have H := H1
          clear H1
          by_cases c7 : x3_1.length < 17592186044416
          · rw [if_pos c7] at H
            have LMc7 := Aside0.mk c7
            clear c7
            obtain ⟨y1178, hy1178⟩ : ∃ y_ : List Int, y_ = (x3_1 ++ [x4_1]) := ⟨_, rfl⟩
            replace H : (spec_l04Fitting.l0 k1 y1178 (wrap64 (x4_1 + 1)) x1000_1 x1001_1 x1002_1 x1003_1 x1004_1 x1005_1 x1006_1 x1007_1 x1008_1) = some r := by first | (rw [hy1178]; with_reducible exact H) | (have H2_ := (Option.bind_some _ _).symm.trans H; rw [hy1178]; with_reducible exact H2_) | (have H2_ := (Option.bind_some _ _).symm.trans H; with_reducible exact H2_) | with_reducible exact H | (rw [hy1178]; exact H) | exact H
            have Ny1178 := Aside0.mk hy1178
            clear hy1178
            have H' := Aside0.mk H
            clear H
            go_wp2_with (first | ((with_reducible refine gate_callee (f := 93) rfl ?_); refine goesL_ (some 16) rfl rfl Try.func93 (by kernel_rfl) rfl #[.pointer (some ⟨gB0, 0, none⟩), .agg #[.int .i64 1, .int .i64 x4_1]] rfl (by (try simp only [List.map_toArray, List.map_cons, List.map_nil]); first | done | rfl | (simp only [List.length_drop, List.length_take]; rfl)) ?_; (with_reducible refine (spec_l04Build.calls k1 gB0 x1000_1 x1001_1 x1002_1 x1003_1 x1004_1 x1005_1 x1006_1 x1007_1 x1008_1 1 x4_1 t1167 t1168 t1169 t1170 t1171 t1172 t1173 t1174 t1175 true _ ?side1 A5.out).mono ?_); (case side1 => (with_reducible repeat (first | refine blk_drewN ?_ _ | refine blk_drew ?_ | refine blk_alloc ?_ _)); exact BK0.out); rintro e w8 ⟨rfl, hb⟩; refine ⟨_, rfl, ?_⟩; have n0_ := Aside0.mk (Kd.R_below (by (with_reducible repeat (first | apply Kd.R_alloc | apply Kd.R_drewN | apply Kd.R_drew)); exact HO_3.out) hb); have n1_ := Aside0.mk (blk_below (g := gB0) (o := .cells #[.int .i64 x1000_1, .int .i64 x1001_1, .int .i64 x1002_1, .int .i64 x1003_1, .int .i64 x1004_1, .int .i64 x1005_1, .int .i64 x1006_1, .int .i64 x1007_1, .int .i64 x1008_1] 58 (0, 0)) (by (with_reducible repeat (first | refine blk_drewN ?_ _ | refine blk_drew ?_ | refine blk_alloc ?_ _)); exact BK0.out) hb); have n2_ := Aside0.mk (below_step (by repeat (first | (with_reducible first | exact HB.out | apply below_alloc | apply pw_below_drewN | apply below_drew1 | refine below_set ?_ GE0.out) | exact HB.out)) hb); clear HO_3; clear BK0; clear HB; have HO_3 := n0_; have BK0 := n1_; have HB := n2_; clear n0_ n1_ n2_; (try clear hb); (try clear hb2); (try clear hk); (try clear hi)) | ((with_reducible refine gate_dst (N := 5) rfl ?_); refine box_event ?hg (N := 5) ?hd (cs := #[.int .i64 0, .int .i64 0, .int .i64 0, .int .i64 0, .int .i64 0, .int .i64 0, .int .i64 0, .int .i64 0, .int .i64 0]) (t := 58) ?hr ?_; (case hd => rfl); (case hg => rfl); (case hr => first | (go_simp; done) | (go_simp; rfl)); intro gb1177 hg w9 hbox hb; have n0_ := Aside0.mk (Kd.R_below (by (with_reducible repeat (first | apply Kd.R_alloc | apply Kd.R_drewN | apply Kd.R_drew)); exact HO_3.out) hb); have n1_ := Aside0.mk (blk_below (g := gB0) (o := .cells #[.int .i64 x1000_1, .int .i64 x1001_1, .int .i64 x1002_1, .int .i64 x1003_1, .int .i64 x1004_1, .int .i64 x1005_1, .int .i64 x1006_1, .int .i64 x1007_1, .int .i64 x1008_1] 58 (0, 0)) (by (with_reducible repeat (first | refine blk_drewN ?_ _ | refine blk_drew ?_ | refine blk_alloc ?_ _)); exact BK0.out) hb); have n2_ := Aside0.mk (below_step (by repeat (first | (with_reducible first | exact HB.out | apply below_alloc | apply pw_below_drewN | apply below_drew1 | refine below_set ?_ GE0.out) | exact HB.out)) hb); have n3_ := Aside0.mk (hbox); have n4_ := Aside0.mk ((by rw [hg]; exact (below_size (by repeat (first | (with_reducible first | exact HB.out | apply below_alloc | apply pw_below_drewN | apply below_drew1 | refine below_set ?_ GE0.out) | exact HB.out))) : w.heap.size ≤ gb1177)); have n5_ := Aside0.mk ((by rw [hg]; exact (below_size (by repeat (first | (with_reducible first | exact HB.out | apply below_alloc | apply pw_below_drewN | apply below_drew1 | refine below_set ?_ GE0.out) | exact HB.out))) : w.heap.size ≤ gb1177)); have n6_ := Aside0.mk ((by rw [hg]; exact Nat.ne_of_lt (blk_lt (g := gB0) (o := .cells #[.int .i64 x1000_1, .int .i64 x1001_1, .int .i64 x1002_1, .int .i64 x1003_1, .int .i64 x1004_1, .int .i64 x1005_1, .int .i64 x1006_1, .int .i64 x1007_1, .int .i64 x1008_1] 58 (0, 0)) (by (with_reducible repeat (first | refine blk_drewN ?_ _ | refine blk_drew ?_ | refine blk_alloc ?_ _)); exact BK0.out)) : gB0 ≠ gb1177)); have n7_ := Aside0.mk ((by rw [hg]; exact Nat.ne_of_gt (blk_lt (g := gB0) (o := .cells #[.int .i64 x1000_1, .int .i64 x1001_1, .int .i64 x1002_1, .int .i64 x1003_1, .int .i64 x1004_1, .int .i64 x1005_1, .int .i64 x1006_1, .int .i64 x1007_1, .int .i64 x1008_1] 58 (0, 0)) (by (with_reducible repeat (first | refine blk_drewN ?_ _ | refine blk_drew ?_ | refine blk_alloc ?_ _)); exact BK0.out)) : gb1177 ≠ gB0)); clear HO_3; clear BK0; clear HB; have HO_3 := n0_; have BK0 := n1_; have HB := n2_; have BK1177 := n3_; have GW1177 := n4_; have GE1177 := n5_; have NB0_1177 := n6_; have NB1177_0 := n7_; clear n0_ n1_ n2_ n3_ n4_ n5_ n6_ n7_; clear hb hbox hg; have hnb10 := NB1177_0.out; have hnc10 := NB0_1177.out; have hcz11_0 : w9.cell? ⟨gb1177, 0, none⟩ = some (.int .i64 0) := (blk_cell BK1177.out 0).trans rfl; have hcz11_1 : w9.cell? ⟨gb1177, 1, none⟩ = some (.int .i64 0) := (blk_cell BK1177.out 1).trans rfl; have hcz11_2 : w9.cell? ⟨gb1177, 2, none⟩ = some (.int .i64 0) := (blk_cell BK1177.out 2).trans rfl; have hcz11_3 : w9.cell? ⟨gb1177, 3, none⟩ = some (.int .i64 0) := (blk_cell BK1177.out 3).trans rfl; have hcz11_4 : w9.cell? ⟨gb1177, 4, none⟩ = some (.int .i64 0) := (blk_cell BK1177.out 4).trans rfl; have hcz11_5 : w9.cell? ⟨gb1177, 5, none⟩ = some (.int .i64 0) := (blk_cell BK1177.out 5).trans rfl; have hcz11_6 : w9.cell? ⟨gb1177, 6, none⟩ = some (.int .i64 0) := (blk_cell BK1177.out 6).trans rfl; have hcz11_7 : w9.cell? ⟨gb1177, 7, none⟩ = some (.int .i64 0) := (blk_cell BK1177.out 7).trans rfl; have hcz11_8 : w9.cell? ⟨gb1177, 8, none⟩ = some (.int .i64 0) := (blk_cell BK1177.out 8).trans rfl; have hfz11_0 := blk_frozen BK1177.out 0; have hfz11_1 := blk_frozen BK1177.out 1; have hfz11_2 := blk_frozen BK1177.out 2; have hfz11_3 := blk_frozen BK1177.out 3; have hfz11_4 := blk_frozen BK1177.out 4; have hfz11_5 := blk_frozen BK1177.out 5; have hfz11_6 := blk_frozen BK1177.out 6; have hfz11_7 := blk_frozen BK1177.out 7; have hfz11_8 := blk_frozen BK1177.out 8) | ((with_reducible refine gate_builtin (b := .append) (xs := #[.tmp 20, .tmp 22]) rfl ?_); at_builtin; refine Kd.R_append (Kd.int .i64) (w0 := w) w.heap.size rfl (.tmp 20) (.tmp 22) 51 2 (.int .i64 0) 8 rfl Try.underlying51 info2 rfl (by decide) (by omega) u3 x3_1 x4_1 [.int .i64 x4_1] (fun _ => True) (fun _ => False) rfl (by first | (go_simp; done) | (go_simp; rfl)) ?aP (fun _ hk => hk.elim) ?aF ?aO ?aB ?aS ?aL ?_; (case aP => exact rfl); (case aB => exact (by repeat (first | (with_reducible first | exact HB.out | apply below_alloc | apply pw_below_drewN | apply below_drew1 | refine below_set ?_ GE0.out | refine below_set ?_ GE1177.out) | exact HB.out))); (case aF => exact (fun _ _ => trivial)); (case aO => exact (by (with_reducible repeat (first | apply Kd.R_alloc | apply Kd.R_drewN | apply Kd.R_drew)); exact Kd.R_mono (Kd.R_far (p := ⟨gb1177, 8, none⟩) (Kd.R_far (p := ⟨gb1177, 7, none⟩) (Kd.R_far (p := ⟨gb1177, 6, none⟩) (Kd.R_far (p := ⟨gb1177, 5, none⟩) (Kd.R_far (p := ⟨gb1177, 4, none⟩) (Kd.R_far (p := ⟨gb1177, 3, none⟩) (Kd.R_far (p := ⟨gb1177, 2, none⟩) (Kd.R_far (p := ⟨gb1177, 1, none⟩) (Kd.R_far (p := ⟨gb1177, 0, none⟩) (Kd.R_types HO_3.out BK1177.out (by decide)) (fun _ hk => hk.2) (.int .i64 t1167)) (fun _ hk => hk.2) (.int .i64 t1168)) (fun _ hk => hk.2) (.int .i64 t1169)) (fun _ hk => hk.2) (.int .i64 t1170)) (fun _ hk => hk.2) (.int .i64 t1171)) (fun _ hk => hk.2) (.int .i64 t1172)) (fun _ hk => hk.2) (.int .i64 t1173)) (fun _ hk => hk.2) (.int .i64 t1174)) (fun _ hk => hk.2) (.int .i64 t1175)) (fun _ hk => trivial))); (case aS => exact (below_size (by repeat (first | (with_reducible first | exact HB.out | apply below_alloc | apply pw_below_drewN | apply below_drew1 | refine below_set ?_ GE0.out | refine below_set ?_ GE1177.out) | exact HB.out)))); (case aL => have := LMc7.out; omega); intro v1179 w12 ho hb hg hat; rw [← Ny1178.out] at ho; have n0_ := Aside0.mk (blk_grown (g := gB0) (o := .cells #[.int .i64 x1000_1, .int .i64 x1001_1, .int .i64 x1002_1, .int .i64 x1003_1, .int .i64 x1004_1, .int .i64 x1005_1, .int .i64 x1006_1, .int .i64 x1007_1, .int .i64 x1008_1] 58 (0, 0)) (by (with_reducible repeat (first | refine blk_drewN ?_ _ | refine blk_drew ?_ | refine blk_alloc ?_ _)); refine blk_far ?_ NB0_1177.out _; (with_reducible repeat (first | refine blk_drewN ?_ _ | refine blk_drew ?_ | refine blk_alloc ?_ _)); refine blk_far ?_ NB0_1177.out _; (with_reducible repeat (first | refine blk_drewN ?_ _ | refine blk_drew ?_ | refine blk_alloc ?_ _)); refine blk_far ?_ NB0_1177.out _; (with_reducible repeat (first | refine blk_drewN ?_ _ | refine blk_drew ?_ | refine blk_alloc ?_ _)); refine blk_far ?_ NB0_1177.out _; (with_reducible repeat (first | refine blk_drewN ?_ _ | refine blk_drew ?_ | refine blk_alloc ?_ _)); refine blk_far ?_ NB0_1177.out _; (with_reducible repeat (first | refine blk_drewN ?_ _ | refine blk_drew ?_ | refine blk_alloc ?_ _)); refine blk_far ?_ NB0_1177.out _; (with_reducible repeat (first | refine blk_drewN ?_ _ | refine blk_drew ?_ | refine blk_alloc ?_ _)); refine blk_far ?_ NB0_1177.out _; (with_reducible repeat (first | refine blk_drewN ?_ _ | refine blk_drew ?_ | refine blk_alloc ?_ _)); refine blk_far ?_ NB0_1177.out _; (with_reducible repeat (first | refine blk_drewN ?_ _ | refine blk_drew ?_ | refine blk_alloc ?_ _)); refine blk_far ?_ NB0_1177.out _; (with_reducible repeat (first | refine blk_drewN ?_ _ | refine blk_drew ?_ | refine blk_alloc ?_ _)); exact BK0.out) hg (Kd.R_ne HO_3.out BK0.out (by decide))); have n1_ := Aside0.mk (blk_grown (g := gb1177) (o := .cells #[.int .i64 t1167, .int .i64 t1168, .int .i64 t1169, .int .i64 t1170, .int .i64 t1171, .int .i64 t1172, .int .i64 t1173, .int .i64 t1174, .int .i64 t1175] 58 (0, 0)) (by (with_reducible repeat (first | refine blk_drewN ?_ _ | refine blk_drew ?_ | refine blk_alloc ?_ _)); refine blk_put (cs := #[.int .i64 t1167, .int .i64 t1168, .int .i64 t1169, .int .i64 t1170, .int .i64 t1171, .int .i64 t1172, .int .i64 t1173, .int .i64 t1174, .int .i64 0]) ?_ 8 _ rfl; (with_reducible repeat (first | refine blk_drewN ?_ _ | refine blk_drew ?_ | refine blk_alloc ?_ _)); refine blk_put (cs := #[.int .i64 t1167, .int .i64 t1168, .int .i64 t1169, .int .i64 t1170, .int .i64 t1171, .int .i64 t1172, .int .i64 t1173, .int .i64 0, .int .i64 0]) ?_ 7 _ rfl; (with_reducible repeat (first | refine blk_drewN ?_ _ | refine blk_drew ?_ | refine blk_alloc ?_ _)); refine blk_put (cs := #[.int .i64 t1167, .int .i64 t1168, .int .i64 t1169, .int .i64 t1170, .int .i64 t1171, .int .i64 t1172, .int .i64 0, .int .i64 0, .int .i64 0]) ?_ 6 _ rfl; (with_reducible repeat (first | refine blk_drewN ?_ _ | refine blk_drew ?_ | refine blk_alloc ?_ _)); refine blk_put (cs := #[.int .i64 t1167, .int .i64 t1168, .int .i64 t1169, .int .i64 t1170, .int .i64 t1171, .int .i64 0, .int .i64 0, .int .i64 0, .int .i64 0]) ?_ 5 _ rfl; (with_reducible repeat (first | refine blk_drewN ?_ _ | refine blk_drew ?_ | refine blk_alloc ?_ _)); refine blk_put (cs := #[.int .i64 t1167, .int .i64 t1168, .int .i64 t1169, .int .i64 t1170, .int .i64 0, .int .i64 0, .int .i64 0, .int .i64 0, .int .i64 0]) ?_ 4 _ rfl; (with_reducible repeat (first | refine blk_drewN ?_ _ | refine blk_drew ?_ | refine blk_alloc ?_ _)); refine blk_put (cs := #[.int .i64 t1167, .int .i64 t1168, .int .i64 t1169, .int .i64 0, .int .i64 0, .int .i64 0, .int .i64 0, .int .i64 0, .int .i64 0]) ?_ 3 _ rfl; (with_reducible repeat (first | refine blk_drewN ?_ _ | refine blk_drew ?_ | refine blk_alloc ?_ _)); refine blk_put (cs := #[.int .i64 t1167, .int .i64 t1168, .int .i64 0, .int .i64 0, .int .i64 0, .int .i64 0, .int .i64 0, .int .i64 0, .int .i64 0]) ?_ 2 _ rfl; (with_reducible repeat (first | refine blk_drewN ?_ _ | refine blk_drew ?_ | refine blk_alloc ?_ _)); refine blk_put (cs := #[.int .i64 t1167, .int .i64 0, .int .i64 0, .int .i64 0, .int .i64 0, .int .i64 0, .int .i64 0, .int .i64 0, .int .i64 0]) ?_ 1 _ rfl; (with_reducible repeat (first | refine blk_drewN ?_ _ | refine blk_drew ?_ | refine blk_alloc ?_ _)); refine blk_put (cs := #[.int .i64 0, .int .i64 0, .int .i64 0, .int .i64 0, .int .i64 0, .int .i64 0, .int .i64 0, .int .i64 0, .int .i64 0]) ?_ 0 _ rfl; (with_reducible repeat (first | refine blk_drewN ?_ _ | refine blk_drew ?_ | refine blk_alloc ?_ _)); exact BK1177.out) hg (Kd.R_ne HO_3.out BK1177.out (by decide))); have n2_ := Aside0.mk (hb); have n3_ := Aside0.mk (ho); clear BK0; clear BK1177; clear HB; clear HO_3; have BK0 := n0_; have BK1177 := n1_; have HB := n2_; have HO1180 := n3_; clear n0_ n1_ n2_ n3_; clear ho hb hg hat))
            go_roundg k1
            case measure => have := HK1.out; omega
            case rel => exact ⟨(y1178), (wrap64 (x4_1 + 1)), (x1000_1), (x1001_1), (x1002_1), (x1003_1), (x1004_1), (x1005_1), (x1006_1), (x1007_1), (x1008_1), (by first | rfl | (simp; done) | (simp [*]; done)), H', ⟨by have := HK1.out; omega⟩, ⟨by (with_reducible repeat (first | apply Kd.R_alloc | apply Kd.R_drewN | apply Kd.R_drew)); exact HO1180.out⟩, ⟨by (with_reducible repeat (first | refine blk_drewN ?_ _ | refine blk_drew ?_ | refine blk_alloc ?_ _)); exact BK0.out⟩, ⟨by repeat (first | (with_reducible first | exact HB.out | apply below_alloc | apply pw_below_drewN | apply below_drew1 | refine below_set ?_ GE0.out | refine below_set ?_ GE1177.out) | exact HB.out)⟩⟩
          · rw [if_neg c7] at H
            exact absurd H (by simp)
        · replace c6 := Bool.eq_false_iff.mpr c6
          subst c6
          have H1 : (spec_l04Fitting.l0 k1 x3_1 (wrap64 (x4_1 + 1)) x1000_1 x1001_1 x1002_1 x1003_1 x1004_1 x1005_1 x1006_1 x1007_1 x1008_1) = some r := by rw [if_neg (show ¬ (false = true) by decide)] at H; exact H
          clear H
          have H := H1
          clear H1
          have H' := Aside0.mk H
          clear H
          go_wp2_with (first | ((with_reducible refine gate_callee (f := 93) rfl ?_); refine goesL_ (some 16) rfl rfl Try.func93 (by kernel_rfl) rfl #[.pointer (some ⟨gB0, 0, none⟩), .agg #[.int .i64 1, .int .i64 x4_1]] rfl (by (try simp only [List.map_toArray, List.map_cons, List.map_nil]); first | done | rfl | (simp only [List.length_drop, List.length_take]; rfl)) ?_; (with_reducible refine (spec_l04Build.calls k1 gB0 x1000_1 x1001_1 x1002_1 x1003_1 x1004_1 x1005_1 x1006_1 x1007_1 x1008_1 1 x4_1 t1167 t1168 t1169 t1170 t1171 t1172 t1173 t1174 t1175 false _ ?side1 A5.out).mono ?_); (case side1 => (with_reducible repeat (first | refine blk_drewN ?_ _ | refine blk_drew ?_ | refine blk_alloc ?_ _)); exact BK0.out); rintro e w13 ⟨rfl, hb⟩; refine ⟨_, rfl, ?_⟩; have n0_ := Aside0.mk (Kd.R_below (by (with_reducible repeat (first | apply Kd.R_alloc | apply Kd.R_drewN | apply Kd.R_drew)); exact HO_3.out) hb); have n1_ := Aside0.mk (blk_below (g := gB0) (o := .cells #[.int .i64 x1000_1, .int .i64 x1001_1, .int .i64 x1002_1, .int .i64 x1003_1, .int .i64 x1004_1, .int .i64 x1005_1, .int .i64 x1006_1, .int .i64 x1007_1, .int .i64 x1008_1] 58 (0, 0)) (by (with_reducible repeat (first | refine blk_drewN ?_ _ | refine blk_drew ?_ | refine blk_alloc ?_ _)); exact BK0.out) hb); have n2_ := Aside0.mk (below_step (by repeat (first | (with_reducible first | exact HB.out | apply below_alloc | apply pw_below_drewN | apply below_drew1 | refine below_set ?_ GE0.out) | exact HB.out)) hb); clear HO_3; clear BK0; clear HB; have HO_3 := n0_; have BK0 := n1_; have HB := n2_; clear n0_ n1_ n2_; (try clear hb); (try clear hb2); (try clear hk); (try clear hi)) | ((with_reducible refine gate_dst (N := 5) rfl ?_); refine box_event ?hg (N := 5) ?hd (cs := #[.int .i64 0, .int .i64 0, .int .i64 0, .int .i64 0, .int .i64 0, .int .i64 0, .int .i64 0, .int .i64 0, .int .i64 0]) (t := 58) ?hr ?_; (case hd => rfl); (case hg => rfl); (case hr => first | (go_simp; done) | (go_simp; rfl)); intro gb1177 hg w14 hbox hb; have n0_ := Aside0.mk (Kd.R_below (by (with_reducible repeat (first | apply Kd.R_alloc | apply Kd.R_drewN | apply Kd.R_drew)); exact HO_3.out) hb); have n1_ := Aside0.mk (blk_below (g := gB0) (o := .cells #[.int .i64 x1000_1, .int .i64 x1001_1, .int .i64 x1002_1, .int .i64 x1003_1, .int .i64 x1004_1, .int .i64 x1005_1, .int .i64 x1006_1, .int .i64 x1007_1, .int .i64 x1008_1] 58 (0, 0)) (by (with_reducible repeat (first | refine blk_drewN ?_ _ | refine blk_drew ?_ | refine blk_alloc ?_ _)); exact BK0.out) hb); have n2_ := Aside0.mk (below_step (by repeat (first | (with_reducible first | exact HB.out | apply below_alloc | apply pw_below_drewN | apply below_drew1 | refine below_set ?_ GE0.out) | exact HB.out)) hb); have n3_ := Aside0.mk (hbox); have n4_ := Aside0.mk ((by rw [hg]; exact (below_size (by repeat (first | (with_reducible first | exact HB.out | apply below_alloc | apply pw_below_drewN | apply below_drew1 | refine below_set ?_ GE0.out) | exact HB.out))) : w.heap.size ≤ gb1177)); have n5_ := Aside0.mk ((by rw [hg]; exact (below_size (by repeat (first | (with_reducible first | exact HB.out | apply below_alloc | apply pw_below_drewN | apply below_drew1 | refine below_set ?_ GE0.out) | exact HB.out))) : w.heap.size ≤ gb1177)); have n6_ := Aside0.mk ((by rw [hg]; exact Nat.ne_of_lt (blk_lt (g := gB0) (o := .cells #[.int .i64 x1000_1, .int .i64 x1001_1, .int .i64 x1002_1, .int .i64 x1003_1, .int .i64 x1004_1, .int .i64 x1005_1, .int .i64 x1006_1, .int .i64 x1007_1, .int .i64 x1008_1] 58 (0, 0)) (by (with_reducible repeat (first | refine blk_drewN ?_ _ | refine blk_drew ?_ | refine blk_alloc ?_ _)); exact BK0.out)) : gB0 ≠ gb1177)); have n7_ := Aside0.mk ((by rw [hg]; exact Nat.ne_of_gt (blk_lt (g := gB0) (o := .cells #[.int .i64 x1000_1, .int .i64 x1001_1, .int .i64 x1002_1, .int .i64 x1003_1, .int .i64 x1004_1, .int .i64 x1005_1, .int .i64 x1006_1, .int .i64 x1007_1, .int .i64 x1008_1] 58 (0, 0)) (by (with_reducible repeat (first | refine blk_drewN ?_ _ | refine blk_drew ?_ | refine blk_alloc ?_ _)); exact BK0.out)) : gb1177 ≠ gB0)); clear HO_3; clear BK0; clear HB; have HO_3 := n0_; have BK0 := n1_; have HB := n2_; have BK1177 := n3_; have GW1177 := n4_; have GE1177 := n5_; have NB0_1177 := n6_; have NB1177_0 := n7_; clear n0_ n1_ n2_ n3_ n4_ n5_ n6_ n7_; clear hb hbox hg; have hnb15 := NB1177_0.out; have hnc15 := NB0_1177.out; have hcz16_0 : w14.cell? ⟨gb1177, 0, none⟩ = some (.int .i64 0) := (blk_cell BK1177.out 0).trans rfl; have hcz16_1 : w14.cell? ⟨gb1177, 1, none⟩ = some (.int .i64 0) := (blk_cell BK1177.out 1).trans rfl; have hcz16_2 : w14.cell? ⟨gb1177, 2, none⟩ = some (.int .i64 0) := (blk_cell BK1177.out 2).trans rfl; have hcz16_3 : w14.cell? ⟨gb1177, 3, none⟩ = some (.int .i64 0) := (blk_cell BK1177.out 3).trans rfl; have hcz16_4 : w14.cell? ⟨gb1177, 4, none⟩ = some (.int .i64 0) := (blk_cell BK1177.out 4).trans rfl; have hcz16_5 : w14.cell? ⟨gb1177, 5, none⟩ = some (.int .i64 0) := (blk_cell BK1177.out 5).trans rfl; have hcz16_6 : w14.cell? ⟨gb1177, 6, none⟩ = some (.int .i64 0) := (blk_cell BK1177.out 6).trans rfl; have hcz16_7 : w14.cell? ⟨gb1177, 7, none⟩ = some (.int .i64 0) := (blk_cell BK1177.out 7).trans rfl; have hcz16_8 : w14.cell? ⟨gb1177, 8, none⟩ = some (.int .i64 0) := (blk_cell BK1177.out 8).trans rfl; have hfz16_0 := blk_frozen BK1177.out 0; have hfz16_1 := blk_frozen BK1177.out 1; have hfz16_2 := blk_frozen BK1177.out 2; have hfz16_3 := blk_frozen BK1177.out 3; have hfz16_4 := blk_frozen BK1177.out 4; have hfz16_5 := blk_frozen BK1177.out 5; have hfz16_6 := blk_frozen BK1177.out 6; have hfz16_7 := blk_frozen BK1177.out 7; have hfz16_8 := blk_frozen BK1177.out 8))
          go_roundg k1
          case measure => have := HK1.out; omega
          case rel => exact ⟨(x3_1), (wrap64 (x4_1 + 1)), (x1000_1), (x1001_1), (x1002_1), (x1003_1), (x1004_1), (x1005_1), (x1006_1), (x1007_1), (x1008_1), (by first | rfl | (simp; done) | (simp [*]; done)), H', ⟨by have := HK1.out; omega⟩, ⟨by (with_reducible repeat (first | apply Kd.R_alloc | apply Kd.R_drewN | apply Kd.R_drew)); exact Kd.R_mono (Kd.R_far (p := ⟨gb1177, 8, none⟩) (Kd.R_far (p := ⟨gb1177, 7, none⟩) (Kd.R_far (p := ⟨gb1177, 6, none⟩) (Kd.R_far (p := ⟨gb1177, 5, none⟩) (Kd.R_far (p := ⟨gb1177, 4, none⟩) (Kd.R_far (p := ⟨gb1177, 3, none⟩) (Kd.R_far (p := ⟨gb1177, 2, none⟩) (Kd.R_far (p := ⟨gb1177, 1, none⟩) (Kd.R_far (p := ⟨gb1177, 0, none⟩) (Kd.R_types HO_3.out BK1177.out (by decide)) (fun _ hk => hk.2) (.int .i64 t1167)) (fun _ hk => hk.2) (.int .i64 t1168)) (fun _ hk => hk.2) (.int .i64 t1169)) (fun _ hk => hk.2) (.int .i64 t1170)) (fun _ hk => hk.2) (.int .i64 t1171)) (fun _ hk => hk.2) (.int .i64 t1172)) (fun _ hk => hk.2) (.int .i64 t1173)) (fun _ hk => hk.2) (.int .i64 t1174)) (fun _ hk => hk.2) (.int .i64 t1175)) (fun _ hk => trivial)⟩, ⟨by (with_reducible repeat (first | refine blk_drewN ?_ _ | refine blk_drew ?_ | refine blk_alloc ?_ _)); refine blk_far ?_ NB0_1177.out _; (with_reducible repeat (first | refine blk_drewN ?_ _ | refine blk_drew ?_ | refine blk_alloc ?_ _)); refine blk_far ?_ NB0_1177.out _; (with_reducible repeat (first | refine blk_drewN ?_ _ | refine blk_drew ?_ | refine blk_alloc ?_ _)); refine blk_far ?_ NB0_1177.out _; (with_reducible repeat (first | refine blk_drewN ?_ _ | refine blk_drew ?_ | refine blk_alloc ?_ _)); refine blk_far ?_ NB0_1177.out _; (with_reducible repeat (first | refine blk_drewN ?_ _ | refine blk_drew ?_ | refine blk_alloc ?_ _)); refine blk_far ?_ NB0_1177.out _; (with_reducible repeat (first | refine blk_drewN ?_ _ | refine blk_drew ?_ | refine blk_alloc ?_ _)); refine blk_far ?_ NB0_1177.out _; (with_reducible repeat (first | refine blk_drewN ?_ _ | refine blk_drew ?_ | refine blk_alloc ?_ _)); refine blk_far ?_ NB0_1177.out _; (with_reducible repeat (first | refine blk_drewN ?_ _ | refine blk_drew ?_ | refine blk_alloc ?_ _)); refine blk_far ?_ NB0_1177.out _; (with_reducible repeat (first | refine blk_drewN ?_ _ | refine blk_drew ?_ | refine blk_alloc ?_ _)); refine blk_far ?_ NB0_1177.out _; (with_reducible repeat (first | refine blk_drewN ?_ _ | refine blk_drew ?_ | refine blk_alloc ?_ _)); exact BK0.out⟩, ⟨by repeat (first | (with_reducible first | exact HB.out | apply below_alloc | apply pw_below_drewN | apply below_drew1 | refine below_set ?_ GE0.out | refine below_set ?_ GE1177.out) | exact HB.out)⟩⟩
      · rw [if_neg c4] at H
        have c4b0 : decide (x4_1 < 16) = false := decide_eq_false c4
        clear c4
        obtain rfl := Option.some.inj H
        go_wp2
        go_ret
        exact ⟨_, by first | rfl | (simp [errW_none, errW_some] <;> rfl) | (simp [*, errW_none, errW_some] <;> rfl), by (with_reducible repeat (first | apply Kd.R_alloc | apply Kd.R_drewN | apply Kd.R_drew)); exact HO_3.out, by repeat (first | (with_reducible first | exact HB.out | apply below_alloc | apply pw_below_drewN | apply below_drew1 | refine below_set ?_ GE0.out) | exact HB.out)⟩

/-! ### spec_FittingKeys: function 63 -/
def spec_FittingKeys.f (k : Nat) (a0_0 : Int) (a0_1 : Int) (a0_2 : Int) (a0_3 : Int) (a0_4 : Int) (a0_5 : Int) (a0_6 : Int) (a0_7 : Int) (a0_8 : Int) : Option (List Int × Bool) := (spec_l04Is.f k a0_0 a0_1 a0_2 a0_3 a0_4 a0_5 a0_6 a0_7 a0_8).bind fun t1182 => (if t1182 = true then ((spec_l04Fitting.f k a0_0 a0_1 a0_2 a0_3 a0_4 a0_5 a0_6 a0_7 a0_8).bind fun t1183 => (some (t1183, true))) else (some (([] : List Int), false)))
theorem spec_FittingKeys.mono : ∀ a0 a1 a2 a3 a4 a5 a6 a7 a8 k, LeO (spec_FittingKeys.f k a0 a1 a2 a3 a4 a5 a6 a7 a8) (spec_FittingKeys.f (k + 1) a0 a1 a2 a3 a4 a5 a6 a7 a8) := by
  intro a0 a1 a2 a3 a4 a5 a6 a7 a8 k
  unfold spec_FittingKeys.f
  repeat' first
      | (with_reducible exact spec_l04Fitting.mono _ _ _ _ _ _ _ _ _ _)
      | (with_reducible exact spec_l04Is.mono _ _ _ _ _ _ _ _ _ _)
      | (with_reducible exact LeO.refl _)
      | (with_reducible exact LeO.none _)
      | (with_reducible refine LeO.ite ?_ ?_)
      | (with_reducible refine LeO.bind ?_ (fun _ => ?_))
      | exact spec_l04Fitting.mono _ _ _ _ _ _ _ _ _ _
      | exact spec_l04Is.mono _ _ _ _ _ _ _ _ _ _
      | exact LeO.none _
      | refine LeO.ite ?_ ?_
      | refine LeO.bind ?_ (fun _ => ?_)
set_option maxHeartbeats 8000000 in
set_option maxRecDepth 100000 in
theorem spec_FittingKeys.calls (k : Nat) (a0_0 : Int) (a0_1 : Int) (a0_2 : Int) (a0_3 : Int) (a0_4 : Int) (a0_5 : Int) (a0_6 : Int) (a0_7 : Int) (a0_8 : Int) (r1 : List Int) (r2 : Bool) (w : World) (h : spec_FittingKeys.f k a0_0 a0_1 a0_2 a0_3 a0_4 a0_5 a0_6 a0_7 a0_8 = some (r1, r2)) :
    Calls Try.prog 63 #[.agg #[.int .i64 a0_0, .int .i64 a0_1, .int .i64 a0_2, .int .i64 a0_3, .int .i64 a0_4, .int .i64 a0_5, .int .i64 a0_6, .int .i64 a0_7, .int .i64 a0_8]] w fun e w' => ∃ v0_ : Value, e = .returned (.tuple #[v0_, .bool r2]) ∧ Kd.R (Kd.int .i64) 2 w' w.heap.size (fun _ => True) v0_ r1 ∧ Below w.heap.size w w' := by
  have hu58 := Try.underlying58
  have HB := Aside0.mk (Below.refl w.heap.size w)
  have H : ((spec_l04Is.f k a0_0 a0_1 a0_2 a0_3 a0_4 a0_5 a0_6 a0_7 a0_8).bind fun t1182 => (if t1182 = true then ((spec_l04Fitting.f k a0_0 a0_1 a0_2 a0_3 a0_4 a0_5 a0_6 a0_7 a0_8).bind fun t1183 => (some (t1183, true))) else (some (([] : List Int), false)))) = some (r1, r2) := h
  clear h
  replace H := Option.bind_eq_some_iff.mp H
  obtain ⟨t1182, A20, H⟩ := H
  replace H : (if t1182 = true then ((spec_l04Fitting.f k a0_0 a0_1 a0_2 a0_3 a0_4 a0_5 a0_6 a0_7 a0_8).bind fun t1183 => (some (t1183, true))) else (some (([] : List Int), false))) = some (r1, r2) := H
  have A2 := Aside0.mk A20
  clear A20
  by_cases c3 : t1182 = true
  · subst c3
    have H1 : ((spec_l04Fitting.f k a0_0 a0_1 a0_2 a0_3 a0_4 a0_5 a0_6 a0_7 a0_8).bind fun t1183 => (some (t1183, true))) = some (r1, r2) := by rw [if_pos rfl] at H; exact H
    clear H
    have H := H1
    clear H1
    replace H := Option.bind_eq_some_iff.mp H
    obtain ⟨t1183, A40, H⟩ := H
    replace H : (some (t1183, true)) = some (r1, r2) := H
    have A4 := Aside0.mk A40
    clear A40
    simp only [Option.some.injEq, Prod.mk.injEq] at H
    obtain ⟨rfl, rfl⟩ := H
    go_enter Try.func63, Try.ntmps63
    go_wp2_with (first | ((with_reducible refine gate_dst (N := 1) rfl ?_); refine box_event ?hg (N := 1) ?hd (cs := #[.int .i64 a0_0, .int .i64 a0_1, .int .i64 a0_2, .int .i64 a0_3, .int .i64 a0_4, .int .i64 a0_5, .int .i64 a0_6, .int .i64 a0_7, .int .i64 a0_8]) (t := 58) ?hr ?_; (case hd => rfl); (case hg => rfl); (case hr => first | (go_simp; done) | (go_simp; rfl)); intro gb1181 hg w5 hbox hb; have n0_ := Aside0.mk (below_step (by repeat (first | (with_reducible first | exact HB.out | apply below_alloc | apply pw_below_drewN | apply below_drew1) | exact HB.out)) hb); have n1_ := Aside0.mk (hbox); have n2_ := Aside0.mk ((by rw [hg]; exact (below_size (by repeat (first | (with_reducible first | exact HB.out | apply below_alloc | apply pw_below_drewN | apply below_drew1) | exact HB.out))) : w.heap.size ≤ gb1181)); have n3_ := Aside0.mk ((by rw [hg]; exact (below_size (by repeat (first | (with_reducible first | exact HB.out | apply below_alloc | apply pw_below_drewN | apply below_drew1) | exact HB.out))) : w.heap.size ≤ gb1181)); clear HB; have HB := n0_; have BK1181 := n1_; have GW1181 := n2_; have GE1181 := n3_; clear n0_ n1_ n2_ n3_; clear hb hbox hg) | ((with_reducible refine gate_callee (f := 79) rfl ?_); refine goesL_ (some 4) rfl rfl Try.func79 (by kernel_rfl) rfl #[.pointer (some ⟨gb1181, 0, none⟩)] rfl (by (try simp only [List.map_toArray, List.map_cons, List.map_nil]); first | done | rfl | (simp only [List.length_drop, List.length_take]; rfl)) ?_; (with_reducible refine (spec_l04Is.calls k gb1181 a0_0 a0_1 a0_2 a0_3 a0_4 a0_5 a0_6 a0_7 a0_8 true _ ?side1 A2.out).mono ?_); (case side1 => (with_reducible repeat (first | refine blk_drewN ?_ _ | refine blk_drew ?_ | refine blk_alloc ?_ _)); exact BK1181.out); rintro e w6 ⟨rfl, hb⟩; refine ⟨_, rfl, ?_⟩; have n0_ := Aside0.mk (blk_below (g := gb1181) (o := .cells #[.int .i64 a0_0, .int .i64 a0_1, .int .i64 a0_2, .int .i64 a0_3, .int .i64 a0_4, .int .i64 a0_5, .int .i64 a0_6, .int .i64 a0_7, .int .i64 a0_8] 58 (0, 0)) (by (with_reducible repeat (first | refine blk_drewN ?_ _ | refine blk_drew ?_ | refine blk_alloc ?_ _)); exact BK1181.out) hb); have n1_ := Aside0.mk (below_step (by repeat (first | (with_reducible first | exact HB.out | apply below_alloc | apply pw_below_drewN | apply below_drew1 | refine below_set ?_ GE1181.out) | exact HB.out)) hb); clear BK1181; clear HB; have BK1181 := n0_; have HB := n1_; clear n0_ n1_; (try clear hb); (try clear hb2); (try clear hk); (try clear hi)) | ((with_reducible refine gate_callee (f := 100) rfl ?_); refine goesL_ (some 6) rfl rfl Try.func100 (by kernel_rfl) rfl #[.pointer (some ⟨gb1181, 0, none⟩)] rfl (by (try simp only [List.map_toArray, List.map_cons, List.map_nil]); first | done | rfl | (simp only [List.length_drop, List.length_take]; rfl)) ?_; (with_reducible refine (spec_l04Fitting.calls k gb1181 a0_0 a0_1 a0_2 a0_3 a0_4 a0_5 a0_6 a0_7 a0_8 t1183 _ ?side1 A4.out).mono ?_); (case side1 => (with_reducible repeat (first | refine blk_drewN ?_ _ | refine blk_drew ?_ | refine blk_alloc ?_ _)); exact BK1181.out); rintro e w7 ⟨v1184, rfl, ho0, hb⟩; refine ⟨_, rfl, ?_⟩; have n0_ := Aside0.mk (Kd.R_lower ho0 (below_size (by repeat (first | (with_reducible first | exact HB.out | apply below_alloc | apply pw_below_drewN | apply below_drew1 | refine below_set ?_ GE1181.out) | exact HB.out)))); have n1_ := Aside0.mk (blk_below (g := gb1181) (o := .cells #[.int .i64 a0_0, .int .i64 a0_1, .int .i64 a0_2, .int .i64 a0_3, .int .i64 a0_4, .int .i64 a0_5, .int .i64 a0_6, .int .i64 a0_7, .int .i64 a0_8] 58 (0, 0)) (by (with_reducible repeat (first | refine blk_drewN ?_ _ | refine blk_drew ?_ | refine blk_alloc ?_ _)); exact BK1181.out) hb); have n2_ := Aside0.mk (below_step (by repeat (first | (with_reducible first | exact HB.out | apply below_alloc | apply pw_below_drewN | apply below_drew1 | refine below_set ?_ GE1181.out) | exact HB.out)) hb); clear BK1181; clear HB; have HO1185 := n0_; have BK1181 := n1_; have HB := n2_; clear n0_ n1_ n2_; (try clear hb); (try clear hb2); (try clear hk); (try clear hi); (try clear ho0)))
    go_ret2
    exact ⟨_, by first | rfl | (simp [errW_none, errW_some] <;> rfl) | (simp [*, errW_none, errW_some] <;> rfl), by (with_reducible repeat (first | apply Kd.R_alloc | apply Kd.R_drewN | apply Kd.R_drew)); exact HO1185.out, by repeat (first | (with_reducible first | exact HB.out | apply below_alloc | apply pw_below_drewN | apply below_drew1 | refine below_set ?_ GE1181.out) | exact HB.out)⟩
  · replace c3 := Bool.eq_false_iff.mpr c3
    subst c3
    have H1 : (some (([] : List Int), false)) = some (r1, r2) := by rw [if_neg (show ¬ (false = true) by decide)] at H; exact H
    clear H
    have H := H1
    clear H1
    simp only [Option.some.injEq, Prod.mk.injEq] at H
    obtain ⟨rfl, rfl⟩ := H
    go_enter Try.func63, Try.ntmps63
    go_wp2_with (first | ((with_reducible refine gate_dst (N := 1) rfl ?_); refine box_event ?hg (N := 1) ?hd (cs := #[.int .i64 a0_0, .int .i64 a0_1, .int .i64 a0_2, .int .i64 a0_3, .int .i64 a0_4, .int .i64 a0_5, .int .i64 a0_6, .int .i64 a0_7, .int .i64 a0_8]) (t := 58) ?hr ?_; (case hd => rfl); (case hg => rfl); (case hr => first | (go_simp; done) | (go_simp; rfl)); intro gb1181 hg w8 hbox hb; have n0_ := Aside0.mk (below_step (by repeat (first | (with_reducible first | exact HB.out | apply below_alloc | apply pw_below_drewN | apply below_drew1) | exact HB.out)) hb); have n1_ := Aside0.mk (hbox); have n2_ := Aside0.mk ((by rw [hg]; exact (below_size (by repeat (first | (with_reducible first | exact HB.out | apply below_alloc | apply pw_below_drewN | apply below_drew1) | exact HB.out))) : w.heap.size ≤ gb1181)); have n3_ := Aside0.mk ((by rw [hg]; exact (below_size (by repeat (first | (with_reducible first | exact HB.out | apply below_alloc | apply pw_below_drewN | apply below_drew1) | exact HB.out))) : w.heap.size ≤ gb1181)); clear HB; have HB := n0_; have BK1181 := n1_; have GW1181 := n2_; have GE1181 := n3_; clear n0_ n1_ n2_ n3_; clear hb hbox hg) | ((with_reducible refine gate_callee (f := 79) rfl ?_); refine goesL_ (some 4) rfl rfl Try.func79 (by kernel_rfl) rfl #[.pointer (some ⟨gb1181, 0, none⟩)] rfl (by (try simp only [List.map_toArray, List.map_cons, List.map_nil]); first | done | rfl | (simp only [List.length_drop, List.length_take]; rfl)) ?_; (with_reducible refine (spec_l04Is.calls k gb1181 a0_0 a0_1 a0_2 a0_3 a0_4 a0_5 a0_6 a0_7 a0_8 false _ ?side1 A2.out).mono ?_); (case side1 => (with_reducible repeat (first | refine blk_drewN ?_ _ | refine blk_drew ?_ | refine blk_alloc ?_ _)); exact BK1181.out); rintro e w9 ⟨rfl, hb⟩; refine ⟨_, rfl, ?_⟩; have n0_ := Aside0.mk (blk_below (g := gb1181) (o := .cells #[.int .i64 a0_0, .int .i64 a0_1, .int .i64 a0_2, .int .i64 a0_3, .int .i64 a0_4, .int .i64 a0_5, .int .i64 a0_6, .int .i64 a0_7, .int .i64 a0_8] 58 (0, 0)) (by (with_reducible repeat (first | refine blk_drewN ?_ _ | refine blk_drew ?_ | refine blk_alloc ?_ _)); exact BK1181.out) hb); have n1_ := Aside0.mk (below_step (by repeat (first | (with_reducible first | exact HB.out | apply below_alloc | apply pw_below_drewN | apply below_drew1 | refine below_set ?_ GE1181.out) | exact HB.out)) hb); clear BK1181; clear HB; have BK1181 := n0_; have HB := n1_; clear n0_ n1_; (try clear hb); (try clear hb2); (try clear hk); (try clear hi)))
    go_ret2
    exact ⟨_, by first | rfl | (simp [errW_none, errW_some] <;> rfl) | (simp [*, errW_none, errW_some] <;> rfl), by first | exact Kd.R_nil _ _ _ _ _ | exact Kd.N_nil _ _ _ _ _ | exact Kd.V_nil _ _ _ _ _ | exact Kd.Q_nil _ _ _ _ _ | exact Kd.S_nil _ _ _ _ _, by repeat (first | (with_reducible first | exact HB.out | apply below_alloc | apply pw_below_drewN | apply below_drew1 | refine below_set ?_ GE1181.out) | exact HB.out)⟩

/-! ### impl_FittingKeys: function 64 -/
def impl_FittingKeys.l0 : Nat → List Int → Int → Int → Int → Int → Int → Int → Int → Int → Int → Int → Option (List Int × Bool)
  | 0, _, _, _, _, _, _, _, _, _, _, _ => none
  | k + 1, x4, x12, x1187000, x1187001, x1187002, x1187003, x1187004, x1187005, x1187006, x1187007, x1187008 => if x12 < 16 then ((impl_BuildRing.f k x1187000 x1187001 x1187002 x1187003 x1187004 x1187005 x1187006 x1187007 x1187008 1 x12).bind fun bt1191 => (if bt1191.2.2.2.2.2.2.2.2.2 = true then (if x4.length < 17592186044416 then (impl_FittingKeys.l0 k (x4 ++ [x12]) (wrap64 (x12 + 1)) x1187000 x1187001 x1187002 x1187003 x1187004 x1187005 x1187006 x1187007 x1187008) else (none)) else (impl_FittingKeys.l0 k x4 (wrap64 (x12 + 1)) x1187000 x1187001 x1187002 x1187003 x1187004 x1187005 x1187006 x1187007 x1187008))) else (some (x4, true))
def impl_FittingKeys.f (k : Nat) (a0_0 : Int) (a0_1 : Int) (a0_2 : Int) (a0_3 : Int) (a0_4 : Int) (a0_5 : Int) (a0_6 : Int) (a0_7 : Int) (a0_8 : Int) : Option (List Int × Bool) := (impl_ValidMachine.f a0_0 a0_1 a0_2 a0_3 a0_4 a0_5 a0_6 a0_7 a0_8).bind fun t1187 => (if t1187 = true then (impl_FittingKeys.l0 k (([] : List Int)) 0 a0_0 a0_1 a0_2 a0_3 a0_4 a0_5 a0_6 a0_7 a0_8) else (some (([] : List Int), false)))
theorem impl_FittingKeys.mono_l : ∀ k, (∀ y0 y1 y2 y3 y4 y5 y6 y7 y8 y9 y10, LeO (impl_FittingKeys.l0 k y0 y1 y2 y3 y4 y5 y6 y7 y8 y9 y10) (impl_FittingKeys.l0 (k + 1) y0 y1 y2 y3 y4 y5 y6 y7 y8 y9 y10))
  | 0 => fun _ _ _ _ _ _ _ _ _ _ _ r h => by simp [impl_FittingKeys.l0] at h
  | k + 1 => by
    have ih0 := impl_FittingKeys.mono_l k
    · intro y0 y1 y2 y3 y4 y5 y6 y7 y8 y9 y10
      unfold impl_FittingKeys.l0
      repeat' first
      | (with_reducible exact ih0 _ _ _ _ _ _ _ _ _ _ _)
      | (with_reducible exact impl_BuildRing.mono _ _ _ _ _ _ _ _ _ _ _ _)
      | (with_reducible exact LeO.refl _)
      | (with_reducible exact LeO.none _)
      | (with_reducible refine LeO.ite ?_ ?_)
      | (with_reducible refine LeO.bind ?_ (fun _ => ?_))
      | exact ih0 _ _ _ _ _ _ _ _ _ _ _
      | exact impl_BuildRing.mono _ _ _ _ _ _ _ _ _ _ _ _
      | exact LeO.none _
      | refine LeO.ite ?_ ?_
      | refine LeO.bind ?_ (fun _ => ?_)
theorem impl_FittingKeys.mono : ∀ a0 a1 a2 a3 a4 a5 a6 a7 a8 k, LeO (impl_FittingKeys.f k a0 a1 a2 a3 a4 a5 a6 a7 a8) (impl_FittingKeys.f (k + 1) a0 a1 a2 a3 a4 a5 a6 a7 a8) := by
  intro a0 a1 a2 a3 a4 a5 a6 a7 a8 k
  have ih0 := impl_FittingKeys.mono_l k
  unfold impl_FittingKeys.f
  repeat' first
      | (with_reducible exact ih0 _ _ _ _ _ _ _ _ _ _ _)
      | (with_reducible exact impl_BuildRing.mono _ _ _ _ _ _ _ _ _ _ _ _)
      | (with_reducible exact LeO.refl _)
      | (with_reducible exact LeO.none _)
      | (with_reducible refine LeO.ite ?_ ?_)
      | (with_reducible refine LeO.bind ?_ (fun _ => ?_))
      | exact ih0 _ _ _ _ _ _ _ _ _ _ _
      | exact impl_BuildRing.mono _ _ _ _ _ _ _ _ _ _ _ _
      | exact LeO.none _
      | refine LeO.ite ?_ ?_
      | refine LeO.bind ?_ (fun _ => ?_)
set_option maxHeartbeats 8000000 in
set_option maxRecDepth 100000 in
theorem impl_FittingKeys.calls (k : Nat) (a0_0 : Int) (a0_1 : Int) (a0_2 : Int) (a0_3 : Int) (a0_4 : Int) (a0_5 : Int) (a0_6 : Int) (a0_7 : Int) (a0_8 : Int) (r1 : List Int) (r2 : Bool) (w : World) (h : impl_FittingKeys.f k a0_0 a0_1 a0_2 a0_3 a0_4 a0_5 a0_6 a0_7 a0_8 = some (r1, r2)) :
    Calls Try.prog 64 #[.agg #[.int .i64 a0_0, .int .i64 a0_1, .int .i64 a0_2, .int .i64 a0_3, .int .i64 a0_4, .int .i64 a0_5, .int .i64 a0_6, .int .i64 a0_7, .int .i64 a0_8]] w fun e w' => ∃ v0_ : Value, e = .returned (.tuple #[v0_, .bool r2]) ∧ Kd.R (Kd.int .i64) 2 w' w.heap.size (fun _ => True) v0_ r1 ∧ Below w.heap.size w w' := by
  have hu58 := Try.underlying58
  have hu75 := Try.underlying75
  have HB := Aside0.mk (Below.refl w.heap.size w)
  have H : ((impl_ValidMachine.f a0_0 a0_1 a0_2 a0_3 a0_4 a0_5 a0_6 a0_7 a0_8).bind fun t1187 => (if t1187 = true then (impl_FittingKeys.l0 k (([] : List Int)) 0 a0_0 a0_1 a0_2 a0_3 a0_4 a0_5 a0_6 a0_7 a0_8) else (some (([] : List Int), false)))) = some (r1, r2) := h
  clear h
  replace H := Option.bind_eq_some_iff.mp H
  obtain ⟨t1187, A20, H⟩ := H
  replace H : (if t1187 = true then (impl_FittingKeys.l0 k (([] : List Int)) 0 a0_0 a0_1 a0_2 a0_3 a0_4 a0_5 a0_6 a0_7 a0_8) else (some (([] : List Int), false))) = some (r1, r2) := H
  have A2 := Aside0.mk A20
  clear A20
  by_cases c3 : t1187 = true
  · subst c3
    have H1 : (impl_FittingKeys.l0 k (([] : List Int)) 0 a0_0 a0_1 a0_2 a0_3 a0_4 a0_5 a0_6 a0_7 a0_8) = some (r1, r2) := by rw [if_pos rfl] at H; exact H
    clear H
    have H := H1
    clear H1
    obtain ⟨y1188, hy1188⟩ : ∃ y_ : List Int, y_ = (([] : List Int)) := ⟨_, rfl⟩
    replace H : (impl_FittingKeys.l0 k y1188 0 a0_0 a0_1 a0_2 a0_3 a0_4 a0_5 a0_6 a0_7 a0_8) = some (r1, r2) := by first | (rw [hy1188]; with_reducible exact H) | (have H2_ := (Option.bind_some _ _).symm.trans H; rw [hy1188]; with_reducible exact H2_) | (have H2_ := (Option.bind_some _ _).symm.trans H; with_reducible exact H2_) | with_reducible exact H | (rw [hy1188]; exact H) | exact H
    have Ny1188 := Aside0.mk hy1188
    clear hy1188
    have H' := Aside0.mk H
    clear H
    go_enter Try.func64, Try.ntmps64
    go_wp2_with (first | ((with_reducible refine gate_dst (N := 1) rfl ?_); refine box_event ?hg (N := 1) ?hd (cs := #[.int .i64 a0_0, .int .i64 a0_1, .int .i64 a0_2, .int .i64 a0_3, .int .i64 a0_4, .int .i64 a0_5, .int .i64 a0_6, .int .i64 a0_7, .int .i64 a0_8]) (t := 58) ?hr ?_; (case hd => rfl); (case hg => rfl); (case hr => first | (go_simp; done) | (go_simp; rfl)); intro gb1186 hg w4 hbox hb; have n0_ := Aside0.mk (below_step (by repeat (first | (with_reducible first | exact HB.out | apply below_alloc | apply pw_below_drewN | apply below_drew1) | exact HB.out)) hb); have n1_ := Aside0.mk (hbox); have n2_ := Aside0.mk ((by rw [hg]; exact (below_size (by repeat (first | (with_reducible first | exact HB.out | apply below_alloc | apply pw_below_drewN | apply below_drew1) | exact HB.out))) : w.heap.size ≤ gb1186)); have n3_ := Aside0.mk ((by rw [hg]; exact (below_size (by repeat (first | (with_reducible first | exact HB.out | apply below_alloc | apply pw_below_drewN | apply below_drew1) | exact HB.out))) : w.heap.size ≤ gb1186)); clear HB; have HB := n0_; have BK1186 := n1_; have GW1186 := n2_; have GE1186 := n3_; clear n0_ n1_ n2_ n3_; clear hb hbox hg; have hcz5_0 : w4.cell? ⟨gb1186, 0, none⟩ = some (.int .i64 a0_0) := (blk_cell BK1186.out 0).trans rfl; have hcz5_1 : w4.cell? ⟨gb1186, 1, none⟩ = some (.int .i64 a0_1) := (blk_cell BK1186.out 1).trans rfl; have hcz5_2 : w4.cell? ⟨gb1186, 2, none⟩ = some (.int .i64 a0_2) := (blk_cell BK1186.out 2).trans rfl; have hcz5_3 : w4.cell? ⟨gb1186, 3, none⟩ = some (.int .i64 a0_3) := (blk_cell BK1186.out 3).trans rfl; have hcz5_4 : w4.cell? ⟨gb1186, 4, none⟩ = some (.int .i64 a0_4) := (blk_cell BK1186.out 4).trans rfl; have hcz5_5 : w4.cell? ⟨gb1186, 5, none⟩ = some (.int .i64 a0_5) := (blk_cell BK1186.out 5).trans rfl; have hcz5_6 : w4.cell? ⟨gb1186, 6, none⟩ = some (.int .i64 a0_6) := (blk_cell BK1186.out 6).trans rfl; have hcz5_7 : w4.cell? ⟨gb1186, 7, none⟩ = some (.int .i64 a0_7) := (blk_cell BK1186.out 7).trans rfl; have hcz5_8 : w4.cell? ⟨gb1186, 8, none⟩ = some (.int .i64 a0_8) := (blk_cell BK1186.out 8).trans rfl; have hfz5_0 := blk_frozen BK1186.out 0; have hfz5_1 := blk_frozen BK1186.out 1; have hfz5_2 := blk_frozen BK1186.out 2; have hfz5_3 := blk_frozen BK1186.out 3; have hfz5_4 := blk_frozen BK1186.out 4; have hfz5_5 := blk_frozen BK1186.out 5; have hfz5_6 := blk_frozen BK1186.out 6; have hfz5_7 := blk_frozen BK1186.out 7; have hfz5_8 := blk_frozen BK1186.out 8) | ((with_reducible refine gate_callee (f := 39) rfl ?_); refine goesL_ (some 9) rfl rfl Try.func39 (by kernel_rfl) rfl #[.agg #[.int .i64 a0_0, .int .i64 a0_1, .int .i64 a0_2, .int .i64 a0_3, .int .i64 a0_4, .int .i64 a0_5, .int .i64 a0_6, .int .i64 a0_7, .int .i64 a0_8]] rfl (by (try simp only [List.map_toArray, List.map_cons, List.map_nil]); first | done | rfl | (simp only [List.length_drop, List.length_take]; rfl)) ?_; (with_reducible refine (impl_ValidMachine.calls a0_0 a0_1 a0_2 a0_3 a0_4 a0_5 a0_6 a0_7 a0_8 true _ A2.out).mono ?_); rintro e w6 ⟨rfl, hb⟩; refine ⟨_, rfl, ?_⟩; have n0_ := Aside0.mk (blk_below (g := gb1186) (o := .cells #[.int .i64 a0_0, .int .i64 a0_1, .int .i64 a0_2, .int .i64 a0_3, .int .i64 a0_4, .int .i64 a0_5, .int .i64 a0_6, .int .i64 a0_7, .int .i64 a0_8] 58 (0, 0)) (by (with_reducible repeat (first | refine blk_drewN ?_ _ | refine blk_drew ?_ | refine blk_alloc ?_ _)); exact BK1186.out) hb); have n1_ := Aside0.mk (below_step (by repeat (first | (with_reducible first | exact HB.out | apply below_alloc | apply pw_below_drewN | apply below_drew1 | refine below_set ?_ GE1186.out) | exact HB.out)) hb); clear BK1186; clear HB; have BK1186 := n0_; have HB := n1_; clear n0_ n1_; (try clear hb); (try clear hb2); (try clear hk); (try clear hi)) | ((with_reducible refine gate_dst (N := 11) rfl ?_); refine Kd.R_lit (Kd.int .i64) _ 2 ?hg (N := 11) ?hd (xs := ([] : List Int)) (inner := []) (ok := fun _ => True) (okp := fun _ => True) ?hr ?hp (fun _ hk => hk) trivial (Below.refl _ _) (Nat.le_refl _) (by simp) ?_; (case hd => rfl); (case hg => rfl); (case hr => first | (go_simp; done) | (go_simp; rfl)); (case hp => exact (Reps.none _ _)); intro v1189 w7 ho8 hb hg_ hnew_; clear hg_ hnew_; (first | rw [← Ny1188.out] at ho8 | (simp only [Int.reduceToNat] at ho8; rw [← Ny1188.out] at ho8)); have n0_ := Aside0.mk (Kd.R_lower ho8 (below_size (by repeat (first | (with_reducible first | exact HB.out | apply below_alloc | apply pw_below_drewN | apply below_drew1 | refine below_set ?_ GE1186.out) | exact HB.out)))); have n1_ := Aside0.mk (blk_below (g := gb1186) (o := .cells #[.int .i64 a0_0, .int .i64 a0_1, .int .i64 a0_2, .int .i64 a0_3, .int .i64 a0_4, .int .i64 a0_5, .int .i64 a0_6, .int .i64 a0_7, .int .i64 a0_8] 58 (0, 0)) (by (with_reducible repeat (first | refine blk_drewN ?_ _ | refine blk_drew ?_ | refine blk_alloc ?_ _)); exact BK1186.out) hb); have n2_ := Aside0.mk (below_step (by repeat (first | (with_reducible first | exact HB.out | apply below_alloc | apply pw_below_drewN | apply below_drew1 | refine below_set ?_ GE1186.out) | exact HB.out)) hb); clear BK1186; clear HB; have HO1190 := n0_; have BK1186 := n1_; have HB := n2_; clear n0_ n1_ n2_; clear hb ho8))
    go_loopg [4, 12] k (fun kq v4 v12 w' => ∃ (x4_1 : List Int) (x12_1 : Int), v12 = .int .i64 x12_1 ∧ Aside0 (impl_FittingKeys.l0 kq x4_1 x12_1 a0_0 a0_1 a0_2 a0_3 a0_4 a0_5 a0_6 a0_7 a0_8 = some (r1, r2)) ∧ Aside0 (kq ≤ k) ∧ Aside0 (Kd.R (Kd.int .i64) 2 w' w.heap.size (fun _ => True) v4 x4_1) ∧ Aside0 (w'.heap[gb1186]? = some (.cells #[.int .i64 a0_0, .int .i64 a0_1, .int .i64 a0_2, .int .i64 a0_3, .int .i64 a0_4, .int .i64 a0_5, .int .i64 a0_6, .int .i64 a0_7, .int .i64 a0_8] 58 (0, 0))) ∧ Aside0 (Below w.heap.size w w'))
    case atStart => exact ⟨(y1188), (0), (by first | rfl | (simp; done) | (simp [*]; done)), H', ⟨Nat.le_refl _⟩, ⟨by (with_reducible repeat (first | apply Kd.R_alloc | apply Kd.R_drewN | apply Kd.R_drew)); exact HO1190.out⟩, ⟨by (with_reducible repeat (first | refine blk_drewN ?_ _ | refine blk_drew ?_ | refine blk_alloc ?_ _)); exact BK1186.out⟩, ⟨by repeat (first | (with_reducible first | exact HB.out | apply below_alloc | apply pw_below_drewN | apply below_drew1 | refine below_set ?_ GE1186.out) | exact HB.out)⟩⟩
    case round =>
      clear H'
      try clear p2
      try clear c3
      try clear c6
      try clear hcz5_0
      try clear hcz5_1
      try clear hcz5_2
      try clear hcz5_3
      try clear hcz5_4
      try clear hcz5_5
      try clear hcz5_6
      try clear hcz5_7
      try clear hcz5_8
      try clear hfz5_0
      try clear hfz5_1
      try clear hfz5_2
      try clear hfz5_3
      try clear hfz5_4
      try clear hfz5_5
      try clear hfz5_6
      try clear hfz5_7
      try clear hfz5_8
      obtain ⟨x4_1, x12_1, rfl, HA, HK1, HO_4, BK1186, HB⟩ := hrel
      cases gk with
      | zero => exact absurd HA.out (by simp [impl_FittingKeys.l0])
      | succ k1 =>
        have H := HA.out
        clear HA
        simp only [impl_FittingKeys.l0] at H
        by_cases c9 : x12_1 < 16
        · rw [if_pos c9] at H
          have c9b0 : decide (x12_1 < 16) = true := decide_eq_true c9
          clear c9
          replace H := Option.bind_eq_some_iff.mp H
          obtain ⟨⟨t1191, t1192, t1193, t1194, t1195, t1196, t1197, t1198, t1199, t1200⟩, A100, H⟩ := H
          replace H : (if t1200 = true then (if x4_1.length < 17592186044416 then (impl_FittingKeys.l0 k1 (x4_1 ++ [x12_1]) (wrap64 (x12_1 + 1)) a0_0 a0_1 a0_2 a0_3 a0_4 a0_5 a0_6 a0_7 a0_8) else (none)) else (impl_FittingKeys.l0 k1 x4_1 (wrap64 (x12_1 + 1)) a0_0 a0_1 a0_2 a0_3 a0_4 a0_5 a0_6 a0_7 a0_8)) = some (r1, r2) := H
          have A10 := Aside0.mk A100
          clear A100
          by_cases c11 : t1200 = true
          · subst c11
            have H1 : (if x4_1.length < 17592186044416 then (impl_FittingKeys.l0 k1 (x4_1 ++ [x12_1]) (wrap64 (x12_1 + 1)) a0_0 a0_1 a0_2 a0_3 a0_4 a0_5 a0_6 a0_7 a0_8) else (none)) = some (r1, r2) := by rw [if_pos rfl] at H; exact H
            clear H
            have H := H1
            clear H1
            by_cases c12 : x4_1.length < 17592186044416
            · rw [if_pos c12] at H
              have LMc12 := Aside0.mk c12
              clear c12
              obtain ⟨y1202, hy1202⟩ : ∃ y_ : List Int, y_ = (x4_1 ++ [x12_1]) := ⟨_, rfl⟩
              replace H : (impl_FittingKeys.l0 k1 y1202 (wrap64 (x12_1 + 1)) a0_0 a0_1 a0_2 a0_3 a0_4 a0_5 a0_6 a0_7 a0_8) = some (r1, r2) := by first | (rw [hy1202]; with_reducible exact H) | (have H2_ := (Option.bind_some _ _).symm.trans H; rw [hy1202]; with_reducible exact H2_) | (have H2_ := (Option.bind_some _ _).symm.trans H; with_reducible exact H2_) | with_reducible exact H | (rw [hy1202]; exact H) | exact H
              have Ny1202 := Aside0.mk hy1202
              clear hy1202
              have H' := Aside0.mk H
              clear H
              have hcz13_0 : wr.cell? ⟨gb1186, 0, none⟩ = some (.int .i64 a0_0) := (blk_cell BK1186.out 0).trans rfl
              have hcz13_1 : wr.cell? ⟨gb1186, 1, none⟩ = some (.int .i64 a0_1) := (blk_cell BK1186.out 1).trans rfl
              have hcz13_2 : wr.cell? ⟨gb1186, 2, none⟩ = some (.int .i64 a0_2) := (blk_cell BK1186.out 2).trans rfl
              have hcz13_3 : wr.cell? ⟨gb1186, 3, none⟩ = some (.int .i64 a0_3) := (blk_cell BK1186.out 3).trans rfl
              have hcz13_4 : wr.cell? ⟨gb1186, 4, none⟩ = some (.int .i64 a0_4) := (blk_cell BK1186.out 4).trans rfl
              have hcz13_5 : wr.cell? ⟨gb1186, 5, none⟩ = some (.int .i64 a0_5) := (blk_cell BK1186.out 5).trans rfl
              have hcz13_6 : wr.cell? ⟨gb1186, 6, none⟩ = some (.int .i64 a0_6) := (blk_cell BK1186.out 6).trans rfl
              have hcz13_7 : wr.cell? ⟨gb1186, 7, none⟩ = some (.int .i64 a0_7) := (blk_cell BK1186.out 7).trans rfl
              have hcz13_8 : wr.cell? ⟨gb1186, 8, none⟩ = some (.int .i64 a0_8) := (blk_cell BK1186.out 8).trans rfl
              have hfz13_0 := blk_frozen BK1186.out 0
              have hfz13_1 := blk_frozen BK1186.out 1
              have hfz13_2 := blk_frozen BK1186.out 2
              have hfz13_3 := blk_frozen BK1186.out 3
              have hfz13_4 := blk_frozen BK1186.out 4
              have hfz13_5 := blk_frozen BK1186.out 5
              have hfz13_6 := blk_frozen BK1186.out 6
              have hfz13_7 := blk_frozen BK1186.out 7
              have hfz13_8 := blk_frozen BK1186.out 8
              go_wp2_with (first | ((with_reducible refine gate_callee (f := 59) rfl ?_); refine goesL_ (some 19) rfl rfl Try.func59 (by kernel_rfl) rfl #[.agg #[.int .i64 a0_0, .int .i64 a0_1, .int .i64 a0_2, .int .i64 a0_3, .int .i64 a0_4, .int .i64 a0_5, .int .i64 a0_6, .int .i64 a0_7, .int .i64 a0_8], .agg #[.int .i64 1, .int .i64 x12_1]] rfl (by (try simp only [List.map_toArray, List.map_cons, List.map_nil]); first | done | rfl | (simp only [List.length_drop, List.length_take]; rfl)) ?_; (with_reducible refine (impl_BuildRing.calls k1 a0_0 a0_1 a0_2 a0_3 a0_4 a0_5 a0_6 a0_7 a0_8 1 x12_1 t1191 t1192 t1193 t1194 t1195 t1196 t1197 t1198 t1199 true _ A10.out).mono ?_); rintro e w14 ⟨rfl, hb⟩; refine ⟨_, rfl, ?_⟩; have n0_ := Aside0.mk (Kd.R_below (by (with_reducible repeat (first | apply Kd.R_alloc | apply Kd.R_drewN | apply Kd.R_drew)); exact HO_4.out) hb); have n1_ := Aside0.mk (blk_below (g := gb1186) (o := .cells #[.int .i64 a0_0, .int .i64 a0_1, .int .i64 a0_2, .int .i64 a0_3, .int .i64 a0_4, .int .i64 a0_5, .int .i64 a0_6, .int .i64 a0_7, .int .i64 a0_8] 58 (0, 0)) (by (with_reducible repeat (first | refine blk_drewN ?_ _ | refine blk_drew ?_ | refine blk_alloc ?_ _)); exact BK1186.out) hb); have n2_ := Aside0.mk (below_step (by repeat (first | (with_reducible first | exact HB.out | apply below_alloc | apply pw_below_drewN | apply below_drew1 | refine below_set ?_ GE1186.out) | exact HB.out)) hb); clear HO_4; clear BK1186; clear HB; have HO_4 := n0_; have BK1186 := n1_; have HB := n2_; clear n0_ n1_ n2_; (try clear hb); (try clear hb2); (try clear hk); (try clear hi)) | ((with_reducible refine gate_dst (N := 6) rfl ?_); refine box_event ?hg (N := 6) ?hd (cs := #[.int .i64 0, .int .i64 0, .int .i64 0, .int .i64 0, .int .i64 0, .int .i64 0, .int .i64 0, .int .i64 0, .int .i64 0]) (t := 58) ?hr ?_; (case hd => rfl); (case hg => rfl); (case hr => first | (go_simp; done) | (go_simp; rfl)); intro gb1201 hg w15 hbox hb; have n0_ := Aside0.mk (Kd.R_below (by (with_reducible repeat (first | apply Kd.R_alloc | apply Kd.R_drewN | apply Kd.R_drew)); exact HO_4.out) hb); have n1_ := Aside0.mk (blk_below (g := gb1186) (o := .cells #[.int .i64 a0_0, .int .i64 a0_1, .int .i64 a0_2, .int .i64 a0_3, .int .i64 a0_4, .int .i64 a0_5, .int .i64 a0_6, .int .i64 a0_7, .int .i64 a0_8] 58 (0, 0)) (by (with_reducible repeat (first | refine blk_drewN ?_ _ | refine blk_drew ?_ | refine blk_alloc ?_ _)); exact BK1186.out) hb); have n2_ := Aside0.mk (below_step (by repeat (first | (with_reducible first | exact HB.out | apply below_alloc | apply pw_below_drewN | apply below_drew1 | refine below_set ?_ GE1186.out) | exact HB.out)) hb); have n3_ := Aside0.mk (hbox); have n4_ := Aside0.mk ((by rw [hg]; exact (below_size (by repeat (first | (with_reducible first | exact HB.out | apply below_alloc | apply pw_below_drewN | apply below_drew1 | refine below_set ?_ GE1186.out) | exact HB.out))) : w.heap.size ≤ gb1201)); have n5_ := Aside0.mk ((by rw [hg]; exact (below_size (by repeat (first | (with_reducible first | exact HB.out | apply below_alloc | apply pw_below_drewN | apply below_drew1 | refine below_set ?_ GE1186.out) | exact HB.out))) : w.heap.size ≤ gb1201)); have n6_ := Aside0.mk ((by rw [hg]; exact Nat.ne_of_lt (blk_lt (g := gb1186) (o := .cells #[.int .i64 a0_0, .int .i64 a0_1, .int .i64 a0_2, .int .i64 a0_3, .int .i64 a0_4, .int .i64 a0_5, .int .i64 a0_6, .int .i64 a0_7, .int .i64 a0_8] 58 (0, 0)) (by (with_reducible repeat (first | refine blk_drewN ?_ _ | refine blk_drew ?_ | refine blk_alloc ?_ _)); exact BK1186.out)) : gb1186 ≠ gb1201)); have n7_ := Aside0.mk ((by rw [hg]; exact Nat.ne_of_gt (blk_lt (g := gb1186) (o := .cells #[.int .i64 a0_0, .int .i64 a0_1, .int .i64 a0_2, .int .i64 a0_3, .int .i64 a0_4, .int .i64 a0_5, .int .i64 a0_6, .int .i64 a0_7, .int .i64 a0_8] 58 (0, 0)) (by (with_reducible repeat (first | refine blk_drewN ?_ _ | refine blk_drew ?_ | refine blk_alloc ?_ _)); exact BK1186.out)) : gb1201 ≠ gb1186)); clear HO_4; clear BK1186; clear HB; have HO_4 := n0_; have BK1186 := n1_; have HB := n2_; have BK1201 := n3_; have GW1201 := n4_; have GE1201 := n5_; have NB1186_1201 := n6_; have NB1201_1186 := n7_; clear n0_ n1_ n2_ n3_ n4_ n5_ n6_ n7_; clear hb hbox hg; have hnb16 := NB1201_1186.out; have hnc16 := NB1186_1201.out; have hcz17_0 : w15.cell? ⟨gb1201, 0, none⟩ = some (.int .i64 0) := (blk_cell BK1201.out 0).trans rfl; have hcz17_1 : w15.cell? ⟨gb1201, 1, none⟩ = some (.int .i64 0) := (blk_cell BK1201.out 1).trans rfl; have hcz17_2 : w15.cell? ⟨gb1201, 2, none⟩ = some (.int .i64 0) := (blk_cell BK1201.out 2).trans rfl; have hcz17_3 : w15.cell? ⟨gb1201, 3, none⟩ = some (.int .i64 0) := (blk_cell BK1201.out 3).trans rfl; have hcz17_4 : w15.cell? ⟨gb1201, 4, none⟩ = some (.int .i64 0) := (blk_cell BK1201.out 4).trans rfl; have hcz17_5 : w15.cell? ⟨gb1201, 5, none⟩ = some (.int .i64 0) := (blk_cell BK1201.out 5).trans rfl; have hcz17_6 : w15.cell? ⟨gb1201, 6, none⟩ = some (.int .i64 0) := (blk_cell BK1201.out 6).trans rfl; have hcz17_7 : w15.cell? ⟨gb1201, 7, none⟩ = some (.int .i64 0) := (blk_cell BK1201.out 7).trans rfl; have hcz17_8 : w15.cell? ⟨gb1201, 8, none⟩ = some (.int .i64 0) := (blk_cell BK1201.out 8).trans rfl; have hfz17_0 := blk_frozen BK1201.out 0; have hfz17_1 := blk_frozen BK1201.out 1; have hfz17_2 := blk_frozen BK1201.out 2; have hfz17_3 := blk_frozen BK1201.out 3; have hfz17_4 := blk_frozen BK1201.out 4; have hfz17_5 := blk_frozen BK1201.out 5; have hfz17_6 := blk_frozen BK1201.out 6; have hfz17_7 := blk_frozen BK1201.out 7; have hfz17_8 := blk_frozen BK1201.out 8) | ((with_reducible refine gate_builtin (b := .append) (xs := #[.tmp 23, .tmp 25]) rfl ?_); at_builtin; refine Kd.R_append (Kd.int .i64) (w0 := w) w.heap.size rfl (.tmp 23) (.tmp 25) 51 2 (.int .i64 0) 8 rfl Try.underlying51 info2 rfl (by decide) (by omega) u4 x4_1 x12_1 [.int .i64 x12_1] (fun _ => True) (fun _ => False) rfl (by first | (go_simp; done) | (go_simp; rfl)) ?aP (fun _ hk => hk.elim) ?aF ?aO ?aB ?aS ?aL ?_; (case aP => exact rfl); (case aB => exact (by repeat (first | (with_reducible first | exact HB.out | apply below_alloc | apply pw_below_drewN | apply below_drew1 | refine below_set ?_ GE1186.out | refine below_set ?_ GE1201.out) | exact HB.out))); (case aF => exact (fun _ _ => trivial)); (case aO => exact (by (with_reducible repeat (first | apply Kd.R_alloc | apply Kd.R_drewN | apply Kd.R_drew)); exact Kd.R_mono (Kd.R_far (p := ⟨gb1201, 8, none⟩) (Kd.R_far (p := ⟨gb1201, 7, none⟩) (Kd.R_far (p := ⟨gb1201, 6, none⟩) (Kd.R_far (p := ⟨gb1201, 5, none⟩) (Kd.R_far (p := ⟨gb1201, 4, none⟩) (Kd.R_far (p := ⟨gb1201, 3, none⟩) (Kd.R_far (p := ⟨gb1201, 2, none⟩) (Kd.R_far (p := ⟨gb1201, 1, none⟩) (Kd.R_far (p := ⟨gb1201, 0, none⟩) (Kd.R_types HO_4.out BK1201.out (by decide)) (fun _ hk => hk.2) (.int .i64 t1191)) (fun _ hk => hk.2) (.int .i64 t1192)) (fun _ hk => hk.2) (.int .i64 t1193)) (fun _ hk => hk.2) (.int .i64 t1194)) (fun _ hk => hk.2) (.int .i64 t1195)) (fun _ hk => hk.2) (.int .i64 t1196)) (fun _ hk => hk.2) (.int .i64 t1197)) (fun _ hk => hk.2) (.int .i64 t1198)) (fun _ hk => hk.2) (.int .i64 t1199)) (fun _ hk => trivial))); (case aS => exact (below_size (by repeat (first | (with_reducible first | exact HB.out | apply below_alloc | apply pw_below_drewN | apply below_drew1 | refine below_set ?_ GE1186.out | refine below_set ?_ GE1201.out) | exact HB.out)))); (case aL => have := LMc12.out; omega); intro v1203 w18 ho hb hg hat; rw [← Ny1202.out] at ho; have n0_ := Aside0.mk (blk_grown (g := gb1186) (o := .cells #[.int .i64 a0_0, .int .i64 a0_1, .int .i64 a0_2, .int .i64 a0_3, .int .i64 a0_4, .int .i64 a0_5, .int .i64 a0_6, .int .i64 a0_7, .int .i64 a0_8] 58 (0, 0)) (by (with_reducible repeat (first | refine blk_drewN ?_ _ | refine blk_drew ?_ | refine blk_alloc ?_ _)); refine blk_far ?_ NB1186_1201.out _; (with_reducible repeat (first | refine blk_drewN ?_ _ | refine blk_drew ?_ | refine blk_alloc ?_ _)); refine blk_far ?_ NB1186_1201.out _; (with_reducible repeat (first | refine blk_drewN ?_ _ | refine blk_drew ?_ | refine blk_alloc ?_ _)); refine blk_far ?_ NB1186_1201.out _; (with_reducible repeat (first | refine blk_drewN ?_ _ | refine blk_drew ?_ | refine blk_alloc ?_ _)); refine blk_far ?_ NB1186_1201.out _; (with_reducible repeat (first | refine blk_drewN ?_ _ | refine blk_drew ?_ | refine blk_alloc ?_ _)); refine blk_far ?_ NB1186_1201.out _; (with_reducible repeat (first | refine blk_drewN ?_ _ | refine blk_drew ?_ | refine blk_alloc ?_ _)); refine blk_far ?_ NB1186_1201.out _; (with_reducible repeat (first | refine blk_drewN ?_ _ | refine blk_drew ?_ | refine blk_alloc ?_ _)); refine blk_far ?_ NB1186_1201.out _; (with_reducible repeat (first | refine blk_drewN ?_ _ | refine blk_drew ?_ | refine blk_alloc ?_ _)); refine blk_far ?_ NB1186_1201.out _; (with_reducible repeat (first | refine blk_drewN ?_ _ | refine blk_drew ?_ | refine blk_alloc ?_ _)); refine blk_far ?_ NB1186_1201.out _; (with_reducible repeat (first | refine blk_drewN ?_ _ | refine blk_drew ?_ | refine blk_alloc ?_ _)); exact BK1186.out) hg (Kd.R_ne HO_4.out BK1186.out (by decide))); have n1_ := Aside0.mk (blk_grown (g := gb1201) (o := .cells #[.int .i64 t1191, .int .i64 t1192, .int .i64 t1193, .int .i64 t1194, .int .i64 t1195, .int .i64 t1196, .int .i64 t1197, .int .i64 t1198, .int .i64 t1199] 58 (0, 0)) (by (with_reducible repeat (first | refine blk_drewN ?_ _ | refine blk_drew ?_ | refine blk_alloc ?_ _)); refine blk_put (cs := #[.int .i64 t1191, .int .i64 t1192, .int .i64 t1193, .int .i64 t1194, .int .i64 t1195, .int .i64 t1196, .int .i64 t1197, .int .i64 t1198, .int .i64 0]) ?_ 8 _ rfl; (with_reducible repeat (first | refine blk_drewN ?_ _ | refine blk_drew ?_ | refine blk_alloc ?_ _)); refine blk_put (cs := #[.int .i64 t1191, .int .i64 t1192, .int .i64 t1193, .int .i64 t1194, .int .i64 t1195, .int .i64 t1196, .int .i64 t1197, .int .i64 0, .int .i64 0]) ?_ 7 _ rfl; (with_reducible repeat (first | refine blk_drewN ?_ _ | refine blk_drew ?_ | refine blk_alloc ?_ _)); refine blk_put (cs := #[.int .i64 t1191, .int .i64 t1192, .int .i64 t1193, .int .i64 t1194, .int .i64 t1195, .int .i64 t1196, .int .i64 0, .int .i64 0, .int .i64 0]) ?_ 6 _ rfl; (with_reducible repeat (first | refine blk_drewN ?_ _ | refine blk_drew ?_ | refine blk_alloc ?_ _)); refine blk_put (cs := #[.int .i64 t1191, .int .i64 t1192, .int .i64 t1193, .int .i64 t1194, .int .i64 t1195, .int .i64 0, .int .i64 0, .int .i64 0, .int .i64 0]) ?_ 5 _ rfl; (with_reducible repeat (first | refine blk_drewN ?_ _ | refine blk_drew ?_ | refine blk_alloc ?_ _)); refine blk_put (cs := #[.int .i64 t1191, .int .i64 t1192, .int .i64 t1193, .int .i64 t1194, .int .i64 0, .int .i64 0, .int .i64 0, .int .i64 0, .int .i64 0]) ?_ 4 _ rfl; (with_reducible repeat (first | refine blk_drewN ?_ _ | refine blk_drew ?_ | refine blk_alloc ?_ _)); refine blk_put (cs := #[.int .i64 t1191, .int .i64 t1192, .int .i64 t1193, .int .i64 0, .int .i64 0, .int .i64 0, .int .i64 0, .int .i64 0, .int .i64 0]) ?_ 3 _ rfl; (with_reducible repeat (first | refine blk_drewN ?_ _ | refine blk_drew ?_ | refine blk_alloc ?_ _)); refine blk_put (cs := #[.int .i64 t1191, .int .i64 t1192, .int .i64 0, .int .i64 0, .int .i64 0, .int .i64 0, .int .i64 0, .int .i64 0, .int .i64 0]) ?_ 2 _ rfl; (with_reducible repeat (first | refine blk_drewN ?_ _ | refine blk_drew ?_ | refine blk_alloc ?_ _)); refine blk_put (cs := #[.int .i64 t1191, .int .i64 0, .int .i64 0, .int .i64 0, .int .i64 0, .int .i64 0, .int .i64 0, .int .i64 0, .int .i64 0]) ?_ 1 _ rfl; (with_reducible repeat (first | refine blk_drewN ?_ _ | refine blk_drew ?_ | refine blk_alloc ?_ _)); refine blk_put (cs := #[.int .i64 0, .int .i64 0, .int .i64 0, .int .i64 0, .int .i64 0, .int .i64 0, .int .i64 0, .int .i64 0, .int .i64 0]) ?_ 0 _ rfl; (with_reducible repeat (first | refine blk_drewN ?_ _ | refine blk_drew ?_ | refine blk_alloc ?_ _)); exact BK1201.out) hg (Kd.R_ne HO_4.out BK1201.out (by decide))); have n2_ := Aside0.mk (hb); have n3_ := Aside0.mk (ho); clear BK1186; clear BK1201; clear HB; clear HO_4; have BK1186 := n0_; have BK1201 := n1_; have HB := n2_; have HO1204 := n3_; clear n0_ n1_ n2_ n3_; clear ho hb hg hat))
              go_roundg k1
              case measure => have := HK1.out; omega
              case rel => exact ⟨(y1202), (wrap64 (x12_1 + 1)), (by first | rfl | (simp; done) | (simp [*]; done)), H', ⟨by have := HK1.out; omega⟩, ⟨by (with_reducible repeat (first | apply Kd.R_alloc | apply Kd.R_drewN | apply Kd.R_drew)); exact HO1204.out⟩, ⟨by (with_reducible repeat (first | refine blk_drewN ?_ _ | refine blk_drew ?_ | refine blk_alloc ?_ _)); exact BK1186.out⟩, ⟨by repeat (first | (with_reducible first | exact HB.out | apply below_alloc | apply pw_below_drewN | apply below_drew1 | refine below_set ?_ GE1186.out | refine below_set ?_ GE1201.out) | exact HB.out)⟩⟩
            · rw [if_neg c12] at H
              exact absurd H (by simp)
          · replace c11 := Bool.eq_false_iff.mpr c11
            subst c11
            have H1 : (impl_FittingKeys.l0 k1 x4_1 (wrap64 (x12_1 + 1)) a0_0 a0_1 a0_2 a0_3 a0_4 a0_5 a0_6 a0_7 a0_8) = some (r1, r2) := by rw [if_neg (show ¬ (false = true) by decide)] at H; exact H
            clear H
            have H := H1
            clear H1
            have H' := Aside0.mk H
            clear H
            have hcz19_0 : wr.cell? ⟨gb1186, 0, none⟩ = some (.int .i64 a0_0) := (blk_cell BK1186.out 0).trans rfl
            have hcz19_1 : wr.cell? ⟨gb1186, 1, none⟩ = some (.int .i64 a0_1) := (blk_cell BK1186.out 1).trans rfl
            have hcz19_2 : wr.cell? ⟨gb1186, 2, none⟩ = some (.int .i64 a0_2) := (blk_cell BK1186.out 2).trans rfl
            have hcz19_3 : wr.cell? ⟨gb1186, 3, none⟩ = some (.int .i64 a0_3) := (blk_cell BK1186.out 3).trans rfl
            have hcz19_4 : wr.cell? ⟨gb1186, 4, none⟩ = some (.int .i64 a0_4) := (blk_cell BK1186.out 4).trans rfl
            have hcz19_5 : wr.cell? ⟨gb1186, 5, none⟩ = some (.int .i64 a0_5) := (blk_cell BK1186.out 5).trans rfl
            have hcz19_6 : wr.cell? ⟨gb1186, 6, none⟩ = some (.int .i64 a0_6) := (blk_cell BK1186.out 6).trans rfl
            have hcz19_7 : wr.cell? ⟨gb1186, 7, none⟩ = some (.int .i64 a0_7) := (blk_cell BK1186.out 7).trans rfl
            have hcz19_8 : wr.cell? ⟨gb1186, 8, none⟩ = some (.int .i64 a0_8) := (blk_cell BK1186.out 8).trans rfl
            have hfz19_0 := blk_frozen BK1186.out 0
            have hfz19_1 := blk_frozen BK1186.out 1
            have hfz19_2 := blk_frozen BK1186.out 2
            have hfz19_3 := blk_frozen BK1186.out 3
            have hfz19_4 := blk_frozen BK1186.out 4
            have hfz19_5 := blk_frozen BK1186.out 5
            have hfz19_6 := blk_frozen BK1186.out 6
            have hfz19_7 := blk_frozen BK1186.out 7
            have hfz19_8 := blk_frozen BK1186.out 8
            go_wp2_with (first | ((with_reducible refine gate_callee (f := 59) rfl ?_); refine goesL_ (some 19) rfl rfl Try.func59 (by kernel_rfl) rfl #[.agg #[.int .i64 a0_0, .int .i64 a0_1, .int .i64 a0_2, .int .i64 a0_3, .int .i64 a0_4, .int .i64 a0_5, .int .i64 a0_6, .int .i64 a0_7, .int .i64 a0_8], .agg #[.int .i64 1, .int .i64 x12_1]] rfl (by (try simp only [List.map_toArray, List.map_cons, List.map_nil]); first | done | rfl | (simp only [List.length_drop, List.length_take]; rfl)) ?_; (with_reducible refine (impl_BuildRing.calls k1 a0_0 a0_1 a0_2 a0_3 a0_4 a0_5 a0_6 a0_7 a0_8 1 x12_1 t1191 t1192 t1193 t1194 t1195 t1196 t1197 t1198 t1199 false _ A10.out).mono ?_); rintro e w20 ⟨rfl, hb⟩; refine ⟨_, rfl, ?_⟩; have n0_ := Aside0.mk (Kd.R_below (by (with_reducible repeat (first | apply Kd.R_alloc | apply Kd.R_drewN | apply Kd.R_drew)); exact HO_4.out) hb); have n1_ := Aside0.mk (blk_below (g := gb1186) (o := .cells #[.int .i64 a0_0, .int .i64 a0_1, .int .i64 a0_2, .int .i64 a0_3, .int .i64 a0_4, .int .i64 a0_5, .int .i64 a0_6, .int .i64 a0_7, .int .i64 a0_8] 58 (0, 0)) (by (with_reducible repeat (first | refine blk_drewN ?_ _ | refine blk_drew ?_ | refine blk_alloc ?_ _)); exact BK1186.out) hb); have n2_ := Aside0.mk (below_step (by repeat (first | (with_reducible first | exact HB.out | apply below_alloc | apply pw_below_drewN | apply below_drew1 | refine below_set ?_ GE1186.out) | exact HB.out)) hb); clear HO_4; clear BK1186; clear HB; have HO_4 := n0_; have BK1186 := n1_; have HB := n2_; clear n0_ n1_ n2_; (try clear hb); (try clear hb2); (try clear hk); (try clear hi)) | ((with_reducible refine gate_dst (N := 6) rfl ?_); refine box_event ?hg (N := 6) ?hd (cs := #[.int .i64 0, .int .i64 0, .int .i64 0, .int .i64 0, .int .i64 0, .int .i64 0, .int .i64 0, .int .i64 0, .int .i64 0]) (t := 58) ?hr ?_; (case hd => rfl); (case hg => rfl); (case hr => first | (go_simp; done) | (go_simp; rfl)); intro gb1201 hg w21 hbox hb; have n0_ := Aside0.mk (Kd.R_below (by (with_reducible repeat (first | apply Kd.R_alloc | apply Kd.R_drewN | apply Kd.R_drew)); exact HO_4.out) hb); have n1_ := Aside0.mk (blk_below (g := gb1186) (o := .cells #[.int .i64 a0_0, .int .i64 a0_1, .int .i64 a0_2, .int .i64 a0_3, .int .i64 a0_4, .int .i64 a0_5, .int .i64 a0_6, .int .i64 a0_7, .int .i64 a0_8] 58 (0, 0)) (by (with_reducible repeat (first | refine blk_drewN ?_ _ | refine blk_drew ?_ | refine blk_alloc ?_ _)); exact BK1186.out) hb); have n2_ := Aside0.mk (below_step (by repeat (first | (with_reducible first | exact HB.out | apply below_alloc | apply pw_below_drewN | apply below_drew1 | refine below_set ?_ GE1186.out) | exact HB.out)) hb); have n3_ := Aside0.mk (hbox); have n4_ := Aside0.mk ((by rw [hg]; exact (below_size (by repeat (first | (with_reducible first | exact HB.out | apply below_alloc | apply pw_below_drewN | apply below_drew1 | refine below_set ?_ GE1186.out) | exact HB.out))) : w.heap.size ≤ gb1201)); have n5_ := Aside0.mk ((by rw [hg]; exact (below_size (by repeat (first | (with_reducible first | exact HB.out | apply below_alloc | apply pw_below_drewN | apply below_drew1 | refine below_set ?_ GE1186.out) | exact HB.out))) : w.heap.size ≤ gb1201)); have n6_ := Aside0.mk ((by rw [hg]; exact Nat.ne_of_lt (blk_lt (g := gb1186) (o := .cells #[.int .i64 a0_0, .int .i64 a0_1, .int .i64 a0_2, .int .i64 a0_3, .int .i64 a0_4, .int .i64 a0_5, .int .i64 a0_6, .int .i64 a0_7, .int .i64 a0_8] 58 (0, 0)) (by (with_reducible repeat (first | refine blk_drewN ?_ _ | refine blk_drew ?_ | refine blk_alloc ?_ _)); exact BK1186.out)) : gb1186 ≠ gb1201)); have n7_ := Aside0.mk ((by rw [hg]; exact Nat.ne_of_gt (blk_lt (g := gb1186) (o := .cells #[.int .i64 a0_0, .int .i64 a0_1, .int .i64 a0_2, .int .i64 a0_3, .int .i64 a0_4, .int .i64 a0_5, .int .i64 a0_6, .int .i64 a0_7, .int .i64 a0_8] 58 (0, 0)) (by (with_reducible repeat (first | refine blk_drewN ?_ _ | refine blk_drew ?_ | refine blk_alloc ?_ _)); exact BK1186.out)) : gb1201 ≠ gb1186)); clear HO_4; clear BK1186; clear HB; have HO_4 := n0_; have BK1186 := n1_; have HB := n2_; have BK1201 := n3_; have GW1201 := n4_; have GE1201 := n5_; have NB1186_1201 := n6_; have NB1201_1186 := n7_; clear n0_ n1_ n2_ n3_ n4_ n5_ n6_ n7_; clear hb hbox hg; have hnb22 := NB1201_1186.out; have hnc22 := NB1186_1201.out; have hcz23_0 : w21.cell? ⟨gb1201, 0, none⟩ = some (.int .i64 0) := (blk_cell BK1201.out 0).trans rfl; have hcz23_1 : w21.cell? ⟨gb1201, 1, none⟩ = some (.int .i64 0) := (blk_cell BK1201.out 1).trans rfl; have hcz23_2 : w21.cell? ⟨gb1201, 2, none⟩ = some (.int .i64 0) := (blk_cell BK1201.out 2).trans rfl; have hcz23_3 : w21.cell? ⟨gb1201, 3, none⟩ = some (.int .i64 0) := (blk_cell BK1201.out 3).trans rfl; have hcz23_4 : w21.cell? ⟨gb1201, 4, none⟩ = some (.int .i64 0) := (blk_cell BK1201.out 4).trans rfl; have hcz23_5 : w21.cell? ⟨gb1201, 5, none⟩ = some (.int .i64 0) := (blk_cell BK1201.out 5).trans rfl; have hcz23_6 : w21.cell? ⟨gb1201, 6, none⟩ = some (.int .i64 0) := (blk_cell BK1201.out 6).trans rfl; have hcz23_7 : w21.cell? ⟨gb1201, 7, none⟩ = some (.int .i64 0) := (blk_cell BK1201.out 7).trans rfl; have hcz23_8 : w21.cell? ⟨gb1201, 8, none⟩ = some (.int .i64 0) := (blk_cell BK1201.out 8).trans rfl; have hfz23_0 := blk_frozen BK1201.out 0; have hfz23_1 := blk_frozen BK1201.out 1; have hfz23_2 := blk_frozen BK1201.out 2; have hfz23_3 := blk_frozen BK1201.out 3; have hfz23_4 := blk_frozen BK1201.out 4; have hfz23_5 := blk_frozen BK1201.out 5; have hfz23_6 := blk_frozen BK1201.out 6; have hfz23_7 := blk_frozen BK1201.out 7; have hfz23_8 := blk_frozen BK1201.out 8))
            go_roundg k1
            case measure => have := HK1.out; omega
            case rel => exact ⟨(x4_1), (wrap64 (x12_1 + 1)), (by first | rfl | (simp; done) | (simp [*]; done)), H', ⟨by have := HK1.out; omega⟩, ⟨by (with_reducible repeat (first | apply Kd.R_alloc | apply Kd.R_drewN | apply Kd.R_drew)); exact Kd.R_mono (Kd.R_far (p := ⟨gb1201, 8, none⟩) (Kd.R_far (p := ⟨gb1201, 7, none⟩) (Kd.R_far (p := ⟨gb1201, 6, none⟩) (Kd.R_far (p := ⟨gb1201, 5, none⟩) (Kd.R_far (p := ⟨gb1201, 4, none⟩) (Kd.R_far (p := ⟨gb1201, 3, none⟩) (Kd.R_far (p := ⟨gb1201, 2, none⟩) (Kd.R_far (p := ⟨gb1201, 1, none⟩) (Kd.R_far (p := ⟨gb1201, 0, none⟩) (Kd.R_types HO_4.out BK1201.out (by decide)) (fun _ hk => hk.2) (.int .i64 t1191)) (fun _ hk => hk.2) (.int .i64 t1192)) (fun _ hk => hk.2) (.int .i64 t1193)) (fun _ hk => hk.2) (.int .i64 t1194)) (fun _ hk => hk.2) (.int .i64 t1195)) (fun _ hk => hk.2) (.int .i64 t1196)) (fun _ hk => hk.2) (.int .i64 t1197)) (fun _ hk => hk.2) (.int .i64 t1198)) (fun _ hk => hk.2) (.int .i64 t1199)) (fun _ hk => trivial)⟩, ⟨by (with_reducible repeat (first | refine blk_drewN ?_ _ | refine blk_drew ?_ | refine blk_alloc ?_ _)); refine blk_far ?_ NB1186_1201.out _; (with_reducible repeat (first | refine blk_drewN ?_ _ | refine blk_drew ?_ | refine blk_alloc ?_ _)); refine blk_far ?_ NB1186_1201.out _; (with_reducible repeat (first | refine blk_drewN ?_ _ | refine blk_drew ?_ | refine blk_alloc ?_ _)); refine blk_far ?_ NB1186_1201.out _; (with_reducible repeat (first | refine blk_drewN ?_ _ | refine blk_drew ?_ | refine blk_alloc ?_ _)); refine blk_far ?_ NB1186_1201.out _; (with_reducible repeat (first | refine blk_drewN ?_ _ | refine blk_drew ?_ | refine blk_alloc ?_ _)); refine blk_far ?_ NB1186_1201.out _; (with_reducible repeat (first | refine blk_drewN ?_ _ | refine blk_drew ?_ | refine blk_alloc ?_ _)); refine blk_far ?_ NB1186_1201.out _; (with_reducible repeat (first | refine blk_drewN ?_ _ | refine blk_drew ?_ | refine blk_alloc ?_ _)); refine blk_far ?_ NB1186_1201.out _; (with_reducible repeat (first | refine blk_drewN ?_ _ | refine blk_drew ?_ | refine blk_alloc ?_ _)); refine blk_far ?_ NB1186_1201.out _; (with_reducible repeat (first | refine blk_drewN ?_ _ | refine blk_drew ?_ | refine blk_alloc ?_ _)); refine blk_far ?_ NB1186_1201.out _; (with_reducible repeat (first | refine blk_drewN ?_ _ | refine blk_drew ?_ | refine blk_alloc ?_ _)); exact BK1186.out⟩, ⟨by repeat (first | (with_reducible first | exact HB.out | apply below_alloc | apply pw_below_drewN | apply below_drew1 | refine below_set ?_ GE1186.out | refine below_set ?_ GE1201.out) | exact HB.out)⟩⟩
        · rw [if_neg c9] at H
          have c9b0 : decide (x12_1 < 16) = false := decide_eq_false c9
          clear c9
          simp only [Option.some.injEq, Prod.mk.injEq] at H
          obtain ⟨rfl, rfl⟩ := H
          go_wp2
          go_ret2
          exact ⟨_, by first | rfl | (simp [errW_none, errW_some] <;> rfl) | (simp [*, errW_none, errW_some] <;> rfl), by (with_reducible repeat (first | apply Kd.R_alloc | apply Kd.R_drewN | apply Kd.R_drew)); exact HO_4.out, by repeat (first | (with_reducible first | exact HB.out | apply below_alloc | apply pw_below_drewN | apply below_drew1 | refine below_set ?_ GE1186.out) | exact HB.out)⟩
  · replace c3 := Bool.eq_false_iff.mpr c3
    subst c3
    have H1 : (some (([] : List Int), false)) = some (r1, r2) := by rw [if_neg (show ¬ (false = true) by decide)] at H; exact H
    clear H
    have H := H1
    clear H1
    simp only [Option.some.injEq, Prod.mk.injEq] at H
    obtain ⟨rfl, rfl⟩ := H
    go_enter Try.func64, Try.ntmps64
    go_wp2_with (first | ((with_reducible refine gate_dst (N := 1) rfl ?_); refine box_event ?hg (N := 1) ?hd (cs := #[.int .i64 a0_0, .int .i64 a0_1, .int .i64 a0_2, .int .i64 a0_3, .int .i64 a0_4, .int .i64 a0_5, .int .i64 a0_6, .int .i64 a0_7, .int .i64 a0_8]) (t := 58) ?hr ?_; (case hd => rfl); (case hg => rfl); (case hr => first | (go_simp; done) | (go_simp; rfl)); intro gb1186 hg w24 hbox hb; have n0_ := Aside0.mk (below_step (by repeat (first | (with_reducible first | exact HB.out | apply below_alloc | apply pw_below_drewN | apply below_drew1) | exact HB.out)) hb); have n1_ := Aside0.mk (hbox); have n2_ := Aside0.mk ((by rw [hg]; exact (below_size (by repeat (first | (with_reducible first | exact HB.out | apply below_alloc | apply pw_below_drewN | apply below_drew1) | exact HB.out))) : w.heap.size ≤ gb1186)); have n3_ := Aside0.mk ((by rw [hg]; exact (below_size (by repeat (first | (with_reducible first | exact HB.out | apply below_alloc | apply pw_below_drewN | apply below_drew1) | exact HB.out))) : w.heap.size ≤ gb1186)); clear HB; have HB := n0_; have BK1186 := n1_; have GW1186 := n2_; have GE1186 := n3_; clear n0_ n1_ n2_ n3_; clear hb hbox hg; have hcz25_0 : w24.cell? ⟨gb1186, 0, none⟩ = some (.int .i64 a0_0) := (blk_cell BK1186.out 0).trans rfl; have hcz25_1 : w24.cell? ⟨gb1186, 1, none⟩ = some (.int .i64 a0_1) := (blk_cell BK1186.out 1).trans rfl; have hcz25_2 : w24.cell? ⟨gb1186, 2, none⟩ = some (.int .i64 a0_2) := (blk_cell BK1186.out 2).trans rfl; have hcz25_3 : w24.cell? ⟨gb1186, 3, none⟩ = some (.int .i64 a0_3) := (blk_cell BK1186.out 3).trans rfl; have hcz25_4 : w24.cell? ⟨gb1186, 4, none⟩ = some (.int .i64 a0_4) := (blk_cell BK1186.out 4).trans rfl; have hcz25_5 : w24.cell? ⟨gb1186, 5, none⟩ = some (.int .i64 a0_5) := (blk_cell BK1186.out 5).trans rfl; have hcz25_6 : w24.cell? ⟨gb1186, 6, none⟩ = some (.int .i64 a0_6) := (blk_cell BK1186.out 6).trans rfl; have hcz25_7 : w24.cell? ⟨gb1186, 7, none⟩ = some (.int .i64 a0_7) := (blk_cell BK1186.out 7).trans rfl; have hcz25_8 : w24.cell? ⟨gb1186, 8, none⟩ = some (.int .i64 a0_8) := (blk_cell BK1186.out 8).trans rfl; have hfz25_0 := blk_frozen BK1186.out 0; have hfz25_1 := blk_frozen BK1186.out 1; have hfz25_2 := blk_frozen BK1186.out 2; have hfz25_3 := blk_frozen BK1186.out 3; have hfz25_4 := blk_frozen BK1186.out 4; have hfz25_5 := blk_frozen BK1186.out 5; have hfz25_6 := blk_frozen BK1186.out 6; have hfz25_7 := blk_frozen BK1186.out 7; have hfz25_8 := blk_frozen BK1186.out 8) | ((with_reducible refine gate_callee (f := 39) rfl ?_); refine goesL_ (some 9) rfl rfl Try.func39 (by kernel_rfl) rfl #[.agg #[.int .i64 a0_0, .int .i64 a0_1, .int .i64 a0_2, .int .i64 a0_3, .int .i64 a0_4, .int .i64 a0_5, .int .i64 a0_6, .int .i64 a0_7, .int .i64 a0_8]] rfl (by (try simp only [List.map_toArray, List.map_cons, List.map_nil]); first | done | rfl | (simp only [List.length_drop, List.length_take]; rfl)) ?_; (with_reducible refine (impl_ValidMachine.calls a0_0 a0_1 a0_2 a0_3 a0_4 a0_5 a0_6 a0_7 a0_8 false _ A2.out).mono ?_); rintro e w26 ⟨rfl, hb⟩; refine ⟨_, rfl, ?_⟩; have n0_ := Aside0.mk (blk_below (g := gb1186) (o := .cells #[.int .i64 a0_0, .int .i64 a0_1, .int .i64 a0_2, .int .i64 a0_3, .int .i64 a0_4, .int .i64 a0_5, .int .i64 a0_6, .int .i64 a0_7, .int .i64 a0_8] 58 (0, 0)) (by (with_reducible repeat (first | refine blk_drewN ?_ _ | refine blk_drew ?_ | refine blk_alloc ?_ _)); exact BK1186.out) hb); have n1_ := Aside0.mk (below_step (by repeat (first | (with_reducible first | exact HB.out | apply below_alloc | apply pw_below_drewN | apply below_drew1 | refine below_set ?_ GE1186.out) | exact HB.out)) hb); clear BK1186; clear HB; have BK1186 := n0_; have HB := n1_; clear n0_ n1_; (try clear hb); (try clear hb2); (try clear hk); (try clear hi)))
    go_ret2
    exact ⟨_, by first | rfl | (simp [errW_none, errW_some] <;> rfl) | (simp [*, errW_none, errW_some] <;> rfl), by first | exact Kd.R_nil _ _ _ _ _ | exact Kd.N_nil _ _ _ _ _ | exact Kd.V_nil _ _ _ _ _ | exact Kd.Q_nil _ _ _ _ _ | exact Kd.S_nil _ _ _ _ _, by repeat (first | (with_reducible first | exact HB.out | apply below_alloc | apply pw_below_drewN | apply below_drew1 | refine below_set ?_ GE1186.out) | exact HB.out)⟩

/-! ### laws_FnExactFittingKeys: function 19 -/
mutual
def laws_FnExactFittingKeys.j0 : Nat → List Int → Bool → List Int → Bool → Int → Int → Int → Int → Int → Int → Int → Int → Int → Option (Bool)
  | 0, _, _, _, _, _, _, _, _, _, _, _, _, _ => none
  | k + 1, x3, x4, x5, x31, x1206000, x1206001, x1206002, x1206003, x1206004, x1206005, x1206006, x1206007, x1206008 => if x31 = true then (some false) else ((laws_markInt64S.f k x5 1).bind fun bt1233 => ((laws_heldInt64S.f k bt1233.2 1).bind fun t1235 => (if t1235 < 0 then (some false) else (if t1235 = bt1233.1 then ((laws_toMachine.f x1206000 x1206001 x1206002 x1206003 x1206004 x1206005 x1206006 x1206007 x1206008).bind fun bt1236 => ((impl_FittingKeys.f k bt1236.1 bt1236.2.1 bt1236.2.2.1 bt1236.2.2.2.1 bt1236.2.2.2.2.1 bt1236.2.2.2.2.2.1 bt1236.2.2.2.2.2.2.1 bt1236.2.2.2.2.2.2.2.1 bt1236.2.2.2.2.2.2.2.2).bind fun bt1245 => ((laws_eqInt64S.f k bt1245.1 x3).bind fun t1249 => (if t1249 = true then (laws_FnExactFittingKeys.j1 k bt1233.2 bt1233.1 (bt1245.2 != x4)) else (laws_FnExactFittingKeys.j1 k bt1233.2 bt1233.1 true))))) else (some false)))))
def laws_FnExactFittingKeys.j1 : Nat → List Int → Int → Bool → Option (Bool)
  | 0, _, _, _ => none
  | k + 1, x5, x7, x57 => if x57 = true then (some false) else ((laws_heldInt64S.f k x5 1).bind fun t1250 => (if t1250 < 0 then (some false) else (if t1250 = x7 then (some true) else (some false))))
end
def laws_FnExactFittingKeys.f (k : Nat) (a0_0 : Int) (a0_1 : Int) (a0_2 : Int) (a0_3 : Int) (a0_4 : Int) (a0_5 : Int) (a0_6 : Int) (a0_7 : Int) (a0_8 : Int) : Option (Bool) := (laws_toMachine.f a0_0 a0_1 a0_2 a0_3 a0_4 a0_5 a0_6 a0_7 a0_8).bind fun bt1206 => ((spec_FittingKeys.f k bt1206.1 bt1206.2.1 bt1206.2.2.1 bt1206.2.2.2.1 bt1206.2.2.2.2.1 bt1206.2.2.2.2.2.1 bt1206.2.2.2.2.2.2.1 bt1206.2.2.2.2.2.2.2.1 bt1206.2.2.2.2.2.2.2.2).bind fun bt1215 => ((laws_toMachine.f a0_0 a0_1 a0_2 a0_3 a0_4 a0_5 a0_6 a0_7 a0_8).bind fun bt1219 => ((impl_FittingKeys.f k bt1219.1 bt1219.2.1 bt1219.2.2.1 bt1219.2.2.2.1 bt1219.2.2.2.2.1 bt1219.2.2.2.2.2.1 bt1219.2.2.2.2.2.2.1 bt1219.2.2.2.2.2.2.2.1 bt1219.2.2.2.2.2.2.2.2).bind fun bt1228 => ((laws_eqInt64S.f k bt1228.1 bt1215.1).bind fun t1232 => (if t1232 = true then (laws_FnExactFittingKeys.j0 k bt1215.1 bt1215.2 bt1228.1 (bt1228.2 != bt1215.2) a0_0 a0_1 a0_2 a0_3 a0_4 a0_5 a0_6 a0_7 a0_8) else (laws_FnExactFittingKeys.j0 k bt1215.1 bt1215.2 bt1228.1 true a0_0 a0_1 a0_2 a0_3 a0_4 a0_5 a0_6 a0_7 a0_8))))))
theorem laws_FnExactFittingKeys.mono_l : ∀ k, (∀ y0 y1 y2 y3 y4 y5 y6 y7 y8 y9 y10 y11 y12, LeO (laws_FnExactFittingKeys.j0 k y0 y1 y2 y3 y4 y5 y6 y7 y8 y9 y10 y11 y12) (laws_FnExactFittingKeys.j0 (k + 1) y0 y1 y2 y3 y4 y5 y6 y7 y8 y9 y10 y11 y12)) ∧ (∀ y0 y1 y2, LeO (laws_FnExactFittingKeys.j1 k y0 y1 y2) (laws_FnExactFittingKeys.j1 (k + 1) y0 y1 y2))
  | 0 => ⟨fun _ _ _ _ _ _ _ _ _ _ _ _ _ r h => by simp [laws_FnExactFittingKeys.j0] at h, fun _ _ _ r h => by simp [laws_FnExactFittingKeys.j1] at h⟩
  | k + 1 => by
    obtain ⟨ih0, ih1⟩ := laws_FnExactFittingKeys.mono_l k
    refine ⟨?_, ?_⟩
    · intro y0 y1 y2 y3 y4 y5 y6 y7 y8 y9 y10 y11 y12
      unfold laws_FnExactFittingKeys.j0
      repeat' first
      | (with_reducible exact ih0 _ _ _ _ _ _ _ _ _ _ _ _ _)
      | (with_reducible exact ih1 _ _ _)
      | (with_reducible exact impl_FittingKeys.mono _ _ _ _ _ _ _ _ _ _)
      | (with_reducible exact laws_eqInt64S.mono _ _ _)
      | (with_reducible exact laws_heldInt64S.mono _ _ _)
      | (with_reducible exact laws_markInt64S.mono _ _ _)
      | (with_reducible exact spec_FittingKeys.mono _ _ _ _ _ _ _ _ _ _)
      | (with_reducible exact LeO.refl _)
      | (with_reducible exact LeO.none _)
      | (with_reducible refine LeO.ite ?_ ?_)
      | (with_reducible refine LeO.bind ?_ (fun _ => ?_))
      | exact ih0 _ _ _ _ _ _ _ _ _ _ _ _ _
      | exact ih1 _ _ _
      | exact impl_FittingKeys.mono _ _ _ _ _ _ _ _ _ _
      | exact laws_eqInt64S.mono _ _ _
      | exact laws_heldInt64S.mono _ _ _
      | exact laws_markInt64S.mono _ _ _
      | exact spec_FittingKeys.mono _ _ _ _ _ _ _ _ _ _
      | exact LeO.none _
      | refine LeO.ite ?_ ?_
      | refine LeO.bind ?_ (fun _ => ?_)
    · intro y0 y1 y2
      unfold laws_FnExactFittingKeys.j1
      repeat' first
      | (with_reducible exact ih0 _ _ _ _ _ _ _ _ _ _ _ _ _)
      | (with_reducible exact ih1 _ _ _)
      | (with_reducible exact impl_FittingKeys.mono _ _ _ _ _ _ _ _ _ _)
      | (with_reducible exact laws_eqInt64S.mono _ _ _)
      | (with_reducible exact laws_heldInt64S.mono _ _ _)
      | (with_reducible exact laws_markInt64S.mono _ _ _)
      | (with_reducible exact spec_FittingKeys.mono _ _ _ _ _ _ _ _ _ _)
      | (with_reducible exact LeO.refl _)
      | (with_reducible exact LeO.none _)
      | (with_reducible refine LeO.ite ?_ ?_)
      | (with_reducible refine LeO.bind ?_ (fun _ => ?_))
      | exact ih0 _ _ _ _ _ _ _ _ _ _ _ _ _
      | exact ih1 _ _ _
      | exact impl_FittingKeys.mono _ _ _ _ _ _ _ _ _ _
      | exact laws_eqInt64S.mono _ _ _
      | exact laws_heldInt64S.mono _ _ _
      | exact laws_markInt64S.mono _ _ _
      | exact spec_FittingKeys.mono _ _ _ _ _ _ _ _ _ _
      | exact LeO.none _
      | refine LeO.ite ?_ ?_
      | refine LeO.bind ?_ (fun _ => ?_)
theorem laws_FnExactFittingKeys.mono : ∀ a0 a1 a2 a3 a4 a5 a6 a7 a8 k, LeO (laws_FnExactFittingKeys.f k a0 a1 a2 a3 a4 a5 a6 a7 a8) (laws_FnExactFittingKeys.f (k + 1) a0 a1 a2 a3 a4 a5 a6 a7 a8) := by
  intro a0 a1 a2 a3 a4 a5 a6 a7 a8 k
  obtain ⟨ih0, ih1⟩ := laws_FnExactFittingKeys.mono_l k
  unfold laws_FnExactFittingKeys.f
  repeat' first
      | (with_reducible exact ih0 _ _ _ _ _ _ _ _ _ _ _ _ _)
      | (with_reducible exact ih1 _ _ _)
      | (with_reducible exact impl_FittingKeys.mono _ _ _ _ _ _ _ _ _ _)
      | (with_reducible exact laws_eqInt64S.mono _ _ _)
      | (with_reducible exact laws_heldInt64S.mono _ _ _)
      | (with_reducible exact laws_markInt64S.mono _ _ _)
      | (with_reducible exact spec_FittingKeys.mono _ _ _ _ _ _ _ _ _ _)
      | (with_reducible exact LeO.refl _)
      | (with_reducible exact LeO.none _)
      | (with_reducible refine LeO.ite ?_ ?_)
      | (with_reducible refine LeO.bind ?_ (fun _ => ?_))
      | exact ih0 _ _ _ _ _ _ _ _ _ _ _ _ _
      | exact ih1 _ _ _
      | exact impl_FittingKeys.mono _ _ _ _ _ _ _ _ _ _
      | exact laws_eqInt64S.mono _ _ _
      | exact laws_heldInt64S.mono _ _ _
      | exact laws_markInt64S.mono _ _ _
      | exact spec_FittingKeys.mono _ _ _ _ _ _ _ _ _ _
      | exact LeO.none _
      | refine LeO.ite ?_ ?_
      | refine LeO.bind ?_ (fun _ => ?_)
set_option maxHeartbeats 8000000 in
set_option maxRecDepth 100000 in
theorem laws_FnExactFittingKeys.calls (k : Nat) (a0_0 : Int) (a0_1 : Int) (a0_2 : Int) (a0_3 : Int) (a0_4 : Int) (a0_5 : Int) (a0_6 : Int) (a0_7 : Int) (a0_8 : Int) (r : Bool) (w : World) (h : laws_FnExactFittingKeys.f k a0_0 a0_1 a0_2 a0_3 a0_4 a0_5 a0_6 a0_7 a0_8 = some r) :
    Calls Try.prog 19 #[.agg #[.int .i64 a0_0, .int .i64 a0_1, .int .i64 a0_2, .int .i64 a0_3, .int .i64 a0_4, .int .i64 a0_5, .int .i64 a0_6, .int .i64 a0_7, .int .i64 a0_8]] w fun e w' => e = .returned (.bool r) ∧ Below w.heap.size w w' := by
  have hu55 := Try.underlying55
  have HB := Aside0.mk (Below.refl w.heap.size w)
  have H : ((laws_toMachine.f a0_0 a0_1 a0_2 a0_3 a0_4 a0_5 a0_6 a0_7 a0_8).bind fun bt1206 => ((spec_FittingKeys.f k bt1206.1 bt1206.2.1 bt1206.2.2.1 bt1206.2.2.2.1 bt1206.2.2.2.2.1 bt1206.2.2.2.2.2.1 bt1206.2.2.2.2.2.2.1 bt1206.2.2.2.2.2.2.2.1 bt1206.2.2.2.2.2.2.2.2).bind fun bt1215 => ((laws_toMachine.f a0_0 a0_1 a0_2 a0_3 a0_4 a0_5 a0_6 a0_7 a0_8).bind fun bt1219 => ((impl_FittingKeys.f k bt1219.1 bt1219.2.1 bt1219.2.2.1 bt1219.2.2.2.1 bt1219.2.2.2.2.1 bt1219.2.2.2.2.2.1 bt1219.2.2.2.2.2.2.1 bt1219.2.2.2.2.2.2.2.1 bt1219.2.2.2.2.2.2.2.2).bind fun bt1228 => ((laws_eqInt64S.f k bt1228.1 bt1215.1).bind fun t1232 => (if t1232 = true then (laws_FnExactFittingKeys.j0 k bt1215.1 bt1215.2 bt1228.1 (bt1228.2 != bt1215.2) a0_0 a0_1 a0_2 a0_3 a0_4 a0_5 a0_6 a0_7 a0_8) else (laws_FnExactFittingKeys.j0 k bt1215.1 bt1215.2 bt1228.1 true a0_0 a0_1 a0_2 a0_3 a0_4 a0_5 a0_6 a0_7 a0_8))))))) = some r := h
  clear h
  replace H := Option.bind_eq_some_iff.mp H
  obtain ⟨⟨t1206, t1207, t1208, t1209, t1210, t1211, t1212, t1213, t1214⟩, A20, H⟩ := H
  replace H : ((spec_FittingKeys.f k t1206 t1207 t1208 t1209 t1210 t1211 t1212 t1213 t1214).bind fun bt1215 => ((laws_toMachine.f a0_0 a0_1 a0_2 a0_3 a0_4 a0_5 a0_6 a0_7 a0_8).bind fun bt1219 => ((impl_FittingKeys.f k bt1219.1 bt1219.2.1 bt1219.2.2.1 bt1219.2.2.2.1 bt1219.2.2.2.2.1 bt1219.2.2.2.2.2.1 bt1219.2.2.2.2.2.2.1 bt1219.2.2.2.2.2.2.2.1 bt1219.2.2.2.2.2.2.2.2).bind fun bt1228 => ((laws_eqInt64S.f k bt1228.1 bt1215.1).bind fun t1232 => (if t1232 = true then (laws_FnExactFittingKeys.j0 k bt1215.1 bt1215.2 bt1228.1 (bt1228.2 != bt1215.2) a0_0 a0_1 a0_2 a0_3 a0_4 a0_5 a0_6 a0_7 a0_8) else (laws_FnExactFittingKeys.j0 k bt1215.1 bt1215.2 bt1228.1 true a0_0 a0_1 a0_2 a0_3 a0_4 a0_5 a0_6 a0_7 a0_8)))))) = some r := H
  have A2 := Aside0.mk A20
  clear A20
  replace H := Option.bind_eq_some_iff.mp H
  obtain ⟨⟨t1215, t1218⟩, A30, H⟩ := H
  replace H : ((laws_toMachine.f a0_0 a0_1 a0_2 a0_3 a0_4 a0_5 a0_6 a0_7 a0_8).bind fun bt1219 => ((impl_FittingKeys.f k bt1219.1 bt1219.2.1 bt1219.2.2.1 bt1219.2.2.2.1 bt1219.2.2.2.2.1 bt1219.2.2.2.2.2.1 bt1219.2.2.2.2.2.2.1 bt1219.2.2.2.2.2.2.2.1 bt1219.2.2.2.2.2.2.2.2).bind fun bt1228 => ((laws_eqInt64S.f k bt1228.1 t1215).bind fun t1232 => (if t1232 = true then (laws_FnExactFittingKeys.j0 k t1215 t1218 bt1228.1 (bt1228.2 != t1218) a0_0 a0_1 a0_2 a0_3 a0_4 a0_5 a0_6 a0_7 a0_8) else (laws_FnExactFittingKeys.j0 k t1215 t1218 bt1228.1 true a0_0 a0_1 a0_2 a0_3 a0_4 a0_5 a0_6 a0_7 a0_8))))) = some r := H
  have A3 := Aside0.mk A30
  clear A30
  replace H := Option.bind_eq_some_iff.mp H
  obtain ⟨⟨t1219, t1220, t1221, t1222, t1223, t1224, t1225, t1226, t1227⟩, A40, H⟩ := H
  replace H : ((impl_FittingKeys.f k t1219 t1220 t1221 t1222 t1223 t1224 t1225 t1226 t1227).bind fun bt1228 => ((laws_eqInt64S.f k bt1228.1 t1215).bind fun t1232 => (if t1232 = true then (laws_FnExactFittingKeys.j0 k t1215 t1218 bt1228.1 (bt1228.2 != t1218) a0_0 a0_1 a0_2 a0_3 a0_4 a0_5 a0_6 a0_7 a0_8) else (laws_FnExactFittingKeys.j0 k t1215 t1218 bt1228.1 true a0_0 a0_1 a0_2 a0_3 a0_4 a0_5 a0_6 a0_7 a0_8)))) = some r := H
  have A4 := Aside0.mk A40
  clear A40
  replace H := Option.bind_eq_some_iff.mp H
  obtain ⟨⟨t1228, t1231⟩, A50, H⟩ := H
  replace H : ((laws_eqInt64S.f k t1228 t1215).bind fun t1232 => (if t1232 = true then (laws_FnExactFittingKeys.j0 k t1215 t1218 t1228 (t1231 != t1218) a0_0 a0_1 a0_2 a0_3 a0_4 a0_5 a0_6 a0_7 a0_8) else (laws_FnExactFittingKeys.j0 k t1215 t1218 t1228 true a0_0 a0_1 a0_2 a0_3 a0_4 a0_5 a0_6 a0_7 a0_8))) = some r := H
  have A5 := Aside0.mk A50
  clear A50
  have HC6 := Aside0.mk H
  clear H
  go_enter Try.func19, Try.ntmps19
  go_upto_region 3 with (first | ((with_reducible refine gate_dst (N := 1) rfl ?_); refine box_event ?hg (N := 1) ?hd (cs := #[.int .i64 a0_0, .int .i64 a0_1, .int .i64 a0_2, .int .i64 a0_3, .int .i64 a0_4, .int .i64 a0_5, .int .i64 a0_6, .int .i64 a0_7, .int .i64 a0_8]) (t := 55) ?hr ?_; (case hd => rfl); (case hg => rfl); (case hr => first | (go_simp; done) | (go_simp; rfl)); intro gb1205 hg w7 hbox hb; have n0_ := Aside0.mk (below_step (by repeat (first | (with_reducible first | exact HB.out | apply below_alloc | apply pw_below_drewN | apply below_drew1) | exact HB.out)) hb); have n1_ := Aside0.mk (hbox); have n2_ := Aside0.mk ((by rw [hg]; exact (below_size (by repeat (first | (with_reducible first | exact HB.out | apply below_alloc | apply pw_below_drewN | apply below_drew1) | exact HB.out))) : w.heap.size ≤ gb1205)); have n3_ := Aside0.mk ((by rw [hg]; exact (below_size (by repeat (first | (with_reducible first | exact HB.out | apply below_alloc | apply pw_below_drewN | apply below_drew1) | exact HB.out))) : w.heap.size ≤ gb1205)); clear HB; have HB := n0_; have BK1205 := n1_; have GW1205 := n2_; have GE1205 := n3_; clear n0_ n1_ n2_ n3_; clear hb hbox hg; have hcz8_0 : w7.cell? ⟨gb1205, 0, none⟩ = some (.int .i64 a0_0) := (blk_cell BK1205.out 0).trans rfl; have hcz8_1 : w7.cell? ⟨gb1205, 1, none⟩ = some (.int .i64 a0_1) := (blk_cell BK1205.out 1).trans rfl; have hcz8_2 : w7.cell? ⟨gb1205, 2, none⟩ = some (.int .i64 a0_2) := (blk_cell BK1205.out 2).trans rfl; have hcz8_3 : w7.cell? ⟨gb1205, 3, none⟩ = some (.int .i64 a0_3) := (blk_cell BK1205.out 3).trans rfl; have hcz8_4 : w7.cell? ⟨gb1205, 4, none⟩ = some (.int .i64 a0_4) := (blk_cell BK1205.out 4).trans rfl; have hcz8_5 : w7.cell? ⟨gb1205, 5, none⟩ = some (.int .i64 a0_5) := (blk_cell BK1205.out 5).trans rfl; have hcz8_6 : w7.cell? ⟨gb1205, 6, none⟩ = some (.int .i64 a0_6) := (blk_cell BK1205.out 6).trans rfl; have hcz8_7 : w7.cell? ⟨gb1205, 7, none⟩ = some (.int .i64 a0_7) := (blk_cell BK1205.out 7).trans rfl; have hcz8_8 : w7.cell? ⟨gb1205, 8, none⟩ = some (.int .i64 a0_8) := (blk_cell BK1205.out 8).trans rfl; have hfz8_0 := blk_frozen BK1205.out 0; have hfz8_1 := blk_frozen BK1205.out 1; have hfz8_2 := blk_frozen BK1205.out 2; have hfz8_3 := blk_frozen BK1205.out 3; have hfz8_4 := blk_frozen BK1205.out 4; have hfz8_5 := blk_frozen BK1205.out 5; have hfz8_6 := blk_frozen BK1205.out 6; have hfz8_7 := blk_frozen BK1205.out 7; have hfz8_8 := blk_frozen BK1205.out 8) | ((with_reducible refine gate_callee (f := 38) rfl ?_); refine goesL_ (some 13) rfl rfl Try.func38 (by kernel_rfl) rfl #[.agg #[.int .i64 a0_0, .int .i64 a0_1, .int .i64 a0_2, .int .i64 a0_3, .int .i64 a0_4, .int .i64 a0_5, .int .i64 a0_6, .int .i64 a0_7, .int .i64 a0_8]] rfl (by (try simp only [List.map_toArray, List.map_cons, List.map_nil]); first | done | rfl | (simp only [List.length_drop, List.length_take]; rfl)) ?_; (with_reducible refine (laws_toMachine.calls a0_0 a0_1 a0_2 a0_3 a0_4 a0_5 a0_6 a0_7 a0_8 t1206 t1207 t1208 t1209 t1210 t1211 t1212 t1213 t1214 _ A2.out).mono ?_); rintro e w9 ⟨rfl, hb⟩; refine ⟨_, rfl, ?_⟩; have n0_ := Aside0.mk (blk_below (g := gb1205) (o := .cells #[.int .i64 a0_0, .int .i64 a0_1, .int .i64 a0_2, .int .i64 a0_3, .int .i64 a0_4, .int .i64 a0_5, .int .i64 a0_6, .int .i64 a0_7, .int .i64 a0_8] 55 (0, 0)) (by (with_reducible repeat (first | refine blk_drewN ?_ _ | refine blk_drew ?_ | refine blk_alloc ?_ _)); exact BK1205.out) hb); have n1_ := Aside0.mk (below_step (by repeat (first | (with_reducible first | exact HB.out | apply below_alloc | apply pw_below_drewN | apply below_drew1 | refine below_set ?_ GE1205.out) | exact HB.out)) hb); clear BK1205; clear HB; have BK1205 := n0_; have HB := n1_; clear n0_ n1_; (try clear hb); (try clear hb2); (try clear hk); (try clear hi)) | ((with_reducible refine gate_callee (f := 63) rfl ?_); refine goesL_ (some 14) rfl rfl Try.func63 (by kernel_rfl) rfl #[.agg #[.int .i64 t1206, .int .i64 t1207, .int .i64 t1208, .int .i64 t1209, .int .i64 t1210, .int .i64 t1211, .int .i64 t1212, .int .i64 t1213, .int .i64 t1214]] rfl (by (try simp only [List.map_toArray, List.map_cons, List.map_nil]); first | done | rfl | (simp only [List.length_drop, List.length_take]; rfl)) ?_; (with_reducible refine (spec_FittingKeys.calls k t1206 t1207 t1208 t1209 t1210 t1211 t1212 t1213 t1214 t1215 t1218 _ A3.out).mono ?_); rintro e w10 ⟨v1216, rfl, ho0, hb⟩; refine ⟨_, rfl, ?_⟩; have n0_ := Aside0.mk (Kd.R_lower ho0 (below_size (by repeat (first | (with_reducible first | exact HB.out | apply below_alloc | apply pw_below_drewN | apply below_drew1 | refine below_set ?_ GE1205.out) | exact HB.out)))); have n1_ := Aside0.mk (blk_below (g := gb1205) (o := .cells #[.int .i64 a0_0, .int .i64 a0_1, .int .i64 a0_2, .int .i64 a0_3, .int .i64 a0_4, .int .i64 a0_5, .int .i64 a0_6, .int .i64 a0_7, .int .i64 a0_8] 55 (0, 0)) (by (with_reducible repeat (first | refine blk_drewN ?_ _ | refine blk_drew ?_ | refine blk_alloc ?_ _)); exact BK1205.out) hb); have n2_ := Aside0.mk (below_step (by repeat (first | (with_reducible first | exact HB.out | apply below_alloc | apply pw_below_drewN | apply below_drew1 | refine below_set ?_ GE1205.out) | exact HB.out)) hb); clear BK1205; clear HB; have HO1217 := n0_; have BK1205 := n1_; have HB := n2_; clear n0_ n1_ n2_; (try clear hb); (try clear hb2); (try clear hk); (try clear hi); (try clear ho0); have hcz11_0 : w10.cell? ⟨gb1205, 0, none⟩ = some (.int .i64 a0_0) := (blk_cell BK1205.out 0).trans rfl; have hcz11_1 : w10.cell? ⟨gb1205, 1, none⟩ = some (.int .i64 a0_1) := (blk_cell BK1205.out 1).trans rfl; have hcz11_2 : w10.cell? ⟨gb1205, 2, none⟩ = some (.int .i64 a0_2) := (blk_cell BK1205.out 2).trans rfl; have hcz11_3 : w10.cell? ⟨gb1205, 3, none⟩ = some (.int .i64 a0_3) := (blk_cell BK1205.out 3).trans rfl; have hcz11_4 : w10.cell? ⟨gb1205, 4, none⟩ = some (.int .i64 a0_4) := (blk_cell BK1205.out 4).trans rfl; have hcz11_5 : w10.cell? ⟨gb1205, 5, none⟩ = some (.int .i64 a0_5) := (blk_cell BK1205.out 5).trans rfl; have hcz11_6 : w10.cell? ⟨gb1205, 6, none⟩ = some (.int .i64 a0_6) := (blk_cell BK1205.out 6).trans rfl; have hcz11_7 : w10.cell? ⟨gb1205, 7, none⟩ = some (.int .i64 a0_7) := (blk_cell BK1205.out 7).trans rfl; have hcz11_8 : w10.cell? ⟨gb1205, 8, none⟩ = some (.int .i64 a0_8) := (blk_cell BK1205.out 8).trans rfl; have hfz11_0 := blk_frozen BK1205.out 0; have hfz11_1 := blk_frozen BK1205.out 1; have hfz11_2 := blk_frozen BK1205.out 2; have hfz11_3 := blk_frozen BK1205.out 3; have hfz11_4 := blk_frozen BK1205.out 4; have hfz11_5 := blk_frozen BK1205.out 5; have hfz11_6 := blk_frozen BK1205.out 6; have hfz11_7 := blk_frozen BK1205.out 7; have hfz11_8 := blk_frozen BK1205.out 8) | ((with_reducible refine gate_callee (f := 38) rfl ?_); refine goesL_ (some 19) rfl rfl Try.func38 (by kernel_rfl) rfl #[.agg #[.int .i64 a0_0, .int .i64 a0_1, .int .i64 a0_2, .int .i64 a0_3, .int .i64 a0_4, .int .i64 a0_5, .int .i64 a0_6, .int .i64 a0_7, .int .i64 a0_8]] rfl (by (try simp only [List.map_toArray, List.map_cons, List.map_nil]); first | done | rfl | (simp only [List.length_drop, List.length_take]; rfl)) ?_; (with_reducible refine (laws_toMachine.calls a0_0 a0_1 a0_2 a0_3 a0_4 a0_5 a0_6 a0_7 a0_8 t1219 t1220 t1221 t1222 t1223 t1224 t1225 t1226 t1227 _ A4.out).mono ?_); rintro e w12 ⟨rfl, hb⟩; refine ⟨_, rfl, ?_⟩; have n0_ := Aside0.mk (Kd.R_below (by (with_reducible repeat (first | apply Kd.R_alloc | apply Kd.R_drewN | apply Kd.R_drew)); exact HO1217.out) hb); have n1_ := Aside0.mk (blk_below (g := gb1205) (o := .cells #[.int .i64 a0_0, .int .i64 a0_1, .int .i64 a0_2, .int .i64 a0_3, .int .i64 a0_4, .int .i64 a0_5, .int .i64 a0_6, .int .i64 a0_7, .int .i64 a0_8] 55 (0, 0)) (by (with_reducible repeat (first | refine blk_drewN ?_ _ | refine blk_drew ?_ | refine blk_alloc ?_ _)); exact BK1205.out) hb); have n2_ := Aside0.mk (below_step (by repeat (first | (with_reducible first | exact HB.out | apply below_alloc | apply pw_below_drewN | apply below_drew1 | refine below_set ?_ GE1205.out) | exact HB.out)) hb); clear HO1217; clear BK1205; clear HB; have HO1217 := n0_; have BK1205 := n1_; have HB := n2_; clear n0_ n1_ n2_; (try clear hb); (try clear hb2); (try clear hk); (try clear hi)) | ((with_reducible refine gate_callee (f := 64) rfl ?_); refine goesL_ (some 20) rfl rfl Try.func64 (by kernel_rfl) rfl #[.agg #[.int .i64 t1219, .int .i64 t1220, .int .i64 t1221, .int .i64 t1222, .int .i64 t1223, .int .i64 t1224, .int .i64 t1225, .int .i64 t1226, .int .i64 t1227]] rfl (by (try simp only [List.map_toArray, List.map_cons, List.map_nil]); first | done | rfl | (simp only [List.length_drop, List.length_take]; rfl)) ?_; (with_reducible refine (impl_FittingKeys.calls k t1219 t1220 t1221 t1222 t1223 t1224 t1225 t1226 t1227 t1228 t1231 _ A5.out).mono ?_); rintro e w13 ⟨v1229, rfl, ho0, hb⟩; refine ⟨_, rfl, ?_⟩; have n0_ := Aside0.mk (Kd.R_elder' (by (with_reducible repeat (first | apply Kd.R_alloc | apply Kd.R_drewN | apply Kd.R_drew)); exact HO1217.out) (Kd.R_base ho0) hb); have n1_ := Aside0.mk (Kd.R_lower (Kd.R_new' ho0 (Kd.R_lt (by (with_reducible repeat (first | apply Kd.R_alloc | apply Kd.R_drewN | apply Kd.R_drew)); exact HO1217.out))) (below_size (by repeat (first | (with_reducible first | exact HB.out | apply below_alloc | apply pw_below_drewN | apply below_drew1 | refine below_set ?_ GE1205.out) | exact HB.out)))); have n2_ := Aside0.mk (blk_below (g := gb1205) (o := .cells #[.int .i64 a0_0, .int .i64 a0_1, .int .i64 a0_2, .int .i64 a0_3, .int .i64 a0_4, .int .i64 a0_5, .int .i64 a0_6, .int .i64 a0_7, .int .i64 a0_8] 55 (0, 0)) (by (with_reducible repeat (first | refine blk_drewN ?_ _ | refine blk_drew ?_ | refine blk_alloc ?_ _)); exact BK1205.out) hb); have n3_ := Aside0.mk (below_step (by repeat (first | (with_reducible first | exact HB.out | apply below_alloc | apply pw_below_drewN | apply below_drew1 | refine below_set ?_ GE1205.out) | exact HB.out)) hb); clear HO1217; clear BK1205; clear HB; have HO1217 := n0_; have HO1230 := n1_; have BK1205 := n2_; have HB := n3_; clear n0_ n1_ n2_ n3_; (try clear hb); (try clear hb2); (try clear hk); (try clear hi); (try clear ho0)))
  (try simp only [Act.put, List.setIfInBounds_toArray, List.set_cons_zero, List.set_cons_succ])
  go_cut [31] (fun v31 wc => ∃ (kq : Nat) (x31_5 : Bool), v31 = .bool x31_5 ∧ Aside0 (laws_FnExactFittingKeys.j0 kq t1215 t1218 t1228 x31_5 a0_0 a0_1 a0_2 a0_3 a0_4 a0_5 a0_6 a0_7 a0_8 = some r) ∧ Aside0 (kq ≤ k) ∧ Aside0 (Kd.R (Kd.int .i64) 2 wc w.heap.size (fun k_ => some k_ ≠ (v1229 : Value).ownBlock) v1216 t1215) ∧ Aside0 (Kd.R (Kd.int .i64) 2 wc w.heap.size (fun k_ => some k_ ≠ (v1216 : Value).ownBlock) v1229 t1228) ∧ Aside0 (wc.heap[gb1205]? = some (.cells #[.int .i64 a0_0, .int .i64 a0_1, .int .i64 a0_2, .int .i64 a0_3, .int .i64 a0_4, .int .i64 a0_5, .int .i64 a0_6, .int .i64 a0_7, .int .i64 a0_8] 55 (0, 0))) ∧ Aside0 (Below w.heap.size w wc))
  case first =>
    have H := HC6.out
    clear HC6
    replace H := Option.bind_eq_some_iff.mp H
    obtain ⟨t1232, A140, H⟩ := H
    replace H : (if t1232 = true then (laws_FnExactFittingKeys.j0 k t1215 t1218 t1228 (t1231 != t1218) a0_0 a0_1 a0_2 a0_3 a0_4 a0_5 a0_6 a0_7 a0_8) else (laws_FnExactFittingKeys.j0 k t1215 t1218 t1228 true a0_0 a0_1 a0_2 a0_3 a0_4 a0_5 a0_6 a0_7 a0_8)) = some r := H
    have A14 := Aside0.mk A140
    clear A140
    by_cases c15 : t1232 = true
    · subst c15
      have H1 : (laws_FnExactFittingKeys.j0 k t1215 t1218 t1228 (t1231 != t1218) a0_0 a0_1 a0_2 a0_3 a0_4 a0_5 a0_6 a0_7 a0_8) = some r := by rw [if_pos rfl] at H; exact H
      clear H
      have H := H1
      clear H1
      have H' := Aside0.mk H
      clear H
      obtain ⟨Ao16, co16, eo16⟩ := Kd.R_slice HO1230.out
      subst eo16
      obtain ⟨Ao17, co17, eo17⟩ := Kd.R_slice HO1217.out
      subst eo17
      go_wp2_with (first | ((with_reducible refine gate_callee (f := 44) rfl ?_); refine goesL_ (some 25) rfl rfl Try.func44 (by kernel_rfl) rfl #[.slice Ao16 t1228.length co16, .slice Ao17 t1215.length co17] rfl (by (try simp only [List.map_toArray, List.map_cons, List.map_nil]); first | done | rfl | (simp only [List.length_drop, List.length_take]; rfl)) ?_; (with_reducible refine (laws_eqInt64S.calls k _ _ t1228 _ _ t1215 true _ ?side1 ?side2 ?side3 ?side4 A14.out).mono ?_); (case side1 => repeat (first | exact (Kd.R_reads' HO1230.out).2.2 | (with_reducible refine Kd.C_alloc ?_ _) | (with_reducible refine Kd.C_drewN ?_ _) | (with_reducible refine Kd.C_drew ?_))); (case side2 => exact (Kd.R_reads' HO1230.out).2.1); (case side3 => repeat (first | exact (Kd.R_reads' HO1217.out).2.2 | (with_reducible refine Kd.C_alloc ?_ _) | (with_reducible refine Kd.C_drewN ?_ _) | (with_reducible refine Kd.C_drew ?_))); (case side4 => exact (Kd.R_reads' HO1217.out).2.1); rintro e w' ⟨rfl, ⟨nd, rfl⟩⟩; refine ⟨_, rfl, ?_⟩))
      go_meet
      case rel => exact ⟨_, ((t1231 != t1218)), (by first | rfl | (simp; done) | (simp [*]; done)), H', ⟨by first | omega | exact Nat.le_refl _⟩, ⟨by (with_reducible repeat (first | apply Kd.R_alloc | apply Kd.R_drewN | apply Kd.R_drew)); exact Kd.R_mono HO1217.out (fun _ hk => hk.2)⟩, ⟨by (with_reducible repeat (first | apply Kd.R_alloc | apply Kd.R_drewN | apply Kd.R_drew)); exact Kd.R_mono HO1230.out (fun _ hk => hk.2)⟩, ⟨by (with_reducible repeat (first | refine blk_drewN ?_ _ | refine blk_drew ?_ | refine blk_alloc ?_ _)); exact BK1205.out⟩, ⟨by repeat (first | (with_reducible first | exact HB.out | apply below_alloc | apply pw_below_drewN | apply below_drew1 | refine below_set ?_ GE1205.out) | exact HB.out)⟩⟩
    · replace c15 := Bool.eq_false_iff.mpr c15
      subst c15
      have H1 : (laws_FnExactFittingKeys.j0 k t1215 t1218 t1228 true a0_0 a0_1 a0_2 a0_3 a0_4 a0_5 a0_6 a0_7 a0_8) = some r := by rw [if_neg (show ¬ (false = true) by decide)] at H; exact H
      clear H
      have H := H1
      clear H1
      have H' := Aside0.mk H
      clear H
      obtain ⟨Ao18, co18, eo18⟩ := Kd.R_slice HO1230.out
      subst eo18
      obtain ⟨Ao19, co19, eo19⟩ := Kd.R_slice HO1217.out
      subst eo19
      go_wp2_with (first | ((with_reducible refine gate_callee (f := 44) rfl ?_); refine goesL_ (some 25) rfl rfl Try.func44 (by kernel_rfl) rfl #[.slice Ao18 t1228.length co18, .slice Ao19 t1215.length co19] rfl (by (try simp only [List.map_toArray, List.map_cons, List.map_nil]); first | done | rfl | (simp only [List.length_drop, List.length_take]; rfl)) ?_; (with_reducible refine (laws_eqInt64S.calls k _ _ t1228 _ _ t1215 false _ ?side1 ?side2 ?side3 ?side4 A14.out).mono ?_); (case side1 => repeat (first | exact (Kd.R_reads' HO1230.out).2.2 | (with_reducible refine Kd.C_alloc ?_ _) | (with_reducible refine Kd.C_drewN ?_ _) | (with_reducible refine Kd.C_drew ?_))); (case side2 => exact (Kd.R_reads' HO1230.out).2.1); (case side3 => repeat (first | exact (Kd.R_reads' HO1217.out).2.2 | (with_reducible refine Kd.C_alloc ?_ _) | (with_reducible refine Kd.C_drewN ?_ _) | (with_reducible refine Kd.C_drew ?_))); (case side4 => exact (Kd.R_reads' HO1217.out).2.1); rintro e w' ⟨rfl, ⟨nd, rfl⟩⟩; refine ⟨_, rfl, ?_⟩))
      go_meet
      case rel => exact ⟨_, (true), (by first | rfl | (simp; done) | (simp [*]; done)), H', ⟨by first | omega | exact Nat.le_refl _⟩, ⟨by (with_reducible repeat (first | apply Kd.R_alloc | apply Kd.R_drewN | apply Kd.R_drew)); exact Kd.R_mono HO1217.out (fun _ hk => hk.2)⟩, ⟨by (with_reducible repeat (first | apply Kd.R_alloc | apply Kd.R_drewN | apply Kd.R_drew)); exact Kd.R_mono HO1230.out (fun _ hk => hk.2)⟩, ⟨by (with_reducible repeat (first | refine blk_drewN ?_ _ | refine blk_drew ?_ | refine blk_alloc ?_ _)); exact BK1205.out⟩, ⟨by repeat (first | (with_reducible first | exact HB.out | apply below_alloc | apply pw_below_drewN | apply below_drew1 | refine below_set ?_ GE1205.out) | exact HB.out)⟩⟩
  case rest =>
    clear HC6
    try clear c1
    try clear p2
    try clear c3
    try clear c4
    try clear c6
    try clear c15
    try clear c19
    try clear hcz11_0
    try clear hcz11_1
    try clear hcz11_2
    try clear hcz11_3
    try clear hcz11_4
    try clear hcz11_5
    try clear hcz11_6
    try clear hcz11_7
    try clear hcz11_8
    try clear hcz8_0
    try clear hcz8_1
    try clear hcz8_2
    try clear hcz8_3
    try clear hcz8_4
    try clear hcz8_5
    try clear hcz8_6
    try clear hcz8_7
    try clear hcz8_8
    try clear hfz11_0
    try clear hfz11_1
    try clear hfz11_2
    try clear hfz11_3
    try clear hfz11_4
    try clear hfz11_5
    try clear hfz11_6
    try clear hfz11_7
    try clear hfz11_8
    try clear hfz8_0
    try clear hfz8_1
    try clear hfz8_2
    try clear hfz8_3
    try clear hfz8_4
    try clear hfz8_5
    try clear hfz8_6
    try clear hfz8_7
    try clear hfz8_8
    obtain ⟨kq, x31_5, rfl, HA, HJ5, HO_3, HO_5, BK1205, HB⟩ := hcut
    cases kq with
    | zero => exact absurd HA.out (by simp [laws_FnExactFittingKeys.j0])
    | succ kj5 =>
      have H := HA.out
      clear HA
      simp only [laws_FnExactFittingKeys.j0] at H
      by_cases c20 : x31_5 = true
      · subst c20
        have H1 : (some false) = some r := by rw [if_pos rfl] at H; exact H
        clear H
        have H := H1
        clear H1
        obtain rfl := Option.some.inj H
        go_wp2
        go_ret
        exact ⟨by first | rfl | (simp [errW_none, errW_some] <;> rfl) | (simp [*, errW_none, errW_some] <;> rfl), by repeat (first | (with_reducible first | exact HB.out | apply below_alloc | apply pw_below_drewN | apply below_drew1 | refine below_set ?_ GE1205.out) | exact HB.out)⟩
      · replace c20 := Bool.eq_false_iff.mpr c20
        subst c20
        have H1 : ((laws_markInt64S.f kj5 t1228 1).bind fun bt1233 => ((laws_heldInt64S.f kj5 bt1233.2 1).bind fun t1235 => (if t1235 < 0 then (some false) else (if t1235 = bt1233.1 then ((laws_toMachine.f a0_0 a0_1 a0_2 a0_3 a0_4 a0_5 a0_6 a0_7 a0_8).bind fun bt1236 => ((impl_FittingKeys.f kj5 bt1236.1 bt1236.2.1 bt1236.2.2.1 bt1236.2.2.2.1 bt1236.2.2.2.2.1 bt1236.2.2.2.2.2.1 bt1236.2.2.2.2.2.2.1 bt1236.2.2.2.2.2.2.2.1 bt1236.2.2.2.2.2.2.2.2).bind fun bt1245 => ((laws_eqInt64S.f kj5 bt1245.1 t1215).bind fun t1249 => (if t1249 = true then (laws_FnExactFittingKeys.j1 kj5 bt1233.2 bt1233.1 (bt1245.2 != t1218)) else (laws_FnExactFittingKeys.j1 kj5 bt1233.2 bt1233.1 true))))) else (some false))))) = some r := by rw [if_neg (show ¬ (false = true) by decide)] at H; exact H
        clear H
        have H := H1
        clear H1
        replace H := Option.bind_eq_some_iff.mp H
        obtain ⟨⟨t1233, t1234⟩, A210, H⟩ := H
        replace H : ((laws_heldInt64S.f kj5 t1234 1).bind fun t1235 => (if t1235 < 0 then (some false) else (if t1235 = t1233 then ((laws_toMachine.f a0_0 a0_1 a0_2 a0_3 a0_4 a0_5 a0_6 a0_7 a0_8).bind fun bt1236 => ((impl_FittingKeys.f kj5 bt1236.1 bt1236.2.1 bt1236.2.2.1 bt1236.2.2.2.1 bt1236.2.2.2.2.1 bt1236.2.2.2.2.2.1 bt1236.2.2.2.2.2.2.1 bt1236.2.2.2.2.2.2.2.1 bt1236.2.2.2.2.2.2.2.2).bind fun bt1245 => ((laws_eqInt64S.f kj5 bt1245.1 t1215).bind fun t1249 => (if t1249 = true then (laws_FnExactFittingKeys.j1 kj5 t1234 t1233 (bt1245.2 != t1218)) else (laws_FnExactFittingKeys.j1 kj5 t1234 t1233 true))))) else (some false)))) = some r := H
        have A21 := Aside0.mk A210
        clear A210
        replace H := Option.bind_eq_some_iff.mp H
        obtain ⟨t1235, A220, H⟩ := H
        replace H : (if t1235 < 0 then (some false) else (if t1235 = t1233 then ((laws_toMachine.f a0_0 a0_1 a0_2 a0_3 a0_4 a0_5 a0_6 a0_7 a0_8).bind fun bt1236 => ((impl_FittingKeys.f kj5 bt1236.1 bt1236.2.1 bt1236.2.2.1 bt1236.2.2.2.1 bt1236.2.2.2.2.1 bt1236.2.2.2.2.2.1 bt1236.2.2.2.2.2.2.1 bt1236.2.2.2.2.2.2.2.1 bt1236.2.2.2.2.2.2.2.2).bind fun bt1245 => ((laws_eqInt64S.f kj5 bt1245.1 t1215).bind fun t1249 => (if t1249 = true then (laws_FnExactFittingKeys.j1 kj5 t1234 t1233 (bt1245.2 != t1218)) else (laws_FnExactFittingKeys.j1 kj5 t1234 t1233 true))))) else (some false))) = some r := H
        have A22 := Aside0.mk A220
        clear A220
        by_cases c23 : t1235 < 0
        · rw [if_pos c23] at H
          have c23b0 : decide (t1235 < 0) = true := decide_eq_true c23
          clear c23
          obtain rfl := Option.some.inj H
          obtain ⟨Ao24, co24, eo24⟩ := Kd.R_slice HO_5.out
          subst eo24
          go_wp2_with (first | ((with_reducible refine gate_callee (f := 45) rfl ?_); refine goesL_ (some 34) rfl rfl Try.func45 (by kernel_rfl) rfl #[.slice Ao24 t1228.length co24, .int .i64 1] rfl (by (try simp only [List.map_toArray, List.map_cons, List.map_nil]); first | done | rfl | (simp only [List.length_drop, List.length_take]; rfl)) ?_; (with_reducible refine (laws_markInt64S.calls kj5 (fun k_ => some k_ = (.slice Ao24 t1228.length co24 : Value).ownBlock) (.slice Ao24 t1228.length co24) t1228 1 t1233 t1234 w _ ?side1 ?side2 A21.out).mono ?_); (case side1 => repeat (first | (with_reducible first | exact HB.out | apply below_alloc | apply pw_below_drewN | apply below_drew1 | refine below_set ?_ GE1205.out) | exact HB.out)); (case side2 => exact Kd.R_tight rfl HO_5.out); rintro e w25 ⟨rfl, hy0, hb, hkp⟩; refine ⟨_, rfl, ?_⟩; have n0_ := Aside0.mk (Kd.R_mono (ok' := fun k_ => some k_ ≠ (.slice Ao24 t1228.length co24 : Value).ownBlock) (Kd.R_keptB (HO_3.out) hkp (fun k_ hk_ hs_ => (hk_) hs_)) (fun k_ hk_ => hk_.1)); have n1_ := Aside0.mk (Kd.R_reok rfl hy0 (fun k_ e_ => HO_5.out.1 k_ e_)); have n2_ := Aside0.mk (blk_kept (by (with_reducible repeat (first | refine blk_drewN ?_ _ | refine blk_drew ?_ | refine blk_alloc ?_ _)); exact BK1205.out) hkp (fun hs_ => (fun e_ => (Kd.R_ne HO_5.out BK1205.out (by decide)) e_) hs_)); have n3_ := Aside0.mk (hb); clear HO_3; clear HO_5; clear BK1205; clear HB; have HO_3 := n0_; have HO_5 := n1_; have BK1205 := n2_; have HB := n3_; clear n0_ n1_ n2_ n3_; (try clear hb); (try clear hkp); (try clear hy0)) | ((with_reducible refine gate_callee (f := 46) rfl ?_); refine goesL_ (some 37) rfl rfl Try.func46 (by kernel_rfl) rfl #[.slice Ao24 t1234.length co24, .int .i64 1] rfl (by (try simp only [List.map_toArray, List.map_cons, List.map_nil]); first | done | (rw [show t1234.length = t1228.length from (Kd.R_reads' HO_5.out).1.symm] <;> rfl) | rfl | (simp only [List.length_drop, List.length_take]; rfl)) ?_; (with_reducible refine (laws_heldInt64S.calls kj5 _ _ t1234 1 t1235 _ ?side1 ?side2 A22.out).mono ?_); (case side1 => repeat (first | exact (Kd.R_reads' HO_5.out).2.2 | (with_reducible refine Kd.C_alloc ?_ _) | (with_reducible refine Kd.C_drewN ?_ _) | (with_reducible refine Kd.C_drew ?_))); (case side2 => rw [show t1234.length = t1228.length from (Kd.R_reads' HO_5.out).1.symm]; exact (Kd.R_reads' HO_5.out).2.1); rintro e w' ⟨rfl, ⟨nd, rfl⟩⟩; refine ⟨_, rfl, ?_⟩))
          go_ret
          exact ⟨by first | rfl | (simp [errW_none, errW_some] <;> rfl) | (simp [*, errW_none, errW_some] <;> rfl), by repeat (first | (with_reducible first | exact HB.out | apply below_alloc | apply pw_below_drewN | apply below_drew1 | refine below_set ?_ GE1205.out) | exact HB.out)⟩
        · rw [if_neg c23] at H
          have c23b0 : decide (t1235 < 0) = false := decide_eq_false c23
          clear c23
          by_cases c26 : t1235 = t1233
          · rw [if_pos c26] at H
            have c26b0 : (t1235 == t1233) = true := beq_iff_eq.mpr c26
            have c26b1 : (t1235 != t1233) = false := bne_eq_false_iff_eq.mpr c26
            clear c26
            replace H := Option.bind_eq_some_iff.mp H
            obtain ⟨⟨t1236, t1237, t1238, t1239, t1240, t1241, t1242, t1243, t1244⟩, A270, H⟩ := H
            replace H : ((impl_FittingKeys.f kj5 t1236 t1237 t1238 t1239 t1240 t1241 t1242 t1243 t1244).bind fun bt1245 => ((laws_eqInt64S.f kj5 bt1245.1 t1215).bind fun t1249 => (if t1249 = true then (laws_FnExactFittingKeys.j1 kj5 t1234 t1233 (bt1245.2 != t1218)) else (laws_FnExactFittingKeys.j1 kj5 t1234 t1233 true)))) = some r := H
            have A27 := Aside0.mk A270
            clear A270
            replace H := Option.bind_eq_some_iff.mp H
            obtain ⟨⟨t1245, t1248⟩, A280, H⟩ := H
            replace H : ((laws_eqInt64S.f kj5 t1245 t1215).bind fun t1249 => (if t1249 = true then (laws_FnExactFittingKeys.j1 kj5 t1234 t1233 (t1248 != t1218)) else (laws_FnExactFittingKeys.j1 kj5 t1234 t1233 true))) = some r := H
            have A28 := Aside0.mk A280
            clear A280
            have HC29 := Aside0.mk H
            clear H
            obtain ⟨Ao30, co30, eo30⟩ := Kd.R_slice HO_5.out
            subst eo30
            go_upto_region 14 with (first | ((with_reducible refine gate_callee (f := 45) rfl ?_); refine goesL_ (some 34) rfl rfl Try.func45 (by kernel_rfl) rfl #[.slice Ao30 t1228.length co30, .int .i64 1] rfl (by (try simp only [List.map_toArray, List.map_cons, List.map_nil]); first | done | rfl | (simp only [List.length_drop, List.length_take]; rfl)) ?_; (with_reducible refine (laws_markInt64S.calls kj5 (fun k_ => some k_ = (.slice Ao30 t1228.length co30 : Value).ownBlock) (.slice Ao30 t1228.length co30) t1228 1 t1233 t1234 w _ ?side1 ?side2 A21.out).mono ?_); (case side1 => repeat (first | (with_reducible first | exact HB.out | apply below_alloc | apply pw_below_drewN | apply below_drew1 | refine below_set ?_ GE1205.out) | exact HB.out)); (case side2 => exact Kd.R_tight rfl HO_5.out); rintro e w31 ⟨rfl, hy0, hb, hkp⟩; refine ⟨_, rfl, ?_⟩; have n0_ := Aside0.mk (Kd.R_mono (ok' := fun k_ => some k_ ≠ (.slice Ao30 t1228.length co30 : Value).ownBlock) (Kd.R_keptB (HO_3.out) hkp (fun k_ hk_ hs_ => (hk_) hs_)) (fun k_ hk_ => hk_.1)); have n1_ := Aside0.mk (Kd.R_reok rfl hy0 (fun k_ e_ => HO_5.out.1 k_ e_)); have n2_ := Aside0.mk (blk_kept (by (with_reducible repeat (first | refine blk_drewN ?_ _ | refine blk_drew ?_ | refine blk_alloc ?_ _)); exact BK1205.out) hkp (fun hs_ => (fun e_ => (Kd.R_ne HO_5.out BK1205.out (by decide)) e_) hs_)); have n3_ := Aside0.mk (hb); clear HO_3; clear HO_5; clear BK1205; clear HB; have HO_3 := n0_; have HO_5 := n1_; have BK1205 := n2_; have HB := n3_; clear n0_ n1_ n2_ n3_; (try clear hb); (try clear hkp); (try clear hy0)) | ((with_reducible refine gate_callee (f := 46) rfl ?_); refine goesL_ (some 37) rfl rfl Try.func46 (by kernel_rfl) rfl #[.slice Ao30 t1234.length co30, .int .i64 1] rfl (by (try simp only [List.map_toArray, List.map_cons, List.map_nil]); first | done | (rw [show t1234.length = t1228.length from (Kd.R_reads' HO_5.out).1.symm] <;> rfl) | rfl | (simp only [List.length_drop, List.length_take]; rfl)) ?_; (with_reducible refine (laws_heldInt64S.calls kj5 _ _ t1234 1 t1235 _ ?side1 ?side2 A22.out).mono ?_); (case side1 => repeat (first | exact (Kd.R_reads' HO_5.out).2.2 | (with_reducible refine Kd.C_alloc ?_ _) | (with_reducible refine Kd.C_drewN ?_ _) | (with_reducible refine Kd.C_drew ?_))); (case side2 => rw [show t1234.length = t1228.length from (Kd.R_reads' HO_5.out).1.symm]; exact (Kd.R_reads' HO_5.out).2.1); rintro e w' ⟨rfl, ⟨nd, rfl⟩⟩; refine ⟨_, rfl, ?_⟩; have hcz32_0 : w31.cell? ⟨gb1205, 0, none⟩ = some (.int .i64 a0_0) := (blk_cell BK1205.out 0).trans rfl; have hcz32_1 : w31.cell? ⟨gb1205, 1, none⟩ = some (.int .i64 a0_1) := (blk_cell BK1205.out 1).trans rfl; have hcz32_2 : w31.cell? ⟨gb1205, 2, none⟩ = some (.int .i64 a0_2) := (blk_cell BK1205.out 2).trans rfl; have hcz32_3 : w31.cell? ⟨gb1205, 3, none⟩ = some (.int .i64 a0_3) := (blk_cell BK1205.out 3).trans rfl; have hcz32_4 : w31.cell? ⟨gb1205, 4, none⟩ = some (.int .i64 a0_4) := (blk_cell BK1205.out 4).trans rfl; have hcz32_5 : w31.cell? ⟨gb1205, 5, none⟩ = some (.int .i64 a0_5) := (blk_cell BK1205.out 5).trans rfl; have hcz32_6 : w31.cell? ⟨gb1205, 6, none⟩ = some (.int .i64 a0_6) := (blk_cell BK1205.out 6).trans rfl; have hcz32_7 : w31.cell? ⟨gb1205, 7, none⟩ = some (.int .i64 a0_7) := (blk_cell BK1205.out 7).trans rfl; have hcz32_8 : w31.cell? ⟨gb1205, 8, none⟩ = some (.int .i64 a0_8) := (blk_cell BK1205.out 8).trans rfl; have hfz32_0 := blk_frozen BK1205.out 0; have hfz32_1 := blk_frozen BK1205.out 1; have hfz32_2 := blk_frozen BK1205.out 2; have hfz32_3 := blk_frozen BK1205.out 3; have hfz32_4 := blk_frozen BK1205.out 4; have hfz32_5 := blk_frozen BK1205.out 5; have hfz32_6 := blk_frozen BK1205.out 6; have hfz32_7 := blk_frozen BK1205.out 7; have hfz32_8 := blk_frozen BK1205.out 8) | ((with_reducible refine gate_callee (f := 38) rfl ?_); refine goesL_ (some 45) rfl rfl Try.func38 (by kernel_rfl) rfl #[.agg #[.int .i64 a0_0, .int .i64 a0_1, .int .i64 a0_2, .int .i64 a0_3, .int .i64 a0_4, .int .i64 a0_5, .int .i64 a0_6, .int .i64 a0_7, .int .i64 a0_8]] rfl (by (try simp only [List.map_toArray, List.map_cons, List.map_nil]); first | done | rfl | (simp only [List.length_drop, List.length_take]; rfl)) ?_; (with_reducible refine (laws_toMachine.calls a0_0 a0_1 a0_2 a0_3 a0_4 a0_5 a0_6 a0_7 a0_8 t1236 t1237 t1238 t1239 t1240 t1241 t1242 t1243 t1244 _ A27.out).mono ?_); rintro e w33 ⟨rfl, hb⟩; refine ⟨_, rfl, ?_⟩; have n0_ := Aside0.mk (Kd.R_below (by (with_reducible repeat (first | apply Kd.R_alloc | apply Kd.R_drewN | apply Kd.R_drew)); exact HO_3.out) hb); have n1_ := Aside0.mk (Kd.R_below (by (with_reducible repeat (first | apply Kd.R_alloc | apply Kd.R_drewN | apply Kd.R_drew)); exact HO_5.out) hb); have n2_ := Aside0.mk (blk_below (g := gb1205) (o := .cells #[.int .i64 a0_0, .int .i64 a0_1, .int .i64 a0_2, .int .i64 a0_3, .int .i64 a0_4, .int .i64 a0_5, .int .i64 a0_6, .int .i64 a0_7, .int .i64 a0_8] 55 (0, 0)) (by (with_reducible repeat (first | refine blk_drewN ?_ _ | refine blk_drew ?_ | refine blk_alloc ?_ _)); exact BK1205.out) hb); have n3_ := Aside0.mk (below_step (by repeat (first | (with_reducible first | exact HB.out | apply below_alloc | apply pw_below_drewN | apply below_drew1 | refine below_set ?_ GE1205.out) | exact HB.out)) hb); clear HO_3; clear HO_5; clear BK1205; clear HB; have HO_3 := n0_; have HO_5 := n1_; have BK1205 := n2_; have HB := n3_; clear n0_ n1_ n2_ n3_; (try clear hb); (try clear hb2); (try clear hk); (try clear hi)) | ((with_reducible refine gate_callee (f := 64) rfl ?_); refine goesL_ (some 46) rfl rfl Try.func64 (by kernel_rfl) rfl #[.agg #[.int .i64 t1236, .int .i64 t1237, .int .i64 t1238, .int .i64 t1239, .int .i64 t1240, .int .i64 t1241, .int .i64 t1242, .int .i64 t1243, .int .i64 t1244]] rfl (by (try simp only [List.map_toArray, List.map_cons, List.map_nil]); first | done | rfl | (simp only [List.length_drop, List.length_take]; rfl)) ?_; (with_reducible refine (impl_FittingKeys.calls kj5 t1236 t1237 t1238 t1239 t1240 t1241 t1242 t1243 t1244 t1245 t1248 _ A28.out).mono ?_); rintro e w34 ⟨v1246, rfl, ho0, hb⟩; refine ⟨_, rfl, ?_⟩; have n0_ := Aside0.mk (Kd.R_elder' (by (with_reducible repeat (first | apply Kd.R_alloc | apply Kd.R_drewN | apply Kd.R_drew)); exact HO_3.out) (Kd.R_base ho0) hb); have n1_ := Aside0.mk (Kd.R_elder' (by (with_reducible repeat (first | apply Kd.R_alloc | apply Kd.R_drewN | apply Kd.R_drew)); exact HO_5.out) (Kd.R_base ho0) hb); have n2_ := Aside0.mk (Kd.R_lower (Kd.R_new' (Kd.R_new' ho0 (Kd.R_lt (by (with_reducible repeat (first | apply Kd.R_alloc | apply Kd.R_drewN | apply Kd.R_drew)); exact HO_3.out))) (Kd.R_lt (by (with_reducible repeat (first | apply Kd.R_alloc | apply Kd.R_drewN | apply Kd.R_drew)); exact HO_5.out))) (below_size (by repeat (first | (with_reducible first | exact HB.out | apply below_alloc | apply pw_below_drewN | apply below_drew1 | refine below_set ?_ GE1205.out) | exact HB.out)))); have n3_ := Aside0.mk (blk_below (g := gb1205) (o := .cells #[.int .i64 a0_0, .int .i64 a0_1, .int .i64 a0_2, .int .i64 a0_3, .int .i64 a0_4, .int .i64 a0_5, .int .i64 a0_6, .int .i64 a0_7, .int .i64 a0_8] 55 (0, 0)) (by (with_reducible repeat (first | refine blk_drewN ?_ _ | refine blk_drew ?_ | refine blk_alloc ?_ _)); exact BK1205.out) hb); have n4_ := Aside0.mk (below_step (by repeat (first | (with_reducible first | exact HB.out | apply below_alloc | apply pw_below_drewN | apply below_drew1 | refine below_set ?_ GE1205.out) | exact HB.out)) hb); clear HO_3; clear HO_5; clear BK1205; clear HB; have HO_3 := n0_; have HO_5 := n1_; have HO1247 := n2_; have BK1205 := n3_; have HB := n4_; clear n0_ n1_ n2_ n3_ n4_; (try clear hb); (try clear hb2); (try clear hk); (try clear hi); (try clear ho0)))
            (try simp only [Act.put, List.setIfInBounds_toArray, List.set_cons_zero, List.set_cons_succ])
            go_cut [57] (fun v57 wc => ∃ (kq : Nat) (x57_28 : Bool), v57 = .bool x57_28 ∧ Aside0 (laws_FnExactFittingKeys.j1 kq t1234 t1233 x57_28 = some r) ∧ Aside0 (kq ≤ kj5) ∧ Aside0 (Kd.R (Kd.int .i64) 2 wc w.heap.size (fun _ => True) (.slice Ao30 t1228.length co30) t1234) ∧ Aside0 (wc.heap[gb1205]? = some (.cells #[.int .i64 a0_0, .int .i64 a0_1, .int .i64 a0_2, .int .i64 a0_3, .int .i64 a0_4, .int .i64 a0_5, .int .i64 a0_6, .int .i64 a0_7, .int .i64 a0_8] 55 (0, 0))) ∧ Aside0 (Below w.heap.size w wc))
            case first =>
              have H := HC29.out
              clear HC29
              replace H := Option.bind_eq_some_iff.mp H
              obtain ⟨t1249, A350, H⟩ := H
              replace H : (if t1249 = true then (laws_FnExactFittingKeys.j1 kj5 t1234 t1233 (t1248 != t1218)) else (laws_FnExactFittingKeys.j1 kj5 t1234 t1233 true)) = some r := H
              have A35 := Aside0.mk A350
              clear A350
              by_cases c36 : t1249 = true
              · subst c36
                have H1 : (laws_FnExactFittingKeys.j1 kj5 t1234 t1233 (t1248 != t1218)) = some r := by rw [if_pos rfl] at H; exact H
                clear H
                have H := H1
                clear H1
                have H' := Aside0.mk H
                clear H
                obtain ⟨Ao37, co37, eo37⟩ := Kd.R_slice HO1247.out
                subst eo37
                obtain ⟨Ao38, co38, eo38⟩ := Kd.R_slice HO_3.out
                subst eo38
                go_wp2_with (first | ((with_reducible refine gate_callee (f := 44) rfl ?_); refine goesL_ (some 51) rfl rfl Try.func44 (by kernel_rfl) rfl #[.slice Ao37 t1245.length co37, .slice Ao38 t1215.length co38] rfl (by (try simp only [List.map_toArray, List.map_cons, List.map_nil]); first | done | rfl | (simp only [List.length_drop, List.length_take]; rfl)) ?_; (with_reducible refine (laws_eqInt64S.calls kj5 _ _ t1245 _ _ t1215 true _ ?side1 ?side2 ?side3 ?side4 A35.out).mono ?_); (case side1 => repeat (first | exact (Kd.R_reads' HO1247.out).2.2 | (with_reducible refine Kd.C_alloc ?_ _) | (with_reducible refine Kd.C_drewN ?_ _) | (with_reducible refine Kd.C_drew ?_))); (case side2 => exact (Kd.R_reads' HO1247.out).2.1); (case side3 => repeat (first | exact (Kd.R_reads' HO_3.out).2.2 | (with_reducible refine Kd.C_alloc ?_ _) | (with_reducible refine Kd.C_drewN ?_ _) | (with_reducible refine Kd.C_drew ?_))); (case side4 => exact (Kd.R_reads' HO_3.out).2.1); rintro e w' ⟨rfl, ⟨nd, rfl⟩⟩; refine ⟨_, rfl, ?_⟩))
                go_meet
                case rel => exact ⟨_, ((t1248 != t1218)), (by first | rfl | (simp; done) | (simp [*]; done)), H', ⟨by have := HJ5.out; first | omega | exact Nat.le_refl _⟩, ⟨by (with_reducible repeat (first | apply Kd.R_alloc | apply Kd.R_drewN | apply Kd.R_drew)); exact Kd.R_mono HO_5.out (fun _ hk => trivial)⟩, ⟨by (with_reducible repeat (first | refine blk_drewN ?_ _ | refine blk_drew ?_ | refine blk_alloc ?_ _)); exact BK1205.out⟩, ⟨by repeat (first | (with_reducible first | exact HB.out | apply below_alloc | apply pw_below_drewN | apply below_drew1 | refine below_set ?_ GE1205.out) | exact HB.out)⟩⟩
              · replace c36 := Bool.eq_false_iff.mpr c36
                subst c36
                have H1 : (laws_FnExactFittingKeys.j1 kj5 t1234 t1233 true) = some r := by rw [if_neg (show ¬ (false = true) by decide)] at H; exact H
                clear H
                have H := H1
                clear H1
                have H' := Aside0.mk H
                clear H
                obtain ⟨Ao39, co39, eo39⟩ := Kd.R_slice HO1247.out
                subst eo39
                obtain ⟨Ao40, co40, eo40⟩ := Kd.R_slice HO_3.out
                subst eo40
                go_wp2_with (first | ((with_reducible refine gate_callee (f := 44) rfl ?_); refine goesL_ (some 51) rfl rfl Try.func44 (by kernel_rfl) rfl #[.slice Ao39 t1245.length co39, .slice Ao40 t1215.length co40] rfl (by (try simp only [List.map_toArray, List.map_cons, List.map_nil]); first | done | rfl | (simp only [List.length_drop, List.length_take]; rfl)) ?_; (with_reducible refine (laws_eqInt64S.calls kj5 _ _ t1245 _ _ t1215 false _ ?side1 ?side2 ?side3 ?side4 A35.out).mono ?_); (case side1 => repeat (first | exact (Kd.R_reads' HO1247.out).2.2 | (with_reducible refine Kd.C_alloc ?_ _) | (with_reducible refine Kd.C_drewN ?_ _) | (with_reducible refine Kd.C_drew ?_))); (case side2 => exact (Kd.R_reads' HO1247.out).2.1); (case side3 => repeat (first | exact (Kd.R_reads' HO_3.out).2.2 | (with_reducible refine Kd.C_alloc ?_ _) | (with_reducible refine Kd.C_drewN ?_ _) | (with_reducible refine Kd.C_drew ?_))); (case side4 => exact (Kd.R_reads' HO_3.out).2.1); rintro e w' ⟨rfl, ⟨nd, rfl⟩⟩; refine ⟨_, rfl, ?_⟩))
                go_meet
                case rel => exact ⟨_, (true), (by first | rfl | (simp; done) | (simp [*]; done)), H', ⟨by have := HJ5.out; first | omega | exact Nat.le_refl _⟩, ⟨by (with_reducible repeat (first | apply Kd.R_alloc | apply Kd.R_drewN | apply Kd.R_drew)); exact Kd.R_mono HO_5.out (fun _ hk => trivial)⟩, ⟨by (with_reducible repeat (first | refine blk_drewN ?_ _ | refine blk_drew ?_ | refine blk_alloc ?_ _)); exact BK1205.out⟩, ⟨by repeat (first | (with_reducible first | exact HB.out | apply below_alloc | apply pw_below_drewN | apply below_drew1 | refine below_set ?_ GE1205.out) | exact HB.out)⟩⟩
            case rest =>
              clear HC29
              try clear c1
              try clear c2
              try clear p2
              try clear c3
              try clear c4
              try clear c6
              try clear c15
              try clear c19
              try clear c20
              try clear c23
              try clear c23b0
              try clear c26
              try clear c26b0
              try clear c26b1
              try clear c36
              try clear c38
              try clear hcz11_0
              try clear hcz11_1
              try clear hcz11_2
              try clear hcz11_3
              try clear hcz11_4
              try clear hcz11_5
              try clear hcz11_6
              try clear hcz11_7
              try clear hcz11_8
              try clear hcz32_0
              try clear hcz32_1
              try clear hcz32_2
              try clear hcz32_3
              try clear hcz32_4
              try clear hcz32_5
              try clear hcz32_6
              try clear hcz32_7
              try clear hcz32_8
              try clear hcz8_0
              try clear hcz8_1
              try clear hcz8_2
              try clear hcz8_3
              try clear hcz8_4
              try clear hcz8_5
              try clear hcz8_6
              try clear hcz8_7
              try clear hcz8_8
              try clear hfz11_0
              try clear hfz11_1
              try clear hfz11_2
              try clear hfz11_3
              try clear hfz11_4
              try clear hfz11_5
              try clear hfz11_6
              try clear hfz11_7
              try clear hfz11_8
              try clear hfz32_0
              try clear hfz32_1
              try clear hfz32_2
              try clear hfz32_3
              try clear hfz32_4
              try clear hfz32_5
              try clear hfz32_6
              try clear hfz32_7
              try clear hfz32_8
              try clear hfz8_0
              try clear hfz8_1
              try clear hfz8_2
              try clear hfz8_3
              try clear hfz8_4
              try clear hfz8_5
              try clear hfz8_6
              try clear hfz8_7
              try clear hfz8_8
              try clear p2
              obtain ⟨kq, x57_28, rfl, HA, HJ28, HO_5, BK1205, HB⟩ := hcut
              have hl5_28 := (Kd.R_reads' HO_5.out).1
              rw [hl5_28] at HO_5
              (try simp only [hl5_28])
              (try simp only [hl5_28] at BK1205)
              cases kq with
              | zero => exact absurd HA.out (by simp [laws_FnExactFittingKeys.j1])
              | succ kj28 =>
                have H := HA.out
                clear HA
                simp only [laws_FnExactFittingKeys.j1] at H
                by_cases c41 : x57_28 = true
                · subst c41
                  have H1 : (some false) = some r := by rw [if_pos rfl] at H; exact H
                  clear H
                  have H := H1
                  clear H1
                  obtain rfl := Option.some.inj H
                  go_wp2
                  go_ret
                  exact ⟨by first | rfl | (simp [errW_none, errW_some] <;> rfl) | (simp [*, errW_none, errW_some] <;> rfl), by repeat (first | (with_reducible first | exact HB.out | apply below_alloc | apply pw_below_drewN | apply below_drew1 | refine below_set ?_ GE1205.out) | exact HB.out)⟩
                · replace c41 := Bool.eq_false_iff.mpr c41
                  subst c41
                  have H1 : ((laws_heldInt64S.f kj28 t1234 1).bind fun t1250 => (if t1250 < 0 then (some false) else (if t1250 = t1233 then (some true) else (some false)))) = some r := by rw [if_neg (show ¬ (false = true) by decide)] at H; exact H
                  clear H
                  have H := H1
                  clear H1
                  replace H := Option.bind_eq_some_iff.mp H
                  obtain ⟨t1250, A420, H⟩ := H
                  replace H : (if t1250 < 0 then (some false) else (if t1250 = t1233 then (some true) else (some false))) = some r := H
                  have A42 := Aside0.mk A420
                  clear A420
                  by_cases c43 : t1250 < 0
                  · rw [if_pos c43] at H
                    have c43b0 : decide (t1250 < 0) = true := decide_eq_true c43
                    clear c43
                    obtain rfl := Option.some.inj H
                    go_wp2_with (first | ((with_reducible refine gate_callee (f := 46) rfl ?_); refine goesL_ (some 60) rfl rfl Try.func46 (by kernel_rfl) rfl #[.slice Ao30 t1234.length co30, .int .i64 1] rfl (by (try simp only [List.map_toArray, List.map_cons, List.map_nil]); first | done | rfl | (simp only [List.length_drop, List.length_take]; rfl)) ?_; (with_reducible refine (laws_heldInt64S.calls kj28 _ _ t1234 1 t1250 _ ?side1 ?side2 A42.out).mono ?_); (case side1 => repeat (first | exact (Kd.R_reads' HO_5.out).2.2 | (with_reducible refine Kd.C_alloc ?_ _) | (with_reducible refine Kd.C_drewN ?_ _) | (with_reducible refine Kd.C_drew ?_))); (case side2 => exact (Kd.R_reads' HO_5.out).2.1); rintro e w' ⟨rfl, ⟨nd, rfl⟩⟩; refine ⟨_, rfl, ?_⟩))
                    go_ret
                    exact ⟨by first | rfl | (simp [errW_none, errW_some] <;> rfl) | (simp [*, errW_none, errW_some] <;> rfl), by repeat (first | (with_reducible first | exact HB.out | apply below_alloc | apply pw_below_drewN | apply below_drew1 | refine below_set ?_ GE1205.out) | exact HB.out)⟩
                  · rw [if_neg c43] at H
                    have c43b0 : decide (t1250 < 0) = false := decide_eq_false c43
                    clear c43
                    by_cases c44 : t1250 = t1233
                    · rw [if_pos c44] at H
                      have c44b0 : (t1250 == t1233) = true := beq_iff_eq.mpr c44
                      have c44b1 : (t1250 != t1233) = false := bne_eq_false_iff_eq.mpr c44
                      clear c44
                      obtain rfl := Option.some.inj H
                      go_wp2_with (first | ((with_reducible refine gate_callee (f := 46) rfl ?_); refine goesL_ (some 60) rfl rfl Try.func46 (by kernel_rfl) rfl #[.slice Ao30 t1234.length co30, .int .i64 1] rfl (by (try simp only [List.map_toArray, List.map_cons, List.map_nil]); first | done | rfl | (simp only [List.length_drop, List.length_take]; rfl)) ?_; (with_reducible refine (laws_heldInt64S.calls kj28 _ _ t1234 1 t1250 _ ?side1 ?side2 A42.out).mono ?_); (case side1 => repeat (first | exact (Kd.R_reads' HO_5.out).2.2 | (with_reducible refine Kd.C_alloc ?_ _) | (with_reducible refine Kd.C_drewN ?_ _) | (with_reducible refine Kd.C_drew ?_))); (case side2 => exact (Kd.R_reads' HO_5.out).2.1); rintro e w' ⟨rfl, ⟨nd, rfl⟩⟩; refine ⟨_, rfl, ?_⟩))
                      go_ret
                      exact ⟨by first | rfl | (simp [errW_none, errW_some] <;> rfl) | (simp [*, errW_none, errW_some] <;> rfl), by repeat (first | (with_reducible first | exact HB.out | apply below_alloc | apply pw_below_drewN | apply below_drew1 | refine below_set ?_ GE1205.out) | exact HB.out)⟩
                    · rw [if_neg c44] at H
                      have c44b0 : (t1250 == t1233) = false := beq_eq_false_iff_ne.mpr c44
                      have c44b1 : (t1250 != t1233) = true := bne_iff_ne.mpr c44
                      obtain rfl := Option.some.inj H
                      go_wp2_with (first | ((with_reducible refine gate_callee (f := 46) rfl ?_); refine goesL_ (some 60) rfl rfl Try.func46 (by kernel_rfl) rfl #[.slice Ao30 t1234.length co30, .int .i64 1] rfl (by (try simp only [List.map_toArray, List.map_cons, List.map_nil]); first | done | rfl | (simp only [List.length_drop, List.length_take]; rfl)) ?_; (with_reducible refine (laws_heldInt64S.calls kj28 _ _ t1234 1 t1250 _ ?side1 ?side2 A42.out).mono ?_); (case side1 => repeat (first | exact (Kd.R_reads' HO_5.out).2.2 | (with_reducible refine Kd.C_alloc ?_ _) | (with_reducible refine Kd.C_drewN ?_ _) | (with_reducible refine Kd.C_drew ?_))); (case side2 => exact (Kd.R_reads' HO_5.out).2.1); rintro e w' ⟨rfl, ⟨nd, rfl⟩⟩; refine ⟨_, rfl, ?_⟩))
                      go_ret
                      exact ⟨by first | rfl | (simp [errW_none, errW_some] <;> rfl) | (simp [*, errW_none, errW_some] <;> rfl), by repeat (first | (with_reducible first | exact HB.out | apply below_alloc | apply pw_below_drewN | apply below_drew1 | refine below_set ?_ GE1205.out) | exact HB.out)⟩
          · rw [if_neg c26] at H
            have c26b0 : (t1235 == t1233) = false := beq_eq_false_iff_ne.mpr c26
            have c26b1 : (t1235 != t1233) = true := bne_iff_ne.mpr c26
            obtain rfl := Option.some.inj H
            obtain ⟨Ao45, co45, eo45⟩ := Kd.R_slice HO_5.out
            subst eo45
            go_wp2_with (first | ((with_reducible refine gate_callee (f := 45) rfl ?_); refine goesL_ (some 34) rfl rfl Try.func45 (by kernel_rfl) rfl #[.slice Ao45 t1228.length co45, .int .i64 1] rfl (by (try simp only [List.map_toArray, List.map_cons, List.map_nil]); first | done | rfl | (simp only [List.length_drop, List.length_take]; rfl)) ?_; (with_reducible refine (laws_markInt64S.calls kj5 (fun k_ => some k_ = (.slice Ao45 t1228.length co45 : Value).ownBlock) (.slice Ao45 t1228.length co45) t1228 1 t1233 t1234 w _ ?side1 ?side2 A21.out).mono ?_); (case side1 => repeat (first | (with_reducible first | exact HB.out | apply below_alloc | apply pw_below_drewN | apply below_drew1 | refine below_set ?_ GE1205.out) | exact HB.out)); (case side2 => exact Kd.R_tight rfl HO_5.out); rintro e w46 ⟨rfl, hy0, hb, hkp⟩; refine ⟨_, rfl, ?_⟩; have n0_ := Aside0.mk (Kd.R_mono (ok' := fun k_ => some k_ ≠ (.slice Ao45 t1228.length co45 : Value).ownBlock) (Kd.R_keptB (HO_3.out) hkp (fun k_ hk_ hs_ => (hk_) hs_)) (fun k_ hk_ => hk_.1)); have n1_ := Aside0.mk (Kd.R_reok rfl hy0 (fun k_ e_ => HO_5.out.1 k_ e_)); have n2_ := Aside0.mk (blk_kept (by (with_reducible repeat (first | refine blk_drewN ?_ _ | refine blk_drew ?_ | refine blk_alloc ?_ _)); exact BK1205.out) hkp (fun hs_ => (fun e_ => (Kd.R_ne HO_5.out BK1205.out (by decide)) e_) hs_)); have n3_ := Aside0.mk (hb); clear HO_3; clear HO_5; clear BK1205; clear HB; have HO_3 := n0_; have HO_5 := n1_; have BK1205 := n2_; have HB := n3_; clear n0_ n1_ n2_ n3_; (try clear hb); (try clear hkp); (try clear hy0)) | ((with_reducible refine gate_callee (f := 46) rfl ?_); refine goesL_ (some 37) rfl rfl Try.func46 (by kernel_rfl) rfl #[.slice Ao45 t1234.length co45, .int .i64 1] rfl (by (try simp only [List.map_toArray, List.map_cons, List.map_nil]); first | done | (rw [show t1234.length = t1228.length from (Kd.R_reads' HO_5.out).1.symm] <;> rfl) | rfl | (simp only [List.length_drop, List.length_take]; rfl)) ?_; (with_reducible refine (laws_heldInt64S.calls kj5 _ _ t1234 1 t1235 _ ?side1 ?side2 A22.out).mono ?_); (case side1 => repeat (first | exact (Kd.R_reads' HO_5.out).2.2 | (with_reducible refine Kd.C_alloc ?_ _) | (with_reducible refine Kd.C_drewN ?_ _) | (with_reducible refine Kd.C_drew ?_))); (case side2 => rw [show t1234.length = t1228.length from (Kd.R_reads' HO_5.out).1.symm]; exact (Kd.R_reads' HO_5.out).2.1); rintro e w' ⟨rfl, ⟨nd, rfl⟩⟩; refine ⟨_, rfl, ?_⟩))
            go_ret
            exact ⟨by first | rfl | (simp [errW_none, errW_some] <;> rfl) | (simp [*, errW_none, errW_some] <;> rfl), by repeat (first | (with_reducible first | exact HB.out | apply below_alloc | apply pw_below_drewN | apply below_drew1 | refine below_set ?_ GE1205.out) | exact HB.out)⟩

end Go.Proofs.Ythlbcjoogcanmaa.Q
