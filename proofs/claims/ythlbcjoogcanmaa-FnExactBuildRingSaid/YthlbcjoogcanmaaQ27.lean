-- Written by a program of this claim's session (gprint.py over the kit's print); not typed by hand; Lean checks it.
import Derived.Test.YthlbcjoogcanmaaQ0
import Derived.Test.YthlbcjoogcanmaaQ3
import Derived.Test.YthlbcjoogcanmaaQ4
import Derived.Test.YthlbcjoogcanmaaQ6
import Derived.Test.YthlbcjoogcanmaaQ7
import Derived.Test.YthlbcjoogcanmaaQ9
import Derived.Test.YthlbcjoogcanmaaQ13
import Derived.Test.YthlbcjoogcanmaaGTurn
namespace Go.Proofs.Ythlbcjoogcanmaa.Q
open Go.RowKit Go.Proofs.YthlbcjoogcanmaaW.PrintWords Go.Proofs.YthlbcjoogcanmaaW.PrintLast Go.Proofs.YthlbcjoogcanmaaW.PrintMore
attribute [local go_sem] max2_int min2_int max_two min_two max_three min_three max_four min_four   -- for this text's walks alone
set_option linter.unusedVariables false
set_option linter.unusedSimpArgs false

/-! ### spec_l03Is: function 111 -/
def spec_l03Is.f (a0_0 : Int) (a0_1 : Int) : Option (Bool) := (spec_l00In.f a0_0 0 1).bind fun t991 => (if t991 = true then ((spec_l00In.f a0_1 0 15).bind fun t992 => (some t992)) else (some false))
set_option maxHeartbeats 8000000 in
set_option maxRecDepth 100000 in
theorem spec_l03Is.calls (a0_0 : Int) (a0_1 : Int) (r : Bool) (w : World) (h : spec_l03Is.f a0_0 a0_1 = some r) :
    Calls Try.prog 111 #[.agg #[.int .i64 a0_0, .int .i64 a0_1]] w fun e w' => e = .returned (.bool r) ∧ Below w.heap.size w w' := by
  have hu75 := Try.underlying75
  have HB := Aside0.mk (Below.refl w.heap.size w)
  have H : ((spec_l00In.f a0_0 0 1).bind fun t991 => (if t991 = true then ((spec_l00In.f a0_1 0 15).bind fun t992 => (some t992)) else (some false))) = some r := h
  clear h
  replace H := Option.bind_eq_some_iff.mp H
  obtain ⟨t991, A20, H⟩ := H
  replace H : (if t991 = true then ((spec_l00In.f a0_1 0 15).bind fun t992 => (some t992)) else (some false)) = some r := H
  have A2 := Aside0.mk A20
  clear A20
  by_cases c3 : t991 = true
  · subst c3
    have H1 : ((spec_l00In.f a0_1 0 15).bind fun t992 => (some t992)) = some r := by rw [if_pos rfl] at H; exact H
    clear H
    have H := H1
    clear H1
    replace H := Option.bind_eq_some_iff.mp H
    obtain ⟨t992, A40, H⟩ := H
    replace H : (some t992) = some r := H
    have A4 := Aside0.mk A40
    clear A40
    obtain rfl := Option.some.inj H
    go_enter Try.func111, Try.ntmps111
    go_wp2_with (first | ((with_reducible refine gate_dst (N := 1) rfl ?_); refine box_event ?hg (N := 1) ?hd (cs := #[.int .i64 a0_0, .int .i64 a0_1]) (t := 75) ?hr ?_; (case hd => rfl); (case hg => rfl); (case hr => first | (go_simp; done) | (go_simp; rfl)); intro gb990 hg w5 hbox hb; have n0_ := Aside0.mk (below_step (by repeat (first | (with_reducible first | exact HB.out | apply below_alloc | apply pw_below_drewN | apply below_drew1) | exact HB.out)) hb); have n1_ := Aside0.mk (hbox); have n2_ := Aside0.mk ((by rw [hg]; exact (below_size (by repeat (first | (with_reducible first | exact HB.out | apply below_alloc | apply pw_below_drewN | apply below_drew1) | exact HB.out))) : w.heap.size ≤ gb990)); have n3_ := Aside0.mk ((by rw [hg]; exact (below_size (by repeat (first | (with_reducible first | exact HB.out | apply below_alloc | apply pw_below_drewN | apply below_drew1) | exact HB.out))) : w.heap.size ≤ gb990)); clear HB; have HB := n0_; have BK990 := n1_; have GW990 := n2_; have GE990 := n3_; clear n0_ n1_ n2_ n3_; clear hb hbox hg; have hcz6_0 : w5.cell? ⟨gb990, 0, none⟩ = some (.int .i64 a0_0) := (blk_cell BK990.out 0).trans rfl; have hcz6_1 : w5.cell? ⟨gb990, 1, none⟩ = some (.int .i64 a0_1) := (blk_cell BK990.out 1).trans rfl; have hfz6_0 := blk_frozen BK990.out 0; have hfz6_1 := blk_frozen BK990.out 1) | ((with_reducible refine gate_callee (f := 96) rfl ?_); refine goesL_ (some 5) rfl rfl Try.func96 (by kernel_rfl) rfl #[.int .i64 a0_0, .int .i64 0, .int .i64 1] rfl (by (try simp only [List.map_toArray, List.map_cons, List.map_nil]); first | done | rfl | (simp only [List.length_drop, List.length_take]; rfl)) ?_; (with_reducible refine (spec_l00In.calls a0_0 0 1 true _ A2.out).mono ?_); rintro e w' ⟨rfl, ⟨nd, rfl⟩⟩; refine ⟨_, rfl, ?_⟩) | (go_at_call 96; (with_reducible refine (spec_l00In.calls a0_1 0 15 t992 _ A4.out).mono ?_); rintro e w' ⟨rfl, ⟨nd, rfl⟩⟩))
    go_ret
    exact ⟨by first | rfl | (simp [errW_none, errW_some] <;> rfl) | (simp [*, errW_none, errW_some] <;> rfl), by repeat (first | (with_reducible first | exact HB.out | apply below_alloc | apply pw_below_drewN | apply below_drew1 | refine below_set ?_ GE990.out) | exact HB.out)⟩
  · replace c3 := Bool.eq_false_iff.mpr c3
    subst c3
    have H1 : (some false) = some r := by rw [if_neg (show ¬ (false = true) by decide)] at H; exact H
    clear H
    have H := H1
    clear H1
    obtain rfl := Option.some.inj H
    go_enter Try.func111, Try.ntmps111
    go_wp2_with (first | ((with_reducible refine gate_dst (N := 1) rfl ?_); refine box_event ?hg (N := 1) ?hd (cs := #[.int .i64 a0_0, .int .i64 a0_1]) (t := 75) ?hr ?_; (case hd => rfl); (case hg => rfl); (case hr => first | (go_simp; done) | (go_simp; rfl)); intro gb990 hg w7 hbox hb; have n0_ := Aside0.mk (below_step (by repeat (first | (with_reducible first | exact HB.out | apply below_alloc | apply pw_below_drewN | apply below_drew1) | exact HB.out)) hb); have n1_ := Aside0.mk (hbox); have n2_ := Aside0.mk ((by rw [hg]; exact (below_size (by repeat (first | (with_reducible first | exact HB.out | apply below_alloc | apply pw_below_drewN | apply below_drew1) | exact HB.out))) : w.heap.size ≤ gb990)); have n3_ := Aside0.mk ((by rw [hg]; exact (below_size (by repeat (first | (with_reducible first | exact HB.out | apply below_alloc | apply pw_below_drewN | apply below_drew1) | exact HB.out))) : w.heap.size ≤ gb990)); clear HB; have HB := n0_; have BK990 := n1_; have GW990 := n2_; have GE990 := n3_; clear n0_ n1_ n2_ n3_; clear hb hbox hg; have hcz8_0 : w7.cell? ⟨gb990, 0, none⟩ = some (.int .i64 a0_0) := (blk_cell BK990.out 0).trans rfl; have hcz8_1 : w7.cell? ⟨gb990, 1, none⟩ = some (.int .i64 a0_1) := (blk_cell BK990.out 1).trans rfl; have hfz8_0 := blk_frozen BK990.out 0; have hfz8_1 := blk_frozen BK990.out 1) | ((with_reducible refine gate_callee (f := 96) rfl ?_); refine goesL_ (some 5) rfl rfl Try.func96 (by kernel_rfl) rfl #[.int .i64 a0_0, .int .i64 0, .int .i64 1] rfl (by (try simp only [List.map_toArray, List.map_cons, List.map_nil]); first | done | rfl | (simp only [List.length_drop, List.length_take]; rfl)) ?_; (with_reducible refine (spec_l00In.calls a0_0 0 1 false _ A2.out).mono ?_); rintro e w' ⟨rfl, ⟨nd, rfl⟩⟩; refine ⟨_, rfl, ?_⟩))
    go_ret
    exact ⟨by first | rfl | (simp [errW_none, errW_some] <;> rfl) | (simp [*, errW_none, errW_some] <;> rfl), by repeat (first | (with_reducible first | exact HB.out | apply below_alloc | apply pw_below_drewN | apply below_drew1 | refine below_set ?_ GE990.out) | exact HB.out)⟩

/-! ### spec_l03Turn: function 112 -/
def spec_l03Turn.f (a0_0 : Int) (a0_1 : Int) : Option (Int × Int) := if a0_0 = 0 then (some (0, 0)) else ((some (([10, 9, 7, 4, 0, (-4), (-7), (-9), (-10), (-9), (-7), (-4), 0, 4, 7, 9] : List Int) : List Int)).bind fun y994 => (if 0 ≤ a0_1 then (if a0_1 < (y994.length : Int) then (if 0 ≤ (Int.tmod (wrap64 (a0_1 + 12)) 16) then (if (Int.tmod (wrap64 (a0_1 + 12)) 16) < (y994.length : Int) then (some (rd y994 a0_1, rd y994 (Int.tmod (wrap64 (a0_1 + 12)) 16))) else (none)) else (none)) else (none)) else (none)))
set_option maxHeartbeats 8000000 in
set_option maxRecDepth 100000 in
theorem spec_l03Turn.calls (a0_0 : Int) (a0_1 : Int) (r1 : Int) (r2 : Int) (w : World) (h : spec_l03Turn.f a0_0 a0_1 = some (r1, r2)) :
    Calls Try.prog 112 #[.agg #[.int .i64 a0_0, .int .i64 a0_1]] w fun e w' => e = .returned (.tuple #[.int .i64 r1, .int .i64 r2]) ∧ Below w.heap.size w w' := by
  have hu75 := Try.underlying75
  have HB := Aside0.mk (Below.refl w.heap.size w)
  have H : (if a0_0 = 0 then (some (0, 0)) else ((some (([10, 9, 7, 4, 0, (-4), (-7), (-9), (-10), (-9), (-7), (-4), 0, 4, 7, 9] : List Int) : List Int)).bind fun y994 => (if 0 ≤ a0_1 then (if a0_1 < (y994.length : Int) then (if 0 ≤ (Int.tmod (wrap64 (a0_1 + 12)) 16) then (if (Int.tmod (wrap64 (a0_1 + 12)) 16) < (y994.length : Int) then (some (rd y994 a0_1, rd y994 (Int.tmod (wrap64 (a0_1 + 12)) 16))) else (none)) else (none)) else (none)) else (none)))) = some (r1, r2) := h
  clear h
  by_cases c2 : a0_0 = 0
  · rw [if_pos c2] at H
    have c2b0 : (a0_0 == 0) = true := beq_iff_eq.mpr c2
    have c2b1 : (a0_0 != 0) = false := bne_eq_false_iff_eq.mpr c2
    clear c2
    simp only [Option.some.injEq, Prod.mk.injEq] at H
    obtain ⟨rfl, rfl⟩ := H
    go_enter Try.func112, Try.ntmps112
    go_wp2_with (first | ((with_reducible refine gate_dst (N := 1) rfl ?_); refine box_event ?hg (N := 1) ?hd (cs := #[.int .i64 a0_0, .int .i64 a0_1]) (t := 75) ?hr ?_; (case hd => rfl); (case hg => rfl); (case hr => first | (go_simp; done) | (go_simp; rfl)); intro gb993 hg w3 hbox hb; have n0_ := Aside0.mk (below_step (by repeat (first | (with_reducible first | exact HB.out | apply below_alloc | apply pw_below_drewN | apply below_drew1) | exact HB.out)) hb); have n1_ := Aside0.mk (hbox); have n2_ := Aside0.mk ((by rw [hg]; exact (below_size (by repeat (first | (with_reducible first | exact HB.out | apply below_alloc | apply pw_below_drewN | apply below_drew1) | exact HB.out))) : w.heap.size ≤ gb993)); have n3_ := Aside0.mk ((by rw [hg]; exact (below_size (by repeat (first | (with_reducible first | exact HB.out | apply below_alloc | apply pw_below_drewN | apply below_drew1) | exact HB.out))) : w.heap.size ≤ gb993)); clear HB; have HB := n0_; have BK993 := n1_; have GW993 := n2_; have GE993 := n3_; clear n0_ n1_ n2_ n3_; clear hb hbox hg; have hcz4_0 : w3.cell? ⟨gb993, 0, none⟩ = some (.int .i64 a0_0) := (blk_cell BK993.out 0).trans rfl; have hcz4_1 : w3.cell? ⟨gb993, 1, none⟩ = some (.int .i64 a0_1) := (blk_cell BK993.out 1).trans rfl; have hfz4_0 := blk_frozen BK993.out 0; have hfz4_1 := blk_frozen BK993.out 1))
    repeat (go_quiet (first | ((with_reducible refine gate_dst (N := 1) rfl ?_); refine box_event ?hg (N := 1) ?hd (cs := #[.int .i64 a0_0, .int .i64 a0_1]) (t := 75) ?hr ?_; (case hd => rfl); (case hg => rfl); (case hr => first | (go_simp; done) | (go_simp; rfl)); intro gb993 hg w3 hbox hb; have n0_ := Aside0.mk (below_step (by repeat (first | (with_reducible first | exact HB.out | apply below_alloc | apply pw_below_drewN | apply below_drew1) | exact HB.out)) hb); have n1_ := Aside0.mk (hbox); have n2_ := Aside0.mk ((by rw [hg]; exact (below_size (by repeat (first | (with_reducible first | exact HB.out | apply below_alloc | apply pw_below_drewN | apply below_drew1) | exact HB.out))) : w.heap.size ≤ gb993)); have n3_ := Aside0.mk ((by rw [hg]; exact (below_size (by repeat (first | (with_reducible first | exact HB.out | apply below_alloc | apply pw_below_drewN | apply below_drew1) | exact HB.out))) : w.heap.size ≤ gb993)); clear HB; have HB := n0_; have BK993 := n1_; have GW993 := n2_; have GE993 := n3_; clear n0_ n1_ n2_ n3_; clear hb hbox hg; have hcz4_0 : w3.cell? ⟨gb993, 0, none⟩ = some (.int .i64 a0_0) := (blk_cell BK993.out 0).trans rfl; have hcz4_1 : w3.cell? ⟨gb993, 1, none⟩ = some (.int .i64 a0_1) := (blk_cell BK993.out 1).trans rfl; have hfz4_0 := blk_frozen BK993.out 0; have hfz4_1 := blk_frozen BK993.out 1)); try go_wp2_with (first | ((with_reducible refine gate_dst (N := 1) rfl ?_); refine box_event ?hg (N := 1) ?hd (cs := #[.int .i64 a0_0, .int .i64 a0_1]) (t := 75) ?hr ?_; (case hd => rfl); (case hg => rfl); (case hr => first | (go_simp; done) | (go_simp; rfl)); intro gb993 hg w3 hbox hb; have n0_ := Aside0.mk (below_step (by repeat (first | (with_reducible first | exact HB.out | apply below_alloc | apply pw_below_drewN | apply below_drew1) | exact HB.out)) hb); have n1_ := Aside0.mk (hbox); have n2_ := Aside0.mk ((by rw [hg]; exact (below_size (by repeat (first | (with_reducible first | exact HB.out | apply below_alloc | apply pw_below_drewN | apply below_drew1) | exact HB.out))) : w.heap.size ≤ gb993)); have n3_ := Aside0.mk ((by rw [hg]; exact (below_size (by repeat (first | (with_reducible first | exact HB.out | apply below_alloc | apply pw_below_drewN | apply below_drew1) | exact HB.out))) : w.heap.size ≤ gb993)); clear HB; have HB := n0_; have BK993 := n1_; have GW993 := n2_; have GE993 := n3_; clear n0_ n1_ n2_ n3_; clear hb hbox hg; have hcz4_0 : w3.cell? ⟨gb993, 0, none⟩ = some (.int .i64 a0_0) := (blk_cell BK993.out 0).trans rfl; have hcz4_1 : w3.cell? ⟨gb993, 1, none⟩ = some (.int .i64 a0_1) := (blk_cell BK993.out 1).trans rfl; have hfz4_0 := blk_frozen BK993.out 0; have hfz4_1 := blk_frozen BK993.out 1)))
    go_ret2
    exact ⟨by first | rfl | (simp [errW_none, errW_some] <;> rfl) | (simp [*, errW_none, errW_some] <;> rfl), by repeat (first | (with_reducible first | exact HB.out | apply below_alloc | apply pw_below_drewN | apply below_drew1 | refine below_set ?_ GE993.out) | exact HB.out)⟩
  · rw [if_neg c2] at H
    have c2b0 : (a0_0 == 0) = false := beq_eq_false_iff_ne.mpr c2
    have c2b1 : (a0_0 != 0) = true := bne_iff_ne.mpr c2
    obtain ⟨y994, hy994⟩ : ∃ y_ : List Int, y_ = (([10, 9, 7, 4, 0, (-4), (-7), (-9), (-10), (-9), (-7), (-4), 0, 4, 7, 9] : List Int)) := ⟨_, rfl⟩
    replace H : (if 0 ≤ a0_1 then (if a0_1 < (y994.length : Int) then (if 0 ≤ (Int.tmod (wrap64 (a0_1 + 12)) 16) then (if (Int.tmod (wrap64 (a0_1 + 12)) 16) < (y994.length : Int) then (some (rd y994 a0_1, rd y994 (Int.tmod (wrap64 (a0_1 + 12)) 16))) else (none)) else (none)) else (none)) else (none)) = some (r1, r2) := by first | (rw [hy994]; with_reducible exact H) | (have H2_ := (Option.bind_some _ _).symm.trans H; rw [hy994]; with_reducible exact H2_) | (have H2_ := (Option.bind_some _ _).symm.trans H; with_reducible exact H2_) | with_reducible exact H | (rw [hy994]; exact H) | exact H
    have Ny994 := Aside0.mk hy994
    clear hy994
    by_cases c5 : 0 ≤ a0_1
    · rw [if_pos c5] at H
      have c5b0 : decide (0 ≤ a0_1) = true := decide_eq_true c5
      clear c5
      by_cases c6 : a0_1 < (y994.length : Int)
      · rw [if_pos c6] at H
        have c6b0 : decide (a0_1 < (y994.length : Int)) = true := decide_eq_true c6
        clear c6
        obtain ⟨ji7, hji7⟩ : ∃ j_ : Int, (Int.tmod (wrap64 (a0_1 + 12)) 16) = j_ := ⟨_, rfl⟩
        replace H : (if 0 ≤ (ji7) then (if (ji7) < (y994.length : Int) then (some (rd y994 a0_1, rd y994 (ji7))) else (none)) else (none)) = some (r1, r2) := by first | (rw [hji7] at H; exact H) | (simp only [hji7] at H ⊢; exact H)
        by_cases c8 : 0 ≤ (ji7)
        · rw [if_pos c8] at H
          have c8b0 : decide (0 ≤ (ji7)) = true := decide_eq_true c8
          clear c8
          by_cases c9 : (ji7) < (y994.length : Int)
          · rw [if_pos c9] at H
            have c9b0 : decide ((ji7) < (y994.length : Int)) = true := decide_eq_true c9
            clear c9
            simp only [Option.some.injEq, Prod.mk.injEq] at H
            obtain ⟨rfl, rfl⟩ := H
            go_enter Try.func112, Try.ntmps112
            go_wp2_with (first | ((with_reducible refine gate_dst (N := 1) rfl ?_); refine box_event ?hg (N := 1) ?hd (cs := #[.int .i64 a0_0, .int .i64 a0_1]) (t := 75) ?hr ?_; (case hd => rfl); (case hg => rfl); (case hr => first | (go_simp; done) | (go_simp; rfl)); intro gb993 hg w10 hbox hb; have n0_ := Aside0.mk (below_step (by repeat (first | (with_reducible first | exact HB.out | apply below_alloc | apply pw_below_drewN | apply below_drew1) | exact HB.out)) hb); have n1_ := Aside0.mk (hbox); have n2_ := Aside0.mk ((by rw [hg]; exact (below_size (by repeat (first | (with_reducible first | exact HB.out | apply below_alloc | apply pw_below_drewN | apply below_drew1) | exact HB.out))) : w.heap.size ≤ gb993)); have n3_ := Aside0.mk ((by rw [hg]; exact (below_size (by repeat (first | (with_reducible first | exact HB.out | apply below_alloc | apply pw_below_drewN | apply below_drew1) | exact HB.out))) : w.heap.size ≤ gb993)); clear HB; have HB := n0_; have BK993 := n1_; have GW993 := n2_; have GE993 := n3_; clear n0_ n1_ n2_ n3_; clear hb hbox hg; have hcz11_0 : w10.cell? ⟨gb993, 0, none⟩ = some (.int .i64 a0_0) := (blk_cell BK993.out 0).trans rfl; have hcz11_1 : w10.cell? ⟨gb993, 1, none⟩ = some (.int .i64 a0_1) := (blk_cell BK993.out 1).trans rfl; have hfz11_0 := blk_frozen BK993.out 0; have hfz11_1 := blk_frozen BK993.out 1) | ((with_reducible refine gate_dst (N := 8) rfl ?_); refine Kd.R_lit (Kd.int .i64) _ 2 ?hg (N := 8) ?hd (xs := ([10, 9, 7, 4, 0, (-4), (-7), (-9), (-10), (-9), (-7), (-4), 0, 4, 7, 9] : List Int)) (inner := [.int .i64 10, .int .i64 9, .int .i64 7, .int .i64 4, .int .i64 0, .int .i64 (-4), .int .i64 (-7), .int .i64 (-9), .int .i64 (-10), .int .i64 (-9), .int .i64 (-7), .int .i64 (-4), .int .i64 0, .int .i64 4, .int .i64 7, .int .i64 9]) (ok := fun _ => True) (okp := fun _ => True) ?hr ?hp (fun _ hk => hk) trivial (Below.refl _ _) (Nat.le_refl _) (by simp) ?_; (case hd => rfl); (case hg => rfl); (case hr => first | (go_simp; done) | (go_simp; rfl)); (case hp => exact (Reps.one (show Kd.M (Kd.int .i64) _ _ _ 10 [.int .i64 10] from rfl) (Reps.one (show Kd.M (Kd.int .i64) _ _ _ 9 [.int .i64 9] from rfl) (Reps.one (show Kd.M (Kd.int .i64) _ _ _ 7 [.int .i64 7] from rfl) (Reps.one (show Kd.M (Kd.int .i64) _ _ _ 4 [.int .i64 4] from rfl) (Reps.one (show Kd.M (Kd.int .i64) _ _ _ 0 [.int .i64 0] from rfl) (Reps.one (show Kd.M (Kd.int .i64) _ _ _ (-4) [.int .i64 (-4)] from rfl) (Reps.one (show Kd.M (Kd.int .i64) _ _ _ (-7) [.int .i64 (-7)] from rfl) (Reps.one (show Kd.M (Kd.int .i64) _ _ _ (-9) [.int .i64 (-9)] from rfl) (Reps.one (show Kd.M (Kd.int .i64) _ _ _ (-10) [.int .i64 (-10)] from rfl) (Reps.one (show Kd.M (Kd.int .i64) _ _ _ (-9) [.int .i64 (-9)] from rfl) (Reps.one (show Kd.M (Kd.int .i64) _ _ _ (-7) [.int .i64 (-7)] from rfl) (Reps.one (show Kd.M (Kd.int .i64) _ _ _ (-4) [.int .i64 (-4)] from rfl) (Reps.one (show Kd.M (Kd.int .i64) _ _ _ 0 [.int .i64 0] from rfl) (Reps.one (show Kd.M (Kd.int .i64) _ _ _ 4 [.int .i64 4] from rfl) (Reps.one (show Kd.M (Kd.int .i64) _ _ _ 7 [.int .i64 7] from rfl) (Reps.one (show Kd.M (Kd.int .i64) _ _ _ 9 [.int .i64 9] from rfl) (Reps.none _ _)))))))))))))))))); intro v995 w12 ho13 hb hg_ hnew_; clear hg_ hnew_; (first | rw [← Ny994.out] at ho13 | (simp only [Int.reduceToNat] at ho13; rw [← Ny994.out] at ho13)); have n0_ := Aside0.mk (Kd.R_lower ho13 (below_size (by repeat (first | (with_reducible first | exact HB.out | apply below_alloc | apply pw_below_drewN | apply below_drew1 | refine below_set ?_ GE993.out) | exact HB.out)))); have n1_ := Aside0.mk (blk_below (g := gb993) (o := .cells #[.int .i64 a0_0, .int .i64 a0_1] 75 (0, 0)) (by (with_reducible repeat (first | refine blk_drewN ?_ _ | refine blk_drew ?_ | refine blk_alloc ?_ _)); exact BK993.out) hb); have n2_ := Aside0.mk (below_step (by repeat (first | (with_reducible first | exact HB.out | apply below_alloc | apply pw_below_drewN | apply below_drew1 | refine below_set ?_ GE993.out) | exact HB.out)) hb); clear BK993; clear HB; have HO996 := n0_; have BK993 := n1_; have HB := n2_; clear n0_ n1_ n2_; clear hb ho13; have hcz14_0 : w12.cell? ⟨gb993, 0, none⟩ = some (.int .i64 a0_0) := (blk_cell BK993.out 0).trans rfl; have hcz14_1 : w12.cell? ⟨gb993, 1, none⟩ = some (.int .i64 a0_1) := (blk_cell BK993.out 1).trans rfl; have hfz14_0 := blk_frozen BK993.out 0; have hfz14_1 := blk_frozen BK993.out 1; obtain ⟨Ao15, co15, eo15⟩ := Kd.R_slice HO996.out; subst eo15; have p997 : 0 ≤ (a0_1 : Int) := of_decide_eq_true (by first | (with_reducible assumption) | assumption); have q997 : a0_1 < (y994.length : Int) := of_decide_eq_true (by first | (with_reducible assumption) | assumption); obtain ⟨ad997, e997, hx997_0⟩ := Kd.at_int (Kd.R_reads' HO996.out).2.2 a0_1 p997 q997; cases e997; replace p997 := eq_true p997; replace q997 := eq_true q997; have p998 : 0 ≤ ((ji7) : Int) := of_decide_eq_true (by first | (with_reducible assumption) | assumption); have q998 : (ji7) < (y994.length : Int) := of_decide_eq_true (by first | (with_reducible assumption) | assumption); obtain ⟨ad998, e998, hx998_0⟩ := Kd.at_int (Kd.R_reads' HO996.out).2.2 (ji7) p998 q998; obtain rfl : ad997 = ad998 := (by injection e998); replace p998 := eq_true p998; replace q998 := eq_true q998))
            repeat (go_quiet (first | ((with_reducible refine gate_dst (N := 1) rfl ?_); refine box_event ?hg (N := 1) ?hd (cs := #[.int .i64 a0_0, .int .i64 a0_1]) (t := 75) ?hr ?_; (case hd => rfl); (case hg => rfl); (case hr => first | (go_simp; done) | (go_simp; rfl)); intro gb993 hg w10 hbox hb; have n0_ := Aside0.mk (below_step (by repeat (first | (with_reducible first | exact HB.out | apply below_alloc | apply pw_below_drewN | apply below_drew1) | exact HB.out)) hb); have n1_ := Aside0.mk (hbox); have n2_ := Aside0.mk ((by rw [hg]; exact (below_size (by repeat (first | (with_reducible first | exact HB.out | apply below_alloc | apply pw_below_drewN | apply below_drew1) | exact HB.out))) : w.heap.size ≤ gb993)); have n3_ := Aside0.mk ((by rw [hg]; exact (below_size (by repeat (first | (with_reducible first | exact HB.out | apply below_alloc | apply pw_below_drewN | apply below_drew1) | exact HB.out))) : w.heap.size ≤ gb993)); clear HB; have HB := n0_; have BK993 := n1_; have GW993 := n2_; have GE993 := n3_; clear n0_ n1_ n2_ n3_; clear hb hbox hg; have hcz11_0 : w10.cell? ⟨gb993, 0, none⟩ = some (.int .i64 a0_0) := (blk_cell BK993.out 0).trans rfl; have hcz11_1 : w10.cell? ⟨gb993, 1, none⟩ = some (.int .i64 a0_1) := (blk_cell BK993.out 1).trans rfl; have hfz11_0 := blk_frozen BK993.out 0; have hfz11_1 := blk_frozen BK993.out 1) | ((with_reducible refine gate_dst (N := 8) rfl ?_); refine Kd.R_lit (Kd.int .i64) _ 2 ?hg (N := 8) ?hd (xs := ([10, 9, 7, 4, 0, (-4), (-7), (-9), (-10), (-9), (-7), (-4), 0, 4, 7, 9] : List Int)) (inner := [.int .i64 10, .int .i64 9, .int .i64 7, .int .i64 4, .int .i64 0, .int .i64 (-4), .int .i64 (-7), .int .i64 (-9), .int .i64 (-10), .int .i64 (-9), .int .i64 (-7), .int .i64 (-4), .int .i64 0, .int .i64 4, .int .i64 7, .int .i64 9]) (ok := fun _ => True) (okp := fun _ => True) ?hr ?hp (fun _ hk => hk) trivial (Below.refl _ _) (Nat.le_refl _) (by simp) ?_; (case hd => rfl); (case hg => rfl); (case hr => first | (go_simp; done) | (go_simp; rfl)); (case hp => exact (Reps.one (show Kd.M (Kd.int .i64) _ _ _ 10 [.int .i64 10] from rfl) (Reps.one (show Kd.M (Kd.int .i64) _ _ _ 9 [.int .i64 9] from rfl) (Reps.one (show Kd.M (Kd.int .i64) _ _ _ 7 [.int .i64 7] from rfl) (Reps.one (show Kd.M (Kd.int .i64) _ _ _ 4 [.int .i64 4] from rfl) (Reps.one (show Kd.M (Kd.int .i64) _ _ _ 0 [.int .i64 0] from rfl) (Reps.one (show Kd.M (Kd.int .i64) _ _ _ (-4) [.int .i64 (-4)] from rfl) (Reps.one (show Kd.M (Kd.int .i64) _ _ _ (-7) [.int .i64 (-7)] from rfl) (Reps.one (show Kd.M (Kd.int .i64) _ _ _ (-9) [.int .i64 (-9)] from rfl) (Reps.one (show Kd.M (Kd.int .i64) _ _ _ (-10) [.int .i64 (-10)] from rfl) (Reps.one (show Kd.M (Kd.int .i64) _ _ _ (-9) [.int .i64 (-9)] from rfl) (Reps.one (show Kd.M (Kd.int .i64) _ _ _ (-7) [.int .i64 (-7)] from rfl) (Reps.one (show Kd.M (Kd.int .i64) _ _ _ (-4) [.int .i64 (-4)] from rfl) (Reps.one (show Kd.M (Kd.int .i64) _ _ _ 0 [.int .i64 0] from rfl) (Reps.one (show Kd.M (Kd.int .i64) _ _ _ 4 [.int .i64 4] from rfl) (Reps.one (show Kd.M (Kd.int .i64) _ _ _ 7 [.int .i64 7] from rfl) (Reps.one (show Kd.M (Kd.int .i64) _ _ _ 9 [.int .i64 9] from rfl) (Reps.none _ _)))))))))))))))))); intro v995 w12 ho13 hb hg_ hnew_; clear hg_ hnew_; (first | rw [← Ny994.out] at ho13 | (simp only [Int.reduceToNat] at ho13; rw [← Ny994.out] at ho13)); have n0_ := Aside0.mk (Kd.R_lower ho13 (below_size (by repeat (first | (with_reducible first | exact HB.out | apply below_alloc | apply pw_below_drewN | apply below_drew1 | refine below_set ?_ GE993.out) | exact HB.out)))); have n1_ := Aside0.mk (blk_below (g := gb993) (o := .cells #[.int .i64 a0_0, .int .i64 a0_1] 75 (0, 0)) (by (with_reducible repeat (first | refine blk_drewN ?_ _ | refine blk_drew ?_ | refine blk_alloc ?_ _)); exact BK993.out) hb); have n2_ := Aside0.mk (below_step (by repeat (first | (with_reducible first | exact HB.out | apply below_alloc | apply pw_below_drewN | apply below_drew1 | refine below_set ?_ GE993.out) | exact HB.out)) hb); clear BK993; clear HB; have HO996 := n0_; have BK993 := n1_; have HB := n2_; clear n0_ n1_ n2_; clear hb ho13; have hcz14_0 : w12.cell? ⟨gb993, 0, none⟩ = some (.int .i64 a0_0) := (blk_cell BK993.out 0).trans rfl; have hcz14_1 : w12.cell? ⟨gb993, 1, none⟩ = some (.int .i64 a0_1) := (blk_cell BK993.out 1).trans rfl; have hfz14_0 := blk_frozen BK993.out 0; have hfz14_1 := blk_frozen BK993.out 1; obtain ⟨Ao15, co15, eo15⟩ := Kd.R_slice HO996.out; subst eo15; have p997 : 0 ≤ (a0_1 : Int) := of_decide_eq_true (by first | (with_reducible assumption) | assumption); have q997 : a0_1 < (y994.length : Int) := of_decide_eq_true (by first | (with_reducible assumption) | assumption); obtain ⟨ad997, e997, hx997_0⟩ := Kd.at_int (Kd.R_reads' HO996.out).2.2 a0_1 p997 q997; cases e997; replace p997 := eq_true p997; replace q997 := eq_true q997; have p998 : 0 ≤ ((ji7) : Int) := of_decide_eq_true (by first | (with_reducible assumption) | assumption); have q998 : (ji7) < (y994.length : Int) := of_decide_eq_true (by first | (with_reducible assumption) | assumption); obtain ⟨ad998, e998, hx998_0⟩ := Kd.at_int (Kd.R_reads' HO996.out).2.2 (ji7) p998 q998; obtain rfl : ad997 = ad998 := (by injection e998); replace p998 := eq_true p998; replace q998 := eq_true q998)); try go_wp2_with (first | ((with_reducible refine gate_dst (N := 1) rfl ?_); refine box_event ?hg (N := 1) ?hd (cs := #[.int .i64 a0_0, .int .i64 a0_1]) (t := 75) ?hr ?_; (case hd => rfl); (case hg => rfl); (case hr => first | (go_simp; done) | (go_simp; rfl)); intro gb993 hg w10 hbox hb; have n0_ := Aside0.mk (below_step (by repeat (first | (with_reducible first | exact HB.out | apply below_alloc | apply pw_below_drewN | apply below_drew1) | exact HB.out)) hb); have n1_ := Aside0.mk (hbox); have n2_ := Aside0.mk ((by rw [hg]; exact (below_size (by repeat (first | (with_reducible first | exact HB.out | apply below_alloc | apply pw_below_drewN | apply below_drew1) | exact HB.out))) : w.heap.size ≤ gb993)); have n3_ := Aside0.mk ((by rw [hg]; exact (below_size (by repeat (first | (with_reducible first | exact HB.out | apply below_alloc | apply pw_below_drewN | apply below_drew1) | exact HB.out))) : w.heap.size ≤ gb993)); clear HB; have HB := n0_; have BK993 := n1_; have GW993 := n2_; have GE993 := n3_; clear n0_ n1_ n2_ n3_; clear hb hbox hg; have hcz11_0 : w10.cell? ⟨gb993, 0, none⟩ = some (.int .i64 a0_0) := (blk_cell BK993.out 0).trans rfl; have hcz11_1 : w10.cell? ⟨gb993, 1, none⟩ = some (.int .i64 a0_1) := (blk_cell BK993.out 1).trans rfl; have hfz11_0 := blk_frozen BK993.out 0; have hfz11_1 := blk_frozen BK993.out 1) | ((with_reducible refine gate_dst (N := 8) rfl ?_); refine Kd.R_lit (Kd.int .i64) _ 2 ?hg (N := 8) ?hd (xs := ([10, 9, 7, 4, 0, (-4), (-7), (-9), (-10), (-9), (-7), (-4), 0, 4, 7, 9] : List Int)) (inner := [.int .i64 10, .int .i64 9, .int .i64 7, .int .i64 4, .int .i64 0, .int .i64 (-4), .int .i64 (-7), .int .i64 (-9), .int .i64 (-10), .int .i64 (-9), .int .i64 (-7), .int .i64 (-4), .int .i64 0, .int .i64 4, .int .i64 7, .int .i64 9]) (ok := fun _ => True) (okp := fun _ => True) ?hr ?hp (fun _ hk => hk) trivial (Below.refl _ _) (Nat.le_refl _) (by simp) ?_; (case hd => rfl); (case hg => rfl); (case hr => first | (go_simp; done) | (go_simp; rfl)); (case hp => exact (Reps.one (show Kd.M (Kd.int .i64) _ _ _ 10 [.int .i64 10] from rfl) (Reps.one (show Kd.M (Kd.int .i64) _ _ _ 9 [.int .i64 9] from rfl) (Reps.one (show Kd.M (Kd.int .i64) _ _ _ 7 [.int .i64 7] from rfl) (Reps.one (show Kd.M (Kd.int .i64) _ _ _ 4 [.int .i64 4] from rfl) (Reps.one (show Kd.M (Kd.int .i64) _ _ _ 0 [.int .i64 0] from rfl) (Reps.one (show Kd.M (Kd.int .i64) _ _ _ (-4) [.int .i64 (-4)] from rfl) (Reps.one (show Kd.M (Kd.int .i64) _ _ _ (-7) [.int .i64 (-7)] from rfl) (Reps.one (show Kd.M (Kd.int .i64) _ _ _ (-9) [.int .i64 (-9)] from rfl) (Reps.one (show Kd.M (Kd.int .i64) _ _ _ (-10) [.int .i64 (-10)] from rfl) (Reps.one (show Kd.M (Kd.int .i64) _ _ _ (-9) [.int .i64 (-9)] from rfl) (Reps.one (show Kd.M (Kd.int .i64) _ _ _ (-7) [.int .i64 (-7)] from rfl) (Reps.one (show Kd.M (Kd.int .i64) _ _ _ (-4) [.int .i64 (-4)] from rfl) (Reps.one (show Kd.M (Kd.int .i64) _ _ _ 0 [.int .i64 0] from rfl) (Reps.one (show Kd.M (Kd.int .i64) _ _ _ 4 [.int .i64 4] from rfl) (Reps.one (show Kd.M (Kd.int .i64) _ _ _ 7 [.int .i64 7] from rfl) (Reps.one (show Kd.M (Kd.int .i64) _ _ _ 9 [.int .i64 9] from rfl) (Reps.none _ _)))))))))))))))))); intro v995 w12 ho13 hb hg_ hnew_; clear hg_ hnew_; (first | rw [← Ny994.out] at ho13 | (simp only [Int.reduceToNat] at ho13; rw [← Ny994.out] at ho13)); have n0_ := Aside0.mk (Kd.R_lower ho13 (below_size (by repeat (first | (with_reducible first | exact HB.out | apply below_alloc | apply pw_below_drewN | apply below_drew1 | refine below_set ?_ GE993.out) | exact HB.out)))); have n1_ := Aside0.mk (blk_below (g := gb993) (o := .cells #[.int .i64 a0_0, .int .i64 a0_1] 75 (0, 0)) (by (with_reducible repeat (first | refine blk_drewN ?_ _ | refine blk_drew ?_ | refine blk_alloc ?_ _)); exact BK993.out) hb); have n2_ := Aside0.mk (below_step (by repeat (first | (with_reducible first | exact HB.out | apply below_alloc | apply pw_below_drewN | apply below_drew1 | refine below_set ?_ GE993.out) | exact HB.out)) hb); clear BK993; clear HB; have HO996 := n0_; have BK993 := n1_; have HB := n2_; clear n0_ n1_ n2_; clear hb ho13; have hcz14_0 : w12.cell? ⟨gb993, 0, none⟩ = some (.int .i64 a0_0) := (blk_cell BK993.out 0).trans rfl; have hcz14_1 : w12.cell? ⟨gb993, 1, none⟩ = some (.int .i64 a0_1) := (blk_cell BK993.out 1).trans rfl; have hfz14_0 := blk_frozen BK993.out 0; have hfz14_1 := blk_frozen BK993.out 1; obtain ⟨Ao15, co15, eo15⟩ := Kd.R_slice HO996.out; subst eo15; have p997 : 0 ≤ (a0_1 : Int) := of_decide_eq_true (by first | (with_reducible assumption) | assumption); have q997 : a0_1 < (y994.length : Int) := of_decide_eq_true (by first | (with_reducible assumption) | assumption); obtain ⟨ad997, e997, hx997_0⟩ := Kd.at_int (Kd.R_reads' HO996.out).2.2 a0_1 p997 q997; cases e997; replace p997 := eq_true p997; replace q997 := eq_true q997; have p998 : 0 ≤ ((ji7) : Int) := of_decide_eq_true (by first | (with_reducible assumption) | assumption); have q998 : (ji7) < (y994.length : Int) := of_decide_eq_true (by first | (with_reducible assumption) | assumption); obtain ⟨ad998, e998, hx998_0⟩ := Kd.at_int (Kd.R_reads' HO996.out).2.2 (ji7) p998 q998; obtain rfl : ad997 = ad998 := (by injection e998); replace p998 := eq_true p998; replace q998 := eq_true q998)))
            go_ret2
            exact ⟨by first | rfl | (simp [errW_none, errW_some] <;> rfl) | (simp only [← hji7]; first | rfl | (simp [errW_none, errW_some] <;> rfl)) | (simp [*, errW_none, errW_some] <;> rfl), by repeat (first | (with_reducible first | exact HB.out | apply below_alloc | apply pw_below_drewN | apply below_drew1 | refine below_set ?_ GE993.out) | exact HB.out)⟩
          · rw [if_neg c9] at H
            exact absurd H (by simp)
        · rw [if_neg c8] at H
          exact absurd H (by simp)
      · rw [if_neg c6] at H
        exact absurd H (by simp)
    · rw [if_neg c5] at H
      exact absurd H (by simp)

/-! ### spec_l04Build: function 93 -/
def spec_l04Build.f (k : Nat) (a0_0 : Int) (a0_1 : Int) (a0_2 : Int) (a0_3 : Int) (a0_4 : Int) (a0_5 : Int) (a0_6 : Int) (a0_7 : Int) (a0_8 : Int) (a1_0 : Int) (a1_1 : Int) : Option (Int × Int × Int × Int × Int × Int × Int × Int × Int × Bool) := (spec_l03Is.f a1_0 a1_1).bind fun t1001 => (if t1001 = true then ((spec_l03Turn.f a1_0 a1_1).bind fun bt1002 => ((spec_l02Next.f a0_4 a0_5 a0_6 a0_7 bt1002.1 bt1002.2).bind fun bt1004 => ((spec_l04Is.f k a0_0 a0_1 a0_2 a0_3 bt1004.1 bt1004.2.1 bt1004.2.2.1 bt1004.2.2.2 (wrap64 (a0_8 - 1500))).bind fun t1009 => (if t1009 = true then (some (a0_0, a0_1, a0_2, a0_3, bt1004.1, bt1004.2.1, bt1004.2.2.1, bt1004.2.2.2, wrap64 (a0_8 - 1500), true)) else (some (0, 0, 0, 0, 0, 0, 0, 0, 0, false)))))) else (some (0, 0, 0, 0, 0, 0, 0, 0, 0, false)))
theorem spec_l04Build.mono : ∀ a0 a1 a2 a3 a4 a5 a6 a7 a8 a9 a10 k, LeO (spec_l04Build.f k a0 a1 a2 a3 a4 a5 a6 a7 a8 a9 a10) (spec_l04Build.f (k + 1) a0 a1 a2 a3 a4 a5 a6 a7 a8 a9 a10) := by
  intro a0 a1 a2 a3 a4 a5 a6 a7 a8 a9 a10 k
  unfold spec_l04Build.f
  repeat' first
      | (with_reducible exact spec_l04Is.mono _ _ _ _ _ _ _ _ _ _)
      | (with_reducible exact LeO.refl _)
      | (with_reducible exact LeO.none _)
      | (with_reducible refine LeO.ite ?_ ?_)
      | (with_reducible refine LeO.bind ?_ (fun _ => ?_))
      | exact spec_l04Is.mono _ _ _ _ _ _ _ _ _ _
      | exact LeO.none _
      | refine LeO.ite ?_ ?_
      | refine LeO.bind ?_ (fun _ => ?_)
def spec_l04Build.T4 : Bool × List (List Nat × List Nat) := (true, [([], []), ([0], [0]), ([1], [1]), ([2], [2]), ([], []), ([4], [4]), ([5], [5]), ([6], [6]), ([], []), ([], []), ([7, 8, 9], [7, 8, 9]), ([], []), ([11], [11]), ([12], [12]), ([13], [13]), ([14], [14]), ([3, 10, 15], [3, 10, 15]), ([], []), ([17, 16, 10, 0, 1, 2, 3, 4, 5, 6, 7, 8, 9, 10, 11, 12, 13, 14, 15, 16, 17], [16, 17])])
def spec_l04Build.B4 : List Nat := [0, 1, 3, 7, 0, 16, 48, 112, 0, 0, 1008, 0, 2048, 6144, 14336, 30720, 65535, 0, 262143]
theorem spec_l04Build.tab4 : rtab .any (opsOf Try.f93 4) = spec_l04Build.T4 := by kernel_rfl
theorem spec_l04Build.bits4 : waitsOk spec_l04Build.T4.2 spec_l04Build.B4 = true := by kernel_rfl
set_option maxHeartbeats 8000000 in
set_option maxRecDepth 100000 in
theorem spec_l04Build.calls (k : Nat) (gB0 : Nat) (a0_0 : Int) (a0_1 : Int) (a0_2 : Int) (a0_3 : Int) (a0_4 : Int) (a0_5 : Int) (a0_6 : Int) (a0_7 : Int) (a0_8 : Int) (a1_0 : Int) (a1_1 : Int) (r1 : Int) (r2 : Int) (r3 : Int) (r4 : Int) (r5 : Int) (r6 : Int) (r7 : Int) (r8 : Int) (r9 : Int) (r10 : Bool) (w : World) (hb0 : w.heap[gB0]? = some (.cells #[.int .i64 a0_0, .int .i64 a0_1, .int .i64 a0_2, .int .i64 a0_3, .int .i64 a0_4, .int .i64 a0_5, .int .i64 a0_6, .int .i64 a0_7, .int .i64 a0_8] 58 (0, 0))) (h : spec_l04Build.f k a0_0 a0_1 a0_2 a0_3 a0_4 a0_5 a0_6 a0_7 a0_8 a1_0 a1_1 = some (r1, r2, r3, r4, r5, r6, r7, r8, r9, r10)) :
    Calls Try.prog 93 #[.pointer (some ⟨gB0, 0, none⟩), .agg #[.int .i64 a1_0, .int .i64 a1_1]] w fun e w' => e = .returned (.tuple #[.agg #[.int .i64 r1, .int .i64 r2, .int .i64 r3, .int .i64 r4, .int .i64 r5, .int .i64 r6, .int .i64 r7, .int .i64 r8, .int .i64 r9], .bool r10]) ∧ Below w.heap.size w w' := by
  have hu75 := Try.underlying75
  have hu58 := Try.underlying58
  have hu25 := Try.underlying25
  have BK0 := Aside0.mk hb0
  clear hb0
  have HB := Aside0.mk (Below.refl w.heap.size w)
  have H : ((spec_l03Is.f a1_0 a1_1).bind fun t1001 => (if t1001 = true then ((spec_l03Turn.f a1_0 a1_1).bind fun bt1002 => ((spec_l02Next.f a0_4 a0_5 a0_6 a0_7 bt1002.1 bt1002.2).bind fun bt1004 => ((spec_l04Is.f k a0_0 a0_1 a0_2 a0_3 bt1004.1 bt1004.2.1 bt1004.2.2.1 bt1004.2.2.2 (wrap64 (a0_8 - 1500))).bind fun t1009 => (if t1009 = true then (some (a0_0, a0_1, a0_2, a0_3, bt1004.1, bt1004.2.1, bt1004.2.2.1, bt1004.2.2.2, wrap64 (a0_8 - 1500), true)) else (some (0, 0, 0, 0, 0, 0, 0, 0, 0, false)))))) else (some (0, 0, 0, 0, 0, 0, 0, 0, 0, false)))) = some (r1, r2, r3, r4, r5, r6, r7, r8, r9, r10) := h
  clear h
  replace H := Option.bind_eq_some_iff.mp H
  obtain ⟨t1001, A30, H⟩ := H
  replace H : (if t1001 = true then ((spec_l03Turn.f a1_0 a1_1).bind fun bt1002 => ((spec_l02Next.f a0_4 a0_5 a0_6 a0_7 bt1002.1 bt1002.2).bind fun bt1004 => ((spec_l04Is.f k a0_0 a0_1 a0_2 a0_3 bt1004.1 bt1004.2.1 bt1004.2.2.1 bt1004.2.2.2 (wrap64 (a0_8 - 1500))).bind fun t1009 => (if t1009 = true then (some (a0_0, a0_1, a0_2, a0_3, bt1004.1, bt1004.2.1, bt1004.2.2.1, bt1004.2.2.2, wrap64 (a0_8 - 1500), true)) else (some (0, 0, 0, 0, 0, 0, 0, 0, 0, false)))))) else (some (0, 0, 0, 0, 0, 0, 0, 0, 0, false))) = some (r1, r2, r3, r4, r5, r6, r7, r8, r9, r10) := H
  have A3 := Aside0.mk A30
  clear A30
  by_cases c4 : t1001 = true
  · subst c4
    have H1 : ((spec_l03Turn.f a1_0 a1_1).bind fun bt1002 => ((spec_l02Next.f a0_4 a0_5 a0_6 a0_7 bt1002.1 bt1002.2).bind fun bt1004 => ((spec_l04Is.f k a0_0 a0_1 a0_2 a0_3 bt1004.1 bt1004.2.1 bt1004.2.2.1 bt1004.2.2.2 (wrap64 (a0_8 - 1500))).bind fun t1009 => (if t1009 = true then (some (a0_0, a0_1, a0_2, a0_3, bt1004.1, bt1004.2.1, bt1004.2.2.1, bt1004.2.2.2, wrap64 (a0_8 - 1500), true)) else (some (0, 0, 0, 0, 0, 0, 0, 0, 0, false)))))) = some (r1, r2, r3, r4, r5, r6, r7, r8, r9, r10) := by rw [if_pos rfl] at H; exact H
    clear H
    have H := H1
    clear H1
    replace H := Option.bind_eq_some_iff.mp H
    obtain ⟨⟨t1002, t1003⟩, A50, H⟩ := H
    replace H : ((spec_l02Next.f a0_4 a0_5 a0_6 a0_7 t1002 t1003).bind fun bt1004 => ((spec_l04Is.f k a0_0 a0_1 a0_2 a0_3 bt1004.1 bt1004.2.1 bt1004.2.2.1 bt1004.2.2.2 (wrap64 (a0_8 - 1500))).bind fun t1009 => (if t1009 = true then (some (a0_0, a0_1, a0_2, a0_3, bt1004.1, bt1004.2.1, bt1004.2.2.1, bt1004.2.2.2, wrap64 (a0_8 - 1500), true)) else (some (0, 0, 0, 0, 0, 0, 0, 0, 0, false))))) = some (r1, r2, r3, r4, r5, r6, r7, r8, r9, r10) := H
    have A5 := Aside0.mk A50
    clear A50
    replace H := Option.bind_eq_some_iff.mp H
    obtain ⟨⟨t1004, t1005, t1006, t1007⟩, A60, H⟩ := H
    replace H : ((spec_l04Is.f k a0_0 a0_1 a0_2 a0_3 t1004 t1005 t1006 t1007 (wrap64 (a0_8 - 1500))).bind fun t1009 => (if t1009 = true then (some (a0_0, a0_1, a0_2, a0_3, t1004, t1005, t1006, t1007, wrap64 (a0_8 - 1500), true)) else (some (0, 0, 0, 0, 0, 0, 0, 0, 0, false)))) = some (r1, r2, r3, r4, r5, r6, r7, r8, r9, r10) := H
    have A6 := Aside0.mk A60
    clear A60
    replace H := Option.bind_eq_some_iff.mp H
    obtain ⟨t1009, A70, H⟩ := H
    replace H : (if t1009 = true then (some (a0_0, a0_1, a0_2, a0_3, t1004, t1005, t1006, t1007, wrap64 (a0_8 - 1500), true)) else (some (0, 0, 0, 0, 0, 0, 0, 0, 0, false))) = some (r1, r2, r3, r4, r5, r6, r7, r8, r9, r10) := H
    have A7 := Aside0.mk A70
    clear A70
    by_cases c8 : t1009 = true
    · subst c8
      have H1 : (some (a0_0, a0_1, a0_2, a0_3, t1004, t1005, t1006, t1007, wrap64 (a0_8 - 1500), true)) = some (r1, r2, r3, r4, r5, r6, r7, r8, r9, r10) := by rw [if_pos rfl] at H; exact H
      clear H
      have H := H1
      clear H1
      simp only [Option.some.injEq, Prod.mk.injEq] at H
      obtain ⟨rfl, rfl, rfl, rfl, rfl, rfl, rfl, rfl, rfl, rfl⟩ := H
      go_enter Try.func93, Try.ntmps93
      try go_wp2_with (first | ((with_reducible refine gate_dst (N := 3) rfl ?_); refine box_event ?hg (N := 3) ?hd (cs := #[.int .i64 a1_0, .int .i64 a1_1]) (t := 75) ?hr ?_; (case hd => rfl); (case hg => rfl); (case hr => first | (go_simp; done) | (go_simp; rfl)); intro gb999 hg w9 hbox hb; have n0_ := Aside0.mk (blk_below (g := gB0) (o := .cells #[.int .i64 a0_0, .int .i64 a0_1, .int .i64 a0_2, .int .i64 a0_3, .int .i64 a0_4, .int .i64 a0_5, .int .i64 a0_6, .int .i64 a0_7, .int .i64 a0_8] 58 (0, 0)) (by (with_reducible repeat (first | refine blk_drewN ?_ _ | refine blk_drew ?_ | refine blk_alloc ?_ _)); exact BK0.out) hb); have n1_ := Aside0.mk (below_step (by repeat (first | (with_reducible first | exact HB.out | apply below_alloc | apply pw_below_drewN | apply below_drew1 | refine below_set ?_ GE0.out) | exact HB.out)) hb); have n2_ := Aside0.mk (hbox); have n3_ := Aside0.mk ((by rw [hg]; exact (below_size (by repeat (first | (with_reducible first | exact HB.out | apply below_alloc | apply pw_below_drewN | apply below_drew1 | refine below_set ?_ GE0.out) | exact HB.out))) : w.heap.size ≤ gb999)); have n4_ := Aside0.mk ((by rw [hg]; exact (below_size (by repeat (first | (with_reducible first | exact HB.out | apply below_alloc | apply pw_below_drewN | apply below_drew1 | refine below_set ?_ GE0.out) | exact HB.out))) : w.heap.size ≤ gb999)); have n5_ := Aside0.mk ((by rw [hg]; exact Nat.ne_of_lt (blk_lt (g := gB0) (o := .cells #[.int .i64 a0_0, .int .i64 a0_1, .int .i64 a0_2, .int .i64 a0_3, .int .i64 a0_4, .int .i64 a0_5, .int .i64 a0_6, .int .i64 a0_7, .int .i64 a0_8] 58 (0, 0)) (by (with_reducible repeat (first | refine blk_drewN ?_ _ | refine blk_drew ?_ | refine blk_alloc ?_ _)); exact BK0.out)) : gB0 ≠ gb999)); have n6_ := Aside0.mk ((by rw [hg]; exact Nat.ne_of_gt (blk_lt (g := gB0) (o := .cells #[.int .i64 a0_0, .int .i64 a0_1, .int .i64 a0_2, .int .i64 a0_3, .int .i64 a0_4, .int .i64 a0_5, .int .i64 a0_6, .int .i64 a0_7, .int .i64 a0_8] 58 (0, 0)) (by (with_reducible repeat (first | refine blk_drewN ?_ _ | refine blk_drew ?_ | refine blk_alloc ?_ _)); exact BK0.out)) : gb999 ≠ gB0)); clear BK0; clear HB; have BK0 := n0_; have HB := n1_; have BK999 := n2_; have GW999 := n3_; have GE999 := n4_; have NB0_999 := n5_; have NB999_0 := n6_; clear n0_ n1_ n2_ n3_ n4_ n5_ n6_; clear hb hbox hg) | ((with_reducible refine gate_dst (N := 4) rfl ?_); refine box_event ?hg (N := 4) ?hd (cs := #[.int .i64 0, .int .i64 0, .int .i64 0, .int .i64 0, .int .i64 0, .int .i64 0, .int .i64 0, .int .i64 0, .int .i64 0]) (t := 58) ?hr ?_; (case hd => rfl); (case hg => rfl); (case hr => first | (go_simp; done) | (go_simp; rfl)); intro gb1000 hg w10 hbox hb; have n0_ := Aside0.mk (blk_below (g := gB0) (o := .cells #[.int .i64 a0_0, .int .i64 a0_1, .int .i64 a0_2, .int .i64 a0_3, .int .i64 a0_4, .int .i64 a0_5, .int .i64 a0_6, .int .i64 a0_7, .int .i64 a0_8] 58 (0, 0)) (by (with_reducible repeat (first | refine blk_drewN ?_ _ | refine blk_drew ?_ | refine blk_alloc ?_ _)); exact BK0.out) hb); have n1_ := Aside0.mk (blk_below (g := gb999) (o := .cells #[.int .i64 a1_0, .int .i64 a1_1] 75 (0, 0)) (by (with_reducible repeat (first | refine blk_drewN ?_ _ | refine blk_drew ?_ | refine blk_alloc ?_ _)); exact BK999.out) hb); have n2_ := Aside0.mk (below_step (by repeat (first | (with_reducible first | exact HB.out | apply below_alloc | apply pw_below_drewN | apply below_drew1 | refine below_set ?_ GE0.out | refine below_set ?_ GE999.out) | exact HB.out)) hb); have n3_ := Aside0.mk (hbox); have n4_ := Aside0.mk ((by rw [hg]; exact (below_size (by repeat (first | (with_reducible first | exact HB.out | apply below_alloc | apply pw_below_drewN | apply below_drew1 | refine below_set ?_ GE0.out | refine below_set ?_ GE999.out) | exact HB.out))) : w.heap.size ≤ gb1000)); have n5_ := Aside0.mk ((by rw [hg]; exact (below_size (by repeat (first | (with_reducible first | exact HB.out | apply below_alloc | apply pw_below_drewN | apply below_drew1 | refine below_set ?_ GE0.out | refine below_set ?_ GE999.out) | exact HB.out))) : w.heap.size ≤ gb1000)); have n6_ := Aside0.mk ((by rw [hg]; exact Nat.ne_of_lt (blk_lt (g := gB0) (o := .cells #[.int .i64 a0_0, .int .i64 a0_1, .int .i64 a0_2, .int .i64 a0_3, .int .i64 a0_4, .int .i64 a0_5, .int .i64 a0_6, .int .i64 a0_7, .int .i64 a0_8] 58 (0, 0)) (by (with_reducible repeat (first | refine blk_drewN ?_ _ | refine blk_drew ?_ | refine blk_alloc ?_ _)); exact BK0.out)) : gB0 ≠ gb1000)); have n7_ := Aside0.mk ((by rw [hg]; exact Nat.ne_of_gt (blk_lt (g := gB0) (o := .cells #[.int .i64 a0_0, .int .i64 a0_1, .int .i64 a0_2, .int .i64 a0_3, .int .i64 a0_4, .int .i64 a0_5, .int .i64 a0_6, .int .i64 a0_7, .int .i64 a0_8] 58 (0, 0)) (by (with_reducible repeat (first | refine blk_drewN ?_ _ | refine blk_drew ?_ | refine blk_alloc ?_ _)); exact BK0.out)) : gb1000 ≠ gB0)); have n8_ := Aside0.mk ((by rw [hg]; exact Nat.ne_of_lt (blk_lt (g := gb999) (o := .cells #[.int .i64 a1_0, .int .i64 a1_1] 75 (0, 0)) (by (with_reducible repeat (first | refine blk_drewN ?_ _ | refine blk_drew ?_ | refine blk_alloc ?_ _)); exact BK999.out)) : gb999 ≠ gb1000)); have n9_ := Aside0.mk ((by rw [hg]; exact Nat.ne_of_gt (blk_lt (g := gb999) (o := .cells #[.int .i64 a1_0, .int .i64 a1_1] 75 (0, 0)) (by (with_reducible repeat (first | refine blk_drewN ?_ _ | refine blk_drew ?_ | refine blk_alloc ?_ _)); exact BK999.out)) : gb1000 ≠ gb999)); clear BK0; clear BK999; clear HB; have BK0 := n0_; have BK999 := n1_; have HB := n2_; have BK1000 := n3_; have GW1000 := n4_; have GE1000 := n5_; have NB0_1000 := n6_; have NB1000_0 := n7_; have NB999_1000 := n8_; have NB1000_999 := n9_; clear n0_ n1_ n2_ n3_ n4_ n5_ n6_ n7_ n8_ n9_; clear hb hbox hg; have hnb11 := NB999_0.out; have hnc11 := NB0_999.out; have hnb12 := NB999_1000.out; have hnc12 := NB1000_999.out; have hcz13_0 : w10.cell? ⟨gb999, 0, none⟩ = some (.int .i64 a1_0) := (blk_cell BK999.out 0).trans rfl; have hcz13_1 : w10.cell? ⟨gb999, 1, none⟩ = some (.int .i64 a1_1) := (blk_cell BK999.out 1).trans rfl; have hfz13_0 := blk_frozen BK999.out 0; have hfz13_1 := blk_frozen BK999.out 1) | ((with_reducible refine gate_callee (f := 111) rfl ?_); refine goesL_ (some 10) rfl rfl Try.func111 (by kernel_rfl) rfl #[.agg #[.int .i64 a1_0, .int .i64 a1_1]] rfl (by (try simp only [List.map_toArray, List.map_cons, List.map_nil]); first | done | rfl | (simp only [List.length_drop, List.length_take]; rfl)) ?_; (with_reducible refine (spec_l03Is.calls a1_0 a1_1 true _ A3.out).mono ?_); rintro e w14 ⟨rfl, hb⟩; refine ⟨_, rfl, ?_⟩; have n0_ := Aside0.mk (blk_below (g := gB0) (o := .cells #[.int .i64 a0_0, .int .i64 a0_1, .int .i64 a0_2, .int .i64 a0_3, .int .i64 a0_4, .int .i64 a0_5, .int .i64 a0_6, .int .i64 a0_7, .int .i64 a0_8] 58 (0, 0)) (by (with_reducible repeat (first | refine blk_drewN ?_ _ | refine blk_drew ?_ | refine blk_alloc ?_ _)); exact BK0.out) hb); have n1_ := Aside0.mk (blk_below (g := gb999) (o := .cells #[.int .i64 a1_0, .int .i64 a1_1] 75 (0, 0)) (by (with_reducible repeat (first | refine blk_drewN ?_ _ | refine blk_drew ?_ | refine blk_alloc ?_ _)); exact BK999.out) hb); have n2_ := Aside0.mk (blk_below (g := gb1000) (o := .cells #[.int .i64 0, .int .i64 0, .int .i64 0, .int .i64 0, .int .i64 0, .int .i64 0, .int .i64 0, .int .i64 0, .int .i64 0] 58 (0, 0)) (by (with_reducible repeat (first | refine blk_drewN ?_ _ | refine blk_drew ?_ | refine blk_alloc ?_ _)); exact BK1000.out) hb); have n3_ := Aside0.mk (below_step (by repeat (first | (with_reducible first | exact HB.out | apply below_alloc | apply pw_below_drewN | apply below_drew1 | refine below_set ?_ GE0.out | refine below_set ?_ GE999.out | refine below_set ?_ GE1000.out) | exact HB.out)) hb); clear BK0; clear BK999; clear BK1000; clear HB; have BK0 := n0_; have BK999 := n1_; have BK1000 := n2_; have HB := n3_; clear n0_ n1_ n2_ n3_; (try clear hb); (try clear hb2); (try clear hk); (try clear hi); have hcz15_0 : w14.cell? ⟨gb999, 0, none⟩ = some (.int .i64 a1_0) := (blk_cell BK999.out 0).trans rfl; have hcz15_1 : w14.cell? ⟨gb999, 1, none⟩ = some (.int .i64 a1_1) := (blk_cell BK999.out 1).trans rfl; have hfz15_0 := blk_frozen BK999.out 0; have hfz15_1 := blk_frozen BK999.out 1) | ((with_reducible refine gate_callee (f := 112) rfl ?_); refine goesL_ (some 15) rfl rfl Try.func112 (by kernel_rfl) rfl #[.agg #[.int .i64 a1_0, .int .i64 a1_1]] rfl (by (try simp only [List.map_toArray, List.map_cons, List.map_nil]); first | done | rfl | (simp only [List.length_drop, List.length_take]; rfl)) ?_; (with_reducible refine (spec_l03Turn.calls a1_0 a1_1 t1002 t1003 _ A5.out).mono ?_); rintro e w16 ⟨rfl, hb⟩; refine ⟨_, rfl, ?_⟩; have n0_ := Aside0.mk (blk_below (g := gB0) (o := .cells #[.int .i64 a0_0, .int .i64 a0_1, .int .i64 a0_2, .int .i64 a0_3, .int .i64 a0_4, .int .i64 a0_5, .int .i64 a0_6, .int .i64 a0_7, .int .i64 a0_8] 58 (0, 0)) (by (with_reducible repeat (first | refine blk_drewN ?_ _ | refine blk_drew ?_ | refine blk_alloc ?_ _)); exact BK0.out) hb); have n1_ := Aside0.mk (blk_below (g := gb999) (o := .cells #[.int .i64 a1_0, .int .i64 a1_1] 75 (0, 0)) (by (with_reducible repeat (first | refine blk_drewN ?_ _ | refine blk_drew ?_ | refine blk_alloc ?_ _)); exact BK999.out) hb); have n2_ := Aside0.mk (blk_below (g := gb1000) (o := .cells #[.int .i64 0, .int .i64 0, .int .i64 0, .int .i64 0, .int .i64 0, .int .i64 0, .int .i64 0, .int .i64 0, .int .i64 0] 58 (0, 0)) (by (with_reducible repeat (first | refine blk_drewN ?_ _ | refine blk_drew ?_ | refine blk_alloc ?_ _)); exact BK1000.out) hb); have n3_ := Aside0.mk (below_step (by repeat (first | (with_reducible first | exact HB.out | apply below_alloc | apply pw_below_drewN | apply below_drew1 | refine below_set ?_ GE0.out | refine below_set ?_ GE999.out | refine below_set ?_ GE1000.out) | exact HB.out)) hb); clear BK0; clear BK999; clear BK1000; clear HB; have BK0 := n0_; have BK999 := n1_; have BK1000 := n2_; have HB := n3_; clear n0_ n1_ n2_ n3_; (try clear hb); (try clear hb2); (try clear hk); (try clear hi)))
      have n0_ := Aside0.mk (blk_drew BK0.out)
      have n1_ := Aside0.mk (blk_drew BK999.out)
      have n2_ := Aside0.mk (blk_drew BK1000.out)
      have n3_ := Aside0.mk (below_drew1 HB.out)
      clear BK0
      clear BK999
      clear BK1000
      clear HB
      have BK0 := n0_
      have BK999 := n1_
      have BK1000 := n2_
      have HB := n3_
      clear n0_ n1_ n2_ n3_
      refine start_ (n := 19) (S := fun w' => w'.cell? ⟨gB0, 0, none⟩ = some (.int .i64 a0_0) ∧ w'.cell? ⟨gB0, 1, none⟩ = some (.int .i64 a0_1) ∧ w'.cell? ⟨gB0, 2, none⟩ = some (.int .i64 a0_2) ∧ w'.cell? ⟨gB0, 3, none⟩ = some (.int .i64 a0_3) ∧ w'.cell? ⟨gB0, 4, none⟩ = some (.int .i64 a0_4) ∧ w'.cell? ⟨gB0, 5, none⟩ = some (.int .i64 a0_5) ∧ w'.cell? ⟨gB0, 6, none⟩ = some (.int .i64 a0_6) ∧ w'.cell? ⟨gB0, 7, none⟩ = some (.int .i64 a0_7) ∧ w'.cell? ⟨gB0, 8, none⟩ = some (.int .i64 a0_8)) (ds := []) #[false, false, false, false, false, false, false, false, false, false, false, false, false, false, false, false, false, false, false] (by kernel_rfl) rfl rfl ⟨(blk_cell BK0.out 0).trans rfl, (blk_cell BK0.out 1).trans rfl, (blk_cell BK0.out 2).trans rfl, (blk_cell BK0.out 3).trans rfl, (blk_cell BK0.out 4).trans rfl, (blk_cell BK0.out 5).trans rfl, (blk_cell BK0.out 6).trans rfl, (blk_cell BK0.out 7).trans rfl, (blk_cell BK0.out 8).trans rfl⟩ (fun hHeld => ?_); refine with_tabW spec_l04Build.tab4 spec_l04Build.bits4 (fun HT_ HW_ => ?_)
      generalize w16.drew = w17 at BK0 BK999 BK1000 HB hHeld ⊢
      refine pure_ (i := 0) (N := some 18) (v := ?_) (a' := ?_) #[true, false, false, false, false, false, false, false, false, false, false, false, false, false, false, false, false, false, false] rfl rfl (any_of HT_.out (by kernel_rfl)) (fun _ _ _ h => h) (Or.inl ⟨by rfl, ?_⟩) ?_ ?_
      rotate_left
      · intro w'
        go_simp
        with_reducible rfl
      rotate_left
      · simp only [Act.put, List.setIfInBounds_toArray, List.set_cons_zero, List.set_cons_succ, i64_w, i32_w]
        rfl
      refine pure_ (i := 1) (N := some 19) (v := ?_) (a' := ?_) #[true, true, false, false, false, false, false, false, false, false, false, false, false, false, false, false, false, false, false] rfl rfl (any_of HT_.out (by kernel_rfl)) (fun _ _ _ h => h) (Or.inl ⟨by rfl, ?_⟩) ?_ ?_
      rotate_left
      · intro w'
        go_simp
        with_reducible rfl
      rotate_left
      · simp only [Act.put, List.setIfInBounds_toArray, List.set_cons_zero, List.set_cons_succ, i64_w, i32_w]
        rfl
      refine pure_ (i := 2) (N := some 20) (v := ?_) (a' := ?_) #[true, true, true, false, false, false, false, false, false, false, false, false, false, false, false, false, false, false, false] rfl rfl (any_of HT_.out (by kernel_rfl)) (fun _ _ _ h => h) (Or.inl ⟨by rfl, ?_⟩) ?_ ?_
      rotate_left
      · intro w'
        go_simp
        with_reducible rfl
      rotate_left
      · simp only [Act.put, List.setIfInBounds_toArray, List.set_cons_zero, List.set_cons_succ, i64_w, i32_w]
        rfl
      refine pure_ (i := 4) (N := some 22) (v := ?_) (a' := ?_) #[true, true, true, false, true, false, false, false, false, false, false, false, false, false, false, false, false, false, false] rfl rfl (any_of HT_.out (by kernel_rfl)) (fun _ _ _ h => h) (Or.inl ⟨by rfl, ?_⟩) ?_ ?_
      rotate_left
      · intro w'
        go_simp
        with_reducible rfl
      rotate_left
      · simp only [Act.put, List.setIfInBounds_toArray, List.set_cons_zero, List.set_cons_succ, i64_w, i32_w]
        rfl
      refine pure_ (i := 5) (N := some 23) (v := ?_) (a' := ?_) #[true, true, true, false, true, true, false, false, false, false, false, false, false, false, false, false, false, false, false] rfl rfl (any_of HT_.out (by kernel_rfl)) (fun _ _ _ h => h) (Or.inl ⟨by rfl, ?_⟩) ?_ ?_
      rotate_left
      · intro w'
        go_simp
        with_reducible rfl
      rotate_left
      · simp only [Act.put, List.setIfInBounds_toArray, List.set_cons_zero, List.set_cons_succ, i64_w, i32_w]
        rfl
      refine pure_ (i := 6) (N := some 24) (v := ?_) (a' := ?_) #[true, true, true, false, true, true, true, false, false, false, false, false, false, false, false, false, false, false, false] rfl rfl (any_of HT_.out (by kernel_rfl)) (fun _ _ _ h => h) (Or.inl ⟨by rfl, ?_⟩) ?_ ?_
      rotate_left
      · intro w'
        go_simp
        with_reducible rfl
      rotate_left
      · simp only [Act.put, List.setIfInBounds_toArray, List.set_cons_zero, List.set_cons_succ, i64_w, i32_w]
        rfl
      refine pure_ (i := 8) (N := some 26) (v := ?_) (a' := ?_) #[true, true, true, false, true, true, true, false, true, false, false, false, false, false, false, false, false, false, false] rfl rfl (any_of HT_.out (by kernel_rfl)) (fun _ _ _ h => h) (Or.inl ⟨by rfl, ?_⟩) ?_ ?_
      rotate_left
      · intro w'
        go_simp
        with_reducible rfl
      rotate_left
      · simp only [Act.put, List.setIfInBounds_toArray, List.set_cons_zero, List.set_cons_succ, i64_w, i32_w]
        rfl
      refine pure_ (i := 9) (N := some 27) (v := ?_) (a' := ?_) #[true, true, true, false, true, true, true, false, true, true, false, false, false, false, false, false, false, false, false] rfl rfl (any_of HT_.out (by kernel_rfl)) (fun _ _ _ h => h) (Or.inl ⟨by rfl, ?_⟩) ?_ ?_
      rotate_left
      · intro w'
        go_simp
        with_reducible rfl
      rotate_left
      · simp only [Act.put, List.setIfInBounds_toArray, List.set_cons_zero, List.set_cons_succ, i64_w, i32_w]
        rfl
      refine pure_ (i := 11) (N := some 29) (v := ?_) (a' := ?_) #[true, true, true, false, true, true, true, false, true, true, false, true, false, false, false, false, false, false, false] rfl rfl (any_of HT_.out (by kernel_rfl)) (fun _ _ _ h => h) (Or.inl ⟨by rfl, ?_⟩) ?_ ?_
      rotate_left
      · intro w'
        go_simp
        with_reducible rfl
      rotate_left
      · simp only [Act.put, List.setIfInBounds_toArray, List.set_cons_zero, List.set_cons_succ, i64_w, i32_w]
        rfl
      refine pure_ (i := 12) (N := some 30) (v := ?_) (a' := ?_) #[true, true, true, false, true, true, true, false, true, true, false, true, true, false, false, false, false, false, false] rfl rfl (any_of HT_.out (by kernel_rfl)) (fun _ _ _ h => h) (Or.inl ⟨by rfl, ?_⟩) ?_ ?_
      rotate_left
      · intro w'
        go_simp
        with_reducible rfl
      rotate_left
      · simp only [Act.put, List.setIfInBounds_toArray, List.set_cons_zero, List.set_cons_succ, i64_w, i32_w]
        rfl
      refine pure_ (i := 13) (N := some 31) (v := ?_) (a' := ?_) #[true, true, true, false, true, true, true, false, true, true, false, true, true, true, false, false, false, false, false] rfl rfl (any_of HT_.out (by kernel_rfl)) (fun _ _ _ h => h) (Or.inl ⟨by rfl, ?_⟩) ?_ ?_
      rotate_left
      · intro w'
        go_simp
        with_reducible rfl
      rotate_left
      · simp only [Act.put, List.setIfInBounds_toArray, List.set_cons_zero, List.set_cons_succ, i64_w, i32_w]
        rfl
      refine take_ (i := 3) (N := some 21) (v := ?_) (a' := ?_) #[true, true, true, true, true, true, true, false, true, true, false, true, true, true, false, false, false, false, false] rfl rfl (take_ofW HT_.out HW_.out (by kernel_rfl)) (fun _ _ _ h => h) (Or.inl ⟨by rfl, ?_⟩) hHeld ?_ ?_
      rotate_left
      · rintro w' ⟨s0, s1, s2, s3, s4, s5, s6, s7, s8⟩
        go_simp
        with_reducible rfl
      rotate_left
      · simp only [Act.put, List.setIfInBounds_toArray, List.set_cons_zero, List.set_cons_succ, i64_w, i32_w]
        rfl
      refine take_ (i := 7) (N := some 25) (v := ?_) (a' := ?_) #[true, true, true, true, true, true, true, true, true, true, false, true, true, true, false, false, false, false, false] rfl rfl (take_ofW HT_.out HW_.out (by kernel_rfl)) (fun _ _ _ h => h) (Or.inl ⟨by rfl, ?_⟩) hHeld ?_ ?_
      rotate_left
      · rintro w' ⟨s0, s1, s2, s3, s4, s5, s6, s7, s8⟩
        go_simp
        with_reducible rfl
      rotate_left
      · simp only [Act.put, List.setIfInBounds_toArray, List.set_cons_zero, List.set_cons_succ, i64_w, i32_w]
        rfl
      refine take_ (i := 14) (N := some 32) (v := ?_) (a' := ?_) #[true, true, true, true, true, true, true, true, true, true, false, true, true, true, true, false, false, false, false] rfl rfl (take_ofW HT_.out HW_.out (by kernel_rfl)) (fun _ _ _ h => h) (Or.inl ⟨by rfl, ?_⟩) hHeld ?_ ?_
      rotate_left
      · rintro w' ⟨s0, s1, s2, s3, s4, s5, s6, s7, s8⟩
        go_simp
        with_reducible rfl
      rotate_left
      · simp only [Act.put, List.setIfInBounds_toArray, List.set_cons_zero, List.set_cons_succ, i64_w, i32_w]
        rfl
      refine pure_ (i := 15) (N := some 33) (v := ?_) (a' := ?_) #[true, true, true, true, true, true, true, true, true, true, false, true, true, true, true, true, false, false, false] rfl rfl (any_of HT_.out (by kernel_rfl)) (fun _ _ _ h => h) (Or.inl ⟨by rfl, ?_⟩) ?_ ?_
      rotate_left
      · intro w'
        go_simp
        with_reducible rfl
      rotate_left
      · simp only [Act.put, List.setIfInBounds_toArray, List.set_cons_zero, List.set_cons_succ, i64_w, i32_w]
        rfl
      refine join_ (σ := Nat) 1 #[true, true, true, true, true, true, true, true, true, true, true, true, true, true, true, true, true, true, false] (fun s_ => [(28, .agg #[.int .i64 t1004, .int .i64 t1005, .int .i64 t1006, .int .i64 t1007]), (8, .pointer (some ⟨s_, 0, none⟩)), (34, .agg #[.int .i64 a0_0, .int .i64 a0_1, .int .i64 a0_2, .int .i64 a0_3, .int .i64 t1004, .int .i64 t1005, .int .i64 t1006, .int .i64 t1007, .int .i64 (wrap64 (a0_8 - 1500))])]) (fun s_ w' => (w'.cell? ⟨gB0, 0, none⟩ = some (.int .i64 a0_0) ∧ w'.cell? ⟨gB0, 1, none⟩ = some (.int .i64 a0_1) ∧ w'.cell? ⟨gB0, 2, none⟩ = some (.int .i64 a0_2) ∧ w'.cell? ⟨gB0, 3, none⟩ = some (.int .i64 a0_3) ∧ w'.cell? ⟨gB0, 4, none⟩ = some (.int .i64 a0_4) ∧ w'.cell? ⟨gB0, 5, none⟩ = some (.int .i64 a0_5) ∧ w'.cell? ⟨gB0, 6, none⟩ = some (.int .i64 a0_6) ∧ w'.cell? ⟨gB0, 7, none⟩ = some (.int .i64 a0_7) ∧ w'.cell? ⟨gB0, 8, none⟩ = some (.int .i64 a0_8)) ∧ (w'.heap[gB0]? = some (.cells #[.int .i64 a0_0, .int .i64 a0_1, .int .i64 a0_2, .int .i64 a0_3, .int .i64 a0_4, .int .i64 a0_5, .int .i64 a0_6, .int .i64 a0_7, .int .i64 a0_8] 58 (0, 0))) ∧ (w'.heap[gb1000]? = some (.cells #[.int .i64 0, .int .i64 0, .int .i64 0, .int .i64 0, .int .i64 0, .int .i64 0, .int .i64 0, .int .i64 0, .int .i64 0] 58 (0, 0))) ∧ (w'.heap[s_]? = some (.cells #[.int .i64 0, .int .i64 0, .int .i64 0, .int .i64 0, .int .i64 0, .int .i64 0, .int .i64 0, .int .i64 0, .int .i64 0] 58 (0, 0))) ∧ (w'.heap[gb999]? = some (.cells #[.int .i64 a1_0, .int .i64 a1_1] 75 (0, 0))) ∧ (w.heap.size ≤ s_) ∧ (w.heap.size ≤ s_) ∧ (gB0 ≠ s_) ∧ (s_ ≠ gB0) ∧ (gb1000 ≠ s_) ∧ (s_ ≠ gb1000) ∧ (gb999 ≠ s_) ∧ (s_ ≠ gb999) ∧ (Below w.heap.size w w')) ?_ ?_
      rotate_left
      · intro hCont
        refine two_ (i := 10) (j := 17) (Ni := some 28) (Nj := some 8) #[true, true, true, true, true, true, true, true, true, true, true, true, true, true, true, true, false, false, false] #[true, true, true, true, true, true, true, true, true, true, false, true, true, true, true, true, false, true, false] rfl rfl rfl rfl (two_of HT_.out (by kernel_rfl)) (by decide) (by decide) (fun K hK => ?_) (fun K hK => ?_)
        · skip
          refine goes_ Try.func68 (by kernel_rfl) rfl #[.agg #[.int .i64 a0_4, .int .i64 a0_5, .int .i64 a0_6, .int .i64 a0_7], .int .i64 t1002, .int .i64 t1003] (by rfl) rfl rfl (by (try simp only [List.map_toArray, List.map_cons, List.map_nil]); first | done | rfl | (simp only [List.length_drop, List.length_take]; rfl)) ?_
          with_reducible refine (spec_l02Next.calls a0_4 a0_5 a0_6 a0_7 t1002 t1003 t1004 t1005 t1006 t1007 _ A6.out).mono ?_
          rintro e w18 ⟨rfl, hb⟩
          refine ⟨_, rfl, ?_⟩
          have n0_ := Aside0.mk (blk_below (g := gB0) (o := .cells #[.int .i64 a0_0, .int .i64 a0_1, .int .i64 a0_2, .int .i64 a0_3, .int .i64 a0_4, .int .i64 a0_5, .int .i64 a0_6, .int .i64 a0_7, .int .i64 a0_8] 58 (0, 0)) (by (with_reducible repeat (first | refine blk_drewN ?_ _ | refine blk_drew ?_ | refine blk_alloc ?_ _)); exact BK0.out) hb)
          have n1_ := Aside0.mk (blk_below (g := gb999) (o := .cells #[.int .i64 a1_0, .int .i64 a1_1] 75 (0, 0)) (by (with_reducible repeat (first | refine blk_drewN ?_ _ | refine blk_drew ?_ | refine blk_alloc ?_ _)); exact BK999.out) hb)
          have n2_ := Aside0.mk (blk_below (g := gb1000) (o := .cells #[.int .i64 0, .int .i64 0, .int .i64 0, .int .i64 0, .int .i64 0, .int .i64 0, .int .i64 0, .int .i64 0, .int .i64 0] 58 (0, 0)) (by (with_reducible repeat (first | refine blk_drewN ?_ _ | refine blk_drew ?_ | refine blk_alloc ?_ _)); exact BK1000.out) hb)
          have n3_ := Aside0.mk (below_step (by repeat (first | (with_reducible first | exact HB.out | apply below_alloc | apply pw_below_drewN | apply below_drew1 | refine below_set ?_ GE0.out | refine below_set ?_ GE999.out | refine below_set ?_ GE1000.out) | exact HB.out)) hb)
          clear BK0
          clear BK999
          clear BK1000
          clear HB
          have BK0 := n0_
          have BK999 := n1_
          have BK1000 := n2_
          have HB := n3_
          clear n0_ n1_ n2_ n3_
          (try clear hb)
          (try clear hb2)
          (try clear hk)
          (try clear hi)
          refine hK.out _ _ ⟨(blk_cell BK0.out 0).trans rfl, (blk_cell BK0.out 1).trans rfl, (blk_cell BK0.out 2).trans rfl, (blk_cell BK0.out 3).trans rfl, (blk_cell BK0.out 4).trans rfl, (blk_cell BK0.out 5).trans rfl, (blk_cell BK0.out 6).trans rfl, (blk_cell BK0.out 7).trans rfl, (blk_cell BK0.out 8).trans rfl⟩ (fun hHeld => ?_)
          clear hK K
          refine norm_ (a' := ?_) ?_ ?_
          rotate_left
          · show Act.put _ (some 28) _ = _
            simp only [Act.put, List.setIfInBounds_toArray, List.set_cons_zero, List.set_cons_succ, i64_w, i32_w]
            rfl
          refine pure_ (i := 16) (N := some 34) (v := ?_) (a' := ?_) #[true, true, true, true, true, true, true, true, true, true, true, true, true, true, true, true, true, false, false] rfl rfl (any_of HT_.out (by kernel_rfl)) (fun _ _ _ h => h) (Or.inl ⟨by rfl, ?_⟩) ?_ ?_
          rotate_left
          · intro w'
            go_simp
            with_reducible rfl
          rotate_left
          · simp only [Act.put, List.setIfInBounds_toArray, List.set_cons_zero, List.set_cons_succ, i64_w, i32_w]
            rfl
          refine one_ (i := 17) (N := some 8) #[true, true, true, true, true, true, true, true, true, true, true, true, true, true, true, true, true, true, false] rfl rfl (one_of HT_.out (by kernel_rfl)) (by decide) (fun K hK => ?_)
          refine box_step ?hg (N := 8) ?hd (cs := #[.int .i64 0, .int .i64 0, .int .i64 0, .int .i64 0, .int .i64 0, .int .i64 0, .int .i64 0, .int .i64 0, .int .i64 0]) (t := 58) ?hr ?_; (case hd => rfl); (case hg => rfl); (case hr => first | (go_simp; done) | (go_simp; rfl))
          intro gb1008 hg w19 hbox hb
          have n0_ := Aside0.mk (blk_below (g := gB0) (o := .cells #[.int .i64 a0_0, .int .i64 a0_1, .int .i64 a0_2, .int .i64 a0_3, .int .i64 a0_4, .int .i64 a0_5, .int .i64 a0_6, .int .i64 a0_7, .int .i64 a0_8] 58 (0, 0)) (by (with_reducible repeat (first | refine blk_drewN ?_ _ | refine blk_drew ?_ | refine blk_alloc ?_ _)); exact BK0.out) hb)
          have n1_ := Aside0.mk (blk_below (g := gb999) (o := .cells #[.int .i64 a1_0, .int .i64 a1_1] 75 (0, 0)) (by (with_reducible repeat (first | refine blk_drewN ?_ _ | refine blk_drew ?_ | refine blk_alloc ?_ _)); exact BK999.out) hb)
          have n2_ := Aside0.mk (blk_below (g := gb1000) (o := .cells #[.int .i64 0, .int .i64 0, .int .i64 0, .int .i64 0, .int .i64 0, .int .i64 0, .int .i64 0, .int .i64 0, .int .i64 0] 58 (0, 0)) (by (with_reducible repeat (first | refine blk_drewN ?_ _ | refine blk_drew ?_ | refine blk_alloc ?_ _)); exact BK1000.out) hb)
          have n3_ := Aside0.mk (below_step (by repeat (first | (with_reducible first | exact HB.out | apply below_alloc | apply pw_below_drewN | apply below_drew1 | refine below_set ?_ GE0.out | refine below_set ?_ GE999.out | refine below_set ?_ GE1000.out) | exact HB.out)) hb)
          have n4_ := Aside0.mk (hbox)
          have n5_ := Aside0.mk ((by rw [hg]; exact (below_size (by repeat (first | (with_reducible first | exact HB.out | apply below_alloc | apply pw_below_drewN | apply below_drew1 | refine below_set ?_ GE0.out | refine below_set ?_ GE999.out | refine below_set ?_ GE1000.out) | exact HB.out))) : w.heap.size ≤ gb1008))
          have n6_ := Aside0.mk ((by rw [hg]; exact (below_size (by repeat (first | (with_reducible first | exact HB.out | apply below_alloc | apply pw_below_drewN | apply below_drew1 | refine below_set ?_ GE0.out | refine below_set ?_ GE999.out | refine below_set ?_ GE1000.out) | exact HB.out))) : w.heap.size ≤ gb1008))
          have n7_ := Aside0.mk ((by rw [hg]; exact Nat.ne_of_lt (blk_lt (g := gB0) (o := .cells #[.int .i64 a0_0, .int .i64 a0_1, .int .i64 a0_2, .int .i64 a0_3, .int .i64 a0_4, .int .i64 a0_5, .int .i64 a0_6, .int .i64 a0_7, .int .i64 a0_8] 58 (0, 0)) (by (with_reducible repeat (first | refine blk_drewN ?_ _ | refine blk_drew ?_ | refine blk_alloc ?_ _)); exact BK0.out)) : gB0 ≠ gb1008))
          have n8_ := Aside0.mk ((by rw [hg]; exact Nat.ne_of_gt (blk_lt (g := gB0) (o := .cells #[.int .i64 a0_0, .int .i64 a0_1, .int .i64 a0_2, .int .i64 a0_3, .int .i64 a0_4, .int .i64 a0_5, .int .i64 a0_6, .int .i64 a0_7, .int .i64 a0_8] 58 (0, 0)) (by (with_reducible repeat (first | refine blk_drewN ?_ _ | refine blk_drew ?_ | refine blk_alloc ?_ _)); exact BK0.out)) : gb1008 ≠ gB0))
          have n9_ := Aside0.mk ((by rw [hg]; exact Nat.ne_of_lt (blk_lt (g := gb999) (o := .cells #[.int .i64 a1_0, .int .i64 a1_1] 75 (0, 0)) (by (with_reducible repeat (first | refine blk_drewN ?_ _ | refine blk_drew ?_ | refine blk_alloc ?_ _)); exact BK999.out)) : gb999 ≠ gb1008))
          have n10_ := Aside0.mk ((by rw [hg]; exact Nat.ne_of_gt (blk_lt (g := gb999) (o := .cells #[.int .i64 a1_0, .int .i64 a1_1] 75 (0, 0)) (by (with_reducible repeat (first | refine blk_drewN ?_ _ | refine blk_drew ?_ | refine blk_alloc ?_ _)); exact BK999.out)) : gb1008 ≠ gb999))
          have n11_ := Aside0.mk ((by rw [hg]; exact Nat.ne_of_lt (blk_lt (g := gb1000) (o := .cells #[.int .i64 0, .int .i64 0, .int .i64 0, .int .i64 0, .int .i64 0, .int .i64 0, .int .i64 0, .int .i64 0, .int .i64 0] 58 (0, 0)) (by (with_reducible repeat (first | refine blk_drewN ?_ _ | refine blk_drew ?_ | refine blk_alloc ?_ _)); exact BK1000.out)) : gb1000 ≠ gb1008))
          have n12_ := Aside0.mk ((by rw [hg]; exact Nat.ne_of_gt (blk_lt (g := gb1000) (o := .cells #[.int .i64 0, .int .i64 0, .int .i64 0, .int .i64 0, .int .i64 0, .int .i64 0, .int .i64 0, .int .i64 0, .int .i64 0] 58 (0, 0)) (by (with_reducible repeat (first | refine blk_drewN ?_ _ | refine blk_drew ?_ | refine blk_alloc ?_ _)); exact BK1000.out)) : gb1008 ≠ gb1000))
          clear BK0
          clear BK999
          clear BK1000
          clear HB
          have BK0 := n0_
          have BK999 := n1_
          have BK1000 := n2_
          have HB := n3_
          have BK1008 := n4_
          have GW1008 := n5_
          have GE1008 := n6_
          have NB0_1008 := n7_
          have NB1008_0 := n8_
          have NB999_1008 := n9_
          have NB1008_999 := n10_
          have NB1000_1008 := n11_
          have NB1008_1000 := n12_
          clear n0_ n1_ n2_ n3_ n4_ n5_ n6_ n7_ n8_ n9_ n10_ n11_ n12_
          clear hb hbox hg
          refine hK.out _ _ ⟨(blk_cell BK0.out 0).trans rfl, (blk_cell BK0.out 1).trans rfl, (blk_cell BK0.out 2).trans rfl, (blk_cell BK0.out 3).trans rfl, (blk_cell BK0.out 4).trans rfl, (blk_cell BK0.out 5).trans rfl, (blk_cell BK0.out 6).trans rfl, (blk_cell BK0.out 7).trans rfl, (blk_cell BK0.out 8).trans rfl⟩ (fun hHeld => ?_)
          clear hK K
          refine norm_ (a' := ?_) ?_ ?_
          rotate_left
          · show Act.put _ (some 8) _ = _
            simp only [Act.put, List.setIfInBounds_toArray, List.set_cons_zero, List.set_cons_succ, i64_w, i32_w]
            rfl
          exact norm_ (by simp only [putAll, Act.put, List.setIfInBounds_toArray, List.set_cons_zero, List.set_cons_succ]) (hCont (gb1008) _ ⟨hHeld, (by (with_reducible repeat (first | refine blk_drewN ?_ _ | refine blk_drew ?_ | refine blk_alloc ?_ _)); exact BK0.out), (by (with_reducible repeat (first | refine blk_drewN ?_ _ | refine blk_drew ?_ | refine blk_alloc ?_ _)); exact BK1000.out), (by (with_reducible repeat (first | refine blk_drewN ?_ _ | refine blk_drew ?_ | refine blk_alloc ?_ _)); exact BK1008.out), (by (with_reducible repeat (first | refine blk_drewN ?_ _ | refine blk_drew ?_ | refine blk_alloc ?_ _)); exact BK999.out), GW1008.out, GE1008.out, NB0_1008.out, NB1008_0.out, NB1000_1008.out, NB1008_1000.out, NB999_1008.out, NB1008_999.out, (by repeat (first | (with_reducible first | exact HB.out | apply below_alloc | apply pw_below_drewN | apply below_drew1 | refine below_set ?_ GE0.out | refine below_set ?_ GE999.out | refine below_set ?_ GE1000.out | refine below_set ?_ GE1008.out) | exact HB.out))⟩)
        · skip
          refine box_step ?hg (N := 8) ?hd (cs := #[.int .i64 0, .int .i64 0, .int .i64 0, .int .i64 0, .int .i64 0, .int .i64 0, .int .i64 0, .int .i64 0, .int .i64 0]) (t := 58) ?hr ?_; (case hd => rfl); (case hg => rfl); (case hr => first | (go_simp; done) | (go_simp; rfl))
          intro gb1008 hg w18 hbox hb
          have n0_ := Aside0.mk (blk_below (g := gB0) (o := .cells #[.int .i64 a0_0, .int .i64 a0_1, .int .i64 a0_2, .int .i64 a0_3, .int .i64 a0_4, .int .i64 a0_5, .int .i64 a0_6, .int .i64 a0_7, .int .i64 a0_8] 58 (0, 0)) (by (with_reducible repeat (first | refine blk_drewN ?_ _ | refine blk_drew ?_ | refine blk_alloc ?_ _)); exact BK0.out) hb)
          have n1_ := Aside0.mk (blk_below (g := gb999) (o := .cells #[.int .i64 a1_0, .int .i64 a1_1] 75 (0, 0)) (by (with_reducible repeat (first | refine blk_drewN ?_ _ | refine blk_drew ?_ | refine blk_alloc ?_ _)); exact BK999.out) hb)
          have n2_ := Aside0.mk (blk_below (g := gb1000) (o := .cells #[.int .i64 0, .int .i64 0, .int .i64 0, .int .i64 0, .int .i64 0, .int .i64 0, .int .i64 0, .int .i64 0, .int .i64 0] 58 (0, 0)) (by (with_reducible repeat (first | refine blk_drewN ?_ _ | refine blk_drew ?_ | refine blk_alloc ?_ _)); exact BK1000.out) hb)
          have n3_ := Aside0.mk (below_step (by repeat (first | (with_reducible first | exact HB.out | apply below_alloc | apply pw_below_drewN | apply below_drew1 | refine below_set ?_ GE0.out | refine below_set ?_ GE999.out | refine below_set ?_ GE1000.out) | exact HB.out)) hb)
          have n4_ := Aside0.mk (hbox)
          have n5_ := Aside0.mk ((by rw [hg]; exact (below_size (by repeat (first | (with_reducible first | exact HB.out | apply below_alloc | apply pw_below_drewN | apply below_drew1 | refine below_set ?_ GE0.out | refine below_set ?_ GE999.out | refine below_set ?_ GE1000.out) | exact HB.out))) : w.heap.size ≤ gb1008))
          have n6_ := Aside0.mk ((by rw [hg]; exact (below_size (by repeat (first | (with_reducible first | exact HB.out | apply below_alloc | apply pw_below_drewN | apply below_drew1 | refine below_set ?_ GE0.out | refine below_set ?_ GE999.out | refine below_set ?_ GE1000.out) | exact HB.out))) : w.heap.size ≤ gb1008))
          have n7_ := Aside0.mk ((by rw [hg]; exact Nat.ne_of_lt (blk_lt (g := gB0) (o := .cells #[.int .i64 a0_0, .int .i64 a0_1, .int .i64 a0_2, .int .i64 a0_3, .int .i64 a0_4, .int .i64 a0_5, .int .i64 a0_6, .int .i64 a0_7, .int .i64 a0_8] 58 (0, 0)) (by (with_reducible repeat (first | refine blk_drewN ?_ _ | refine blk_drew ?_ | refine blk_alloc ?_ _)); exact BK0.out)) : gB0 ≠ gb1008))
          have n8_ := Aside0.mk ((by rw [hg]; exact Nat.ne_of_gt (blk_lt (g := gB0) (o := .cells #[.int .i64 a0_0, .int .i64 a0_1, .int .i64 a0_2, .int .i64 a0_3, .int .i64 a0_4, .int .i64 a0_5, .int .i64 a0_6, .int .i64 a0_7, .int .i64 a0_8] 58 (0, 0)) (by (with_reducible repeat (first | refine blk_drewN ?_ _ | refine blk_drew ?_ | refine blk_alloc ?_ _)); exact BK0.out)) : gb1008 ≠ gB0))
          have n9_ := Aside0.mk ((by rw [hg]; exact Nat.ne_of_lt (blk_lt (g := gb999) (o := .cells #[.int .i64 a1_0, .int .i64 a1_1] 75 (0, 0)) (by (with_reducible repeat (first | refine blk_drewN ?_ _ | refine blk_drew ?_ | refine blk_alloc ?_ _)); exact BK999.out)) : gb999 ≠ gb1008))
          have n10_ := Aside0.mk ((by rw [hg]; exact Nat.ne_of_gt (blk_lt (g := gb999) (o := .cells #[.int .i64 a1_0, .int .i64 a1_1] 75 (0, 0)) (by (with_reducible repeat (first | refine blk_drewN ?_ _ | refine blk_drew ?_ | refine blk_alloc ?_ _)); exact BK999.out)) : gb1008 ≠ gb999))
          have n11_ := Aside0.mk ((by rw [hg]; exact Nat.ne_of_lt (blk_lt (g := gb1000) (o := .cells #[.int .i64 0, .int .i64 0, .int .i64 0, .int .i64 0, .int .i64 0, .int .i64 0, .int .i64 0, .int .i64 0, .int .i64 0] 58 (0, 0)) (by (with_reducible repeat (first | refine blk_drewN ?_ _ | refine blk_drew ?_ | refine blk_alloc ?_ _)); exact BK1000.out)) : gb1000 ≠ gb1008))
          have n12_ := Aside0.mk ((by rw [hg]; exact Nat.ne_of_gt (blk_lt (g := gb1000) (o := .cells #[.int .i64 0, .int .i64 0, .int .i64 0, .int .i64 0, .int .i64 0, .int .i64 0, .int .i64 0, .int .i64 0, .int .i64 0] 58 (0, 0)) (by (with_reducible repeat (first | refine blk_drewN ?_ _ | refine blk_drew ?_ | refine blk_alloc ?_ _)); exact BK1000.out)) : gb1008 ≠ gb1000))
          clear BK0
          clear BK999
          clear BK1000
          clear HB
          have BK0 := n0_
          have BK999 := n1_
          have BK1000 := n2_
          have HB := n3_
          have BK1008 := n4_
          have GW1008 := n5_
          have GE1008 := n6_
          have NB0_1008 := n7_
          have NB1008_0 := n8_
          have NB999_1008 := n9_
          have NB1008_999 := n10_
          have NB1000_1008 := n11_
          have NB1008_1000 := n12_
          clear n0_ n1_ n2_ n3_ n4_ n5_ n6_ n7_ n8_ n9_ n10_ n11_ n12_
          clear hb hbox hg
          refine hK.out _ _ ⟨(blk_cell BK0.out 0).trans rfl, (blk_cell BK0.out 1).trans rfl, (blk_cell BK0.out 2).trans rfl, (blk_cell BK0.out 3).trans rfl, (blk_cell BK0.out 4).trans rfl, (blk_cell BK0.out 5).trans rfl, (blk_cell BK0.out 6).trans rfl, (blk_cell BK0.out 7).trans rfl, (blk_cell BK0.out 8).trans rfl⟩ (fun hHeld => ?_)
          clear hK K
          refine norm_ (a' := ?_) ?_ ?_
          rotate_left
          · show Act.put _ (some 8) _ = _
            simp only [Act.put, List.setIfInBounds_toArray, List.set_cons_zero, List.set_cons_succ, i64_w, i32_w]
            rfl
          refine one_ (i := 10) (N := some 28) #[true, true, true, true, true, true, true, true, true, true, true, true, true, true, true, true, false, true, false] rfl rfl (one_of HT_.out (by kernel_rfl)) (by decide) (fun K hK => ?_)
          refine goes_ Try.func68 (by kernel_rfl) rfl #[.agg #[.int .i64 a0_4, .int .i64 a0_5, .int .i64 a0_6, .int .i64 a0_7], .int .i64 t1002, .int .i64 t1003] (by rfl) rfl rfl (by (try simp only [List.map_toArray, List.map_cons, List.map_nil]); first | done | rfl | (simp only [List.length_drop, List.length_take]; rfl)) ?_
          with_reducible refine (spec_l02Next.calls a0_4 a0_5 a0_6 a0_7 t1002 t1003 t1004 t1005 t1006 t1007 _ A6.out).mono ?_
          rintro e w19 ⟨rfl, hb⟩
          refine ⟨_, rfl, ?_⟩
          have n0_ := Aside0.mk (blk_below (g := gB0) (o := .cells #[.int .i64 a0_0, .int .i64 a0_1, .int .i64 a0_2, .int .i64 a0_3, .int .i64 a0_4, .int .i64 a0_5, .int .i64 a0_6, .int .i64 a0_7, .int .i64 a0_8] 58 (0, 0)) (by (with_reducible repeat (first | refine blk_drewN ?_ _ | refine blk_drew ?_ | refine blk_alloc ?_ _)); exact BK0.out) hb)
          have n1_ := Aside0.mk (blk_below (g := gb999) (o := .cells #[.int .i64 a1_0, .int .i64 a1_1] 75 (0, 0)) (by (with_reducible repeat (first | refine blk_drewN ?_ _ | refine blk_drew ?_ | refine blk_alloc ?_ _)); exact BK999.out) hb)
          have n2_ := Aside0.mk (blk_below (g := gb1000) (o := .cells #[.int .i64 0, .int .i64 0, .int .i64 0, .int .i64 0, .int .i64 0, .int .i64 0, .int .i64 0, .int .i64 0, .int .i64 0] 58 (0, 0)) (by (with_reducible repeat (first | refine blk_drewN ?_ _ | refine blk_drew ?_ | refine blk_alloc ?_ _)); exact BK1000.out) hb)
          have n3_ := Aside0.mk (blk_below (g := gb1008) (o := .cells #[.int .i64 0, .int .i64 0, .int .i64 0, .int .i64 0, .int .i64 0, .int .i64 0, .int .i64 0, .int .i64 0, .int .i64 0] 58 (0, 0)) (by (with_reducible repeat (first | refine blk_drewN ?_ _ | refine blk_drew ?_ | refine blk_alloc ?_ _)); exact BK1008.out) hb)
          have n4_ := Aside0.mk (below_step (by repeat (first | (with_reducible first | exact HB.out | apply below_alloc | apply pw_below_drewN | apply below_drew1 | refine below_set ?_ GE0.out | refine below_set ?_ GE999.out | refine below_set ?_ GE1000.out | refine below_set ?_ GE1008.out) | exact HB.out)) hb)
          clear BK0
          clear BK999
          clear BK1000
          clear BK1008
          clear HB
          have BK0 := n0_
          have BK999 := n1_
          have BK1000 := n2_
          have BK1008 := n3_
          have HB := n4_
          clear n0_ n1_ n2_ n3_ n4_
          (try clear hb)
          (try clear hb2)
          (try clear hk)
          (try clear hi)
          refine hK.out _ _ ⟨(blk_cell BK0.out 0).trans rfl, (blk_cell BK0.out 1).trans rfl, (blk_cell BK0.out 2).trans rfl, (blk_cell BK0.out 3).trans rfl, (blk_cell BK0.out 4).trans rfl, (blk_cell BK0.out 5).trans rfl, (blk_cell BK0.out 6).trans rfl, (blk_cell BK0.out 7).trans rfl, (blk_cell BK0.out 8).trans rfl⟩ (fun hHeld => ?_)
          clear hK K
          refine norm_ (a' := ?_) ?_ ?_
          rotate_left
          · show Act.put _ (some 28) _ = _
            simp only [Act.put, List.setIfInBounds_toArray, List.set_cons_zero, List.set_cons_succ, i64_w, i32_w]
            rfl
          refine pure_ (i := 16) (N := some 34) (v := ?_) (a' := ?_) #[true, true, true, true, true, true, true, true, true, true, true, true, true, true, true, true, true, true, false] rfl rfl (any_of HT_.out (by kernel_rfl)) (fun _ _ _ h => h) (Or.inl ⟨by rfl, ?_⟩) ?_ ?_
          rotate_left
          · intro w'
            go_simp
            with_reducible rfl
          rotate_left
          · simp only [Act.put, List.setIfInBounds_toArray, List.set_cons_zero, List.set_cons_succ, i64_w, i32_w]
            rfl
          exact norm_ (by simp only [putAll, Act.put, List.setIfInBounds_toArray, List.set_cons_zero, List.set_cons_succ]) (hCont (gb1008) _ ⟨hHeld, (by (with_reducible repeat (first | refine blk_drewN ?_ _ | refine blk_drew ?_ | refine blk_alloc ?_ _)); exact BK0.out), (by (with_reducible repeat (first | refine blk_drewN ?_ _ | refine blk_drew ?_ | refine blk_alloc ?_ _)); exact BK1000.out), (by (with_reducible repeat (first | refine blk_drewN ?_ _ | refine blk_drew ?_ | refine blk_alloc ?_ _)); exact BK1008.out), (by (with_reducible repeat (first | refine blk_drewN ?_ _ | refine blk_drew ?_ | refine blk_alloc ?_ _)); exact BK999.out), GW1008.out, GE1008.out, NB0_1008.out, NB1008_0.out, NB1000_1008.out, NB1008_1000.out, NB999_1008.out, NB1008_999.out, (by repeat (first | (with_reducible first | exact HB.out | apply below_alloc | apply pw_below_drewN | apply below_drew1 | refine below_set ?_ GE0.out | refine below_set ?_ GE999.out | refine below_set ?_ GE1000.out | refine below_set ?_ GE1008.out) | exact HB.out))⟩)
      rintro gb1008 w20 ⟨hS_, h0_, h1_, h2_, h3_, h4_, h5_, h6_, h7_, h8_, h9_, h10_, h11_, h12_⟩
      have n0_ : Aside0 (w20.heap[gB0]? = some (.cells #[.int .i64 a0_0, .int .i64 a0_1, .int .i64 a0_2, .int .i64 a0_3, .int .i64 a0_4, .int .i64 a0_5, .int .i64 a0_6, .int .i64 a0_7, .int .i64 a0_8] 58 (0, 0))) := ⟨h0_⟩
      have n1_ : Aside0 (w20.heap[gb1000]? = some (.cells #[.int .i64 0, .int .i64 0, .int .i64 0, .int .i64 0, .int .i64 0, .int .i64 0, .int .i64 0, .int .i64 0, .int .i64 0] 58 (0, 0))) := ⟨h1_⟩
      have n2_ : Aside0 (w20.heap[gb1008]? = some (.cells #[.int .i64 0, .int .i64 0, .int .i64 0, .int .i64 0, .int .i64 0, .int .i64 0, .int .i64 0, .int .i64 0, .int .i64 0] 58 (0, 0))) := ⟨h2_⟩
      have n3_ : Aside0 (w20.heap[gb999]? = some (.cells #[.int .i64 a1_0, .int .i64 a1_1] 75 (0, 0))) := ⟨h3_⟩
      have n4_ : Aside0 (w.heap.size ≤ gb1008) := ⟨h4_⟩
      have n5_ : Aside0 (w.heap.size ≤ gb1008) := ⟨h5_⟩
      have n6_ : Aside0 (gB0 ≠ gb1008) := ⟨h6_⟩
      have n7_ : Aside0 (gb1008 ≠ gB0) := ⟨h7_⟩
      have n8_ : Aside0 (gb1000 ≠ gb1008) := ⟨h8_⟩
      have n9_ : Aside0 (gb1008 ≠ gb1000) := ⟨h9_⟩
      have n10_ : Aside0 (gb999 ≠ gb1008) := ⟨h10_⟩
      have n11_ : Aside0 (gb1008 ≠ gb999) := ⟨h11_⟩
      have n12_ : Aside0 (Below w.heap.size w w20) := ⟨h12_⟩
      clear BK0
      clear BK999
      clear BK1000
      clear HB
      clear h0_ h1_ h2_ h3_ h4_ h5_ h6_ h7_ h8_ h9_ h10_ h11_ h12_
      have BK0 := n0_
      have BK1000 := n1_
      have BK1008 := n2_
      have BK999 := n3_
      have GW1008 := n4_
      have GE1008 := n5_
      have NB0_1008 := n6_
      have NB1008_0 := n7_
      have NB1000_1008 := n8_
      have NB1008_1000 := n9_
      have NB999_1008 := n10_
      have NB1008_999 := n11_
      have HB := n12_
      clear n0_ n1_ n2_ n3_ n4_ n5_ n6_ n7_ n8_ n9_ n10_ n11_ n12_
      have hHeld : w20.cell? ⟨gB0, 0, none⟩ = some (.int .i64 a0_0) ∧ w20.cell? ⟨gB0, 1, none⟩ = some (.int .i64 a0_1) ∧ w20.cell? ⟨gB0, 2, none⟩ = some (.int .i64 a0_2) ∧ w20.cell? ⟨gB0, 3, none⟩ = some (.int .i64 a0_3) ∧ w20.cell? ⟨gB0, 4, none⟩ = some (.int .i64 a0_4) ∧ w20.cell? ⟨gB0, 5, none⟩ = some (.int .i64 a0_5) ∧ w20.cell? ⟨gB0, 6, none⟩ = some (.int .i64 a0_6) ∧ w20.cell? ⟨gB0, 7, none⟩ = some (.int .i64 a0_7) ∧ w20.cell? ⟨gB0, 8, none⟩ = some (.int .i64 a0_8) := hS_
      refine norm_ (a' := ?_) ?_ ?_
      rotate_left
      · simp only [putAll, Act.put, List.setIfInBounds_toArray, List.set_cons_zero, List.set_cons_succ]
        rfl
      refine one_ (i := 18) (N := none) #[true, true, true, true, true, true, true, true, true, true, true, true, true, true, true, true, true, true, true] rfl rfl (one_of HT_.out (by kernel_rfl)) (by decide) (fun K hK => ?_)
      have hs21 : w20.cell? ⟨gb1008, 0, none⟩ = some (.int .i64 0) := (blk_cell BK1008.out 0).trans rfl
      have hfs21 := blk_frozen BK1008.out 0
      have hns21_0 := NB0_1008.out
      have hns21_1 := NB999_1008.out
      have hns21_2 := NB1000_1008.out
      have hms21_0 := NB1008_0.out
      have hms21_1 := NB1008_999.out
      have hms21_2 := NB1008_1000.out
      have hs22 : w20.cell? ⟨gb1008, 1, none⟩ = some (.int .i64 0) := (blk_cell BK1008.out 1).trans rfl
      have hfs22 := blk_frozen BK1008.out 1
      have hns22_0 := NB0_1008.out
      have hns22_1 := NB999_1008.out
      have hns22_2 := NB1000_1008.out
      have hms22_0 := NB1008_0.out
      have hms22_1 := NB1008_999.out
      have hms22_2 := NB1008_1000.out
      have hs23 : w20.cell? ⟨gb1008, 2, none⟩ = some (.int .i64 0) := (blk_cell BK1008.out 2).trans rfl
      have hfs23 := blk_frozen BK1008.out 2
      have hns23_0 := NB0_1008.out
      have hns23_1 := NB999_1008.out
      have hns23_2 := NB1000_1008.out
      have hms23_0 := NB1008_0.out
      have hms23_1 := NB1008_999.out
      have hms23_2 := NB1008_1000.out
      have hs24 : w20.cell? ⟨gb1008, 3, none⟩ = some (.int .i64 0) := (blk_cell BK1008.out 3).trans rfl
      have hfs24 := blk_frozen BK1008.out 3
      have hns24_0 := NB0_1008.out
      have hns24_1 := NB999_1008.out
      have hns24_2 := NB1000_1008.out
      have hms24_0 := NB1008_0.out
      have hms24_1 := NB1008_999.out
      have hms24_2 := NB1008_1000.out
      have hs25 : w20.cell? ⟨gb1008, 4, none⟩ = some (.int .i64 0) := (blk_cell BK1008.out 4).trans rfl
      have hfs25 := blk_frozen BK1008.out 4
      have hns25_0 := NB0_1008.out
      have hns25_1 := NB999_1008.out
      have hns25_2 := NB1000_1008.out
      have hms25_0 := NB1008_0.out
      have hms25_1 := NB1008_999.out
      have hms25_2 := NB1008_1000.out
      have hs26 : w20.cell? ⟨gb1008, 5, none⟩ = some (.int .i64 0) := (blk_cell BK1008.out 5).trans rfl
      have hfs26 := blk_frozen BK1008.out 5
      have hns26_0 := NB0_1008.out
      have hns26_1 := NB999_1008.out
      have hns26_2 := NB1000_1008.out
      have hms26_0 := NB1008_0.out
      have hms26_1 := NB1008_999.out
      have hms26_2 := NB1008_1000.out
      have hs27 : w20.cell? ⟨gb1008, 6, none⟩ = some (.int .i64 0) := (blk_cell BK1008.out 6).trans rfl
      have hfs27 := blk_frozen BK1008.out 6
      have hns27_0 := NB0_1008.out
      have hns27_1 := NB999_1008.out
      have hns27_2 := NB1000_1008.out
      have hms27_0 := NB1008_0.out
      have hms27_1 := NB1008_999.out
      have hms27_2 := NB1008_1000.out
      have hs28 : w20.cell? ⟨gb1008, 7, none⟩ = some (.int .i64 0) := (blk_cell BK1008.out 7).trans rfl
      have hfs28 := blk_frozen BK1008.out 7
      have hns28_0 := NB0_1008.out
      have hns28_1 := NB999_1008.out
      have hns28_2 := NB1000_1008.out
      have hms28_0 := NB1008_0.out
      have hms28_1 := NB1008_999.out
      have hms28_2 := NB1008_1000.out
      have hs29 : w20.cell? ⟨gb1008, 8, none⟩ = some (.int .i64 0) := (blk_cell BK1008.out 8).trans rfl
      have hfs29 := blk_frozen BK1008.out 8
      have hns29_0 := NB0_1008.out
      have hns29_1 := NB999_1008.out
      have hns29_2 := NB1000_1008.out
      have hms29_0 := NB1008_0.out
      have hms29_1 := NB1008_999.out
      have hms29_2 := NB1008_1000.out
      refine skip_ (w1 := ?_) (by rfl) rfl ?_ ?_
      rotate_left
      · go_simp
        rfl
      refine hK.out _ _ ⟨((cell_far (p := ⟨gb1008, _, none⟩) NB0_1008.out _).trans (((cell_far (p := ⟨gb1008, _, none⟩) NB0_1008.out _).trans (((cell_far (p := ⟨gb1008, _, none⟩) NB0_1008.out _).trans (((cell_far (p := ⟨gb1008, _, none⟩) NB0_1008.out _).trans (((cell_far (p := ⟨gb1008, _, none⟩) NB0_1008.out _).trans (((cell_far (p := ⟨gb1008, _, none⟩) NB0_1008.out _).trans (((cell_far (p := ⟨gb1008, _, none⟩) NB0_1008.out _).trans (((cell_far (p := ⟨gb1008, _, none⟩) NB0_1008.out _).trans (((cell_far (p := ⟨gb1008, _, none⟩) NB0_1008.out _).trans (hHeld.1)))))))))))))))))), ((cell_far (p := ⟨gb1008, _, none⟩) NB0_1008.out _).trans (((cell_far (p := ⟨gb1008, _, none⟩) NB0_1008.out _).trans (((cell_far (p := ⟨gb1008, _, none⟩) NB0_1008.out _).trans (((cell_far (p := ⟨gb1008, _, none⟩) NB0_1008.out _).trans (((cell_far (p := ⟨gb1008, _, none⟩) NB0_1008.out _).trans (((cell_far (p := ⟨gb1008, _, none⟩) NB0_1008.out _).trans (((cell_far (p := ⟨gb1008, _, none⟩) NB0_1008.out _).trans (((cell_far (p := ⟨gb1008, _, none⟩) NB0_1008.out _).trans (((cell_far (p := ⟨gb1008, _, none⟩) NB0_1008.out _).trans (hHeld.2.1)))))))))))))))))), ((cell_far (p := ⟨gb1008, _, none⟩) NB0_1008.out _).trans (((cell_far (p := ⟨gb1008, _, none⟩) NB0_1008.out _).trans (((cell_far (p := ⟨gb1008, _, none⟩) NB0_1008.out _).trans (((cell_far (p := ⟨gb1008, _, none⟩) NB0_1008.out _).trans (((cell_far (p := ⟨gb1008, _, none⟩) NB0_1008.out _).trans (((cell_far (p := ⟨gb1008, _, none⟩) NB0_1008.out _).trans (((cell_far (p := ⟨gb1008, _, none⟩) NB0_1008.out _).trans (((cell_far (p := ⟨gb1008, _, none⟩) NB0_1008.out _).trans (((cell_far (p := ⟨gb1008, _, none⟩) NB0_1008.out _).trans (hHeld.2.2.1)))))))))))))))))), ((cell_far (p := ⟨gb1008, _, none⟩) NB0_1008.out _).trans (((cell_far (p := ⟨gb1008, _, none⟩) NB0_1008.out _).trans (((cell_far (p := ⟨gb1008, _, none⟩) NB0_1008.out _).trans (((cell_far (p := ⟨gb1008, _, none⟩) NB0_1008.out _).trans (((cell_far (p := ⟨gb1008, _, none⟩) NB0_1008.out _).trans (((cell_far (p := ⟨gb1008, _, none⟩) NB0_1008.out _).trans (((cell_far (p := ⟨gb1008, _, none⟩) NB0_1008.out _).trans (((cell_far (p := ⟨gb1008, _, none⟩) NB0_1008.out _).trans (((cell_far (p := ⟨gb1008, _, none⟩) NB0_1008.out _).trans (hHeld.2.2.2.1)))))))))))))))))), ((cell_far (p := ⟨gb1008, _, none⟩) NB0_1008.out _).trans (((cell_far (p := ⟨gb1008, _, none⟩) NB0_1008.out _).trans (((cell_far (p := ⟨gb1008, _, none⟩) NB0_1008.out _).trans (((cell_far (p := ⟨gb1008, _, none⟩) NB0_1008.out _).trans (((cell_far (p := ⟨gb1008, _, none⟩) NB0_1008.out _).trans (((cell_far (p := ⟨gb1008, _, none⟩) NB0_1008.out _).trans (((cell_far (p := ⟨gb1008, _, none⟩) NB0_1008.out _).trans (((cell_far (p := ⟨gb1008, _, none⟩) NB0_1008.out _).trans (((cell_far (p := ⟨gb1008, _, none⟩) NB0_1008.out _).trans (hHeld.2.2.2.2.1)))))))))))))))))), ((cell_far (p := ⟨gb1008, _, none⟩) NB0_1008.out _).trans (((cell_far (p := ⟨gb1008, _, none⟩) NB0_1008.out _).trans (((cell_far (p := ⟨gb1008, _, none⟩) NB0_1008.out _).trans (((cell_far (p := ⟨gb1008, _, none⟩) NB0_1008.out _).trans (((cell_far (p := ⟨gb1008, _, none⟩) NB0_1008.out _).trans (((cell_far (p := ⟨gb1008, _, none⟩) NB0_1008.out _).trans (((cell_far (p := ⟨gb1008, _, none⟩) NB0_1008.out _).trans (((cell_far (p := ⟨gb1008, _, none⟩) NB0_1008.out _).trans (((cell_far (p := ⟨gb1008, _, none⟩) NB0_1008.out _).trans (hHeld.2.2.2.2.2.1)))))))))))))))))), ((cell_far (p := ⟨gb1008, _, none⟩) NB0_1008.out _).trans (((cell_far (p := ⟨gb1008, _, none⟩) NB0_1008.out _).trans (((cell_far (p := ⟨gb1008, _, none⟩) NB0_1008.out _).trans (((cell_far (p := ⟨gb1008, _, none⟩) NB0_1008.out _).trans (((cell_far (p := ⟨gb1008, _, none⟩) NB0_1008.out _).trans (((cell_far (p := ⟨gb1008, _, none⟩) NB0_1008.out _).trans (((cell_far (p := ⟨gb1008, _, none⟩) NB0_1008.out _).trans (((cell_far (p := ⟨gb1008, _, none⟩) NB0_1008.out _).trans (((cell_far (p := ⟨gb1008, _, none⟩) NB0_1008.out _).trans (hHeld.2.2.2.2.2.2.1)))))))))))))))))), ((cell_far (p := ⟨gb1008, _, none⟩) NB0_1008.out _).trans (((cell_far (p := ⟨gb1008, _, none⟩) NB0_1008.out _).trans (((cell_far (p := ⟨gb1008, _, none⟩) NB0_1008.out _).trans (((cell_far (p := ⟨gb1008, _, none⟩) NB0_1008.out _).trans (((cell_far (p := ⟨gb1008, _, none⟩) NB0_1008.out _).trans (((cell_far (p := ⟨gb1008, _, none⟩) NB0_1008.out _).trans (((cell_far (p := ⟨gb1008, _, none⟩) NB0_1008.out _).trans (((cell_far (p := ⟨gb1008, _, none⟩) NB0_1008.out _).trans (((cell_far (p := ⟨gb1008, _, none⟩) NB0_1008.out _).trans (hHeld.2.2.2.2.2.2.2.1)))))))))))))))))), ((cell_far (p := ⟨gb1008, _, none⟩) NB0_1008.out _).trans (((cell_far (p := ⟨gb1008, _, none⟩) NB0_1008.out _).trans (((cell_far (p := ⟨gb1008, _, none⟩) NB0_1008.out _).trans (((cell_far (p := ⟨gb1008, _, none⟩) NB0_1008.out _).trans (((cell_far (p := ⟨gb1008, _, none⟩) NB0_1008.out _).trans (((cell_far (p := ⟨gb1008, _, none⟩) NB0_1008.out _).trans (((cell_far (p := ⟨gb1008, _, none⟩) NB0_1008.out _).trans (((cell_far (p := ⟨gb1008, _, none⟩) NB0_1008.out _).trans (((cell_far (p := ⟨gb1008, _, none⟩) NB0_1008.out _).trans (hHeld.2.2.2.2.2.2.2.2))))))))))))))))))⟩ (fun hHeld => ?_)
      clear hK K
      refine done_ (done_of HT_.out (by kernel_rfl)) ?_
      try go_wp2_with (first | ((with_reducible refine gate_callee (f := 79) rfl ?_); refine goesL_ (some 35) rfl rfl Try.func79 (by kernel_rfl) rfl #[.pointer (some ⟨gb1008, 0, none⟩)] rfl (by (try simp only [List.map_toArray, List.map_cons, List.map_nil]); first | done | rfl | (simp only [List.length_drop, List.length_take]; rfl)) ?_; (with_reducible refine (spec_l04Is.calls k gb1008 a0_0 a0_1 a0_2 a0_3 t1004 t1005 t1006 t1007 (wrap64 (a0_8 - 1500)) true _ ?side1 A7.out).mono ?_); (case side1 => (with_reducible repeat (first | refine blk_drewN ?_ _ | refine blk_drew ?_ | refine blk_alloc ?_ _)); refine blk_put (cs := #[.int .i64 a0_0, .int .i64 a0_1, .int .i64 a0_2, .int .i64 a0_3, .int .i64 t1004, .int .i64 t1005, .int .i64 t1006, .int .i64 t1007, .int .i64 0]) ?_ 8 _ rfl; (with_reducible repeat (first | refine blk_drewN ?_ _ | refine blk_drew ?_ | refine blk_alloc ?_ _)); refine blk_put (cs := #[.int .i64 a0_0, .int .i64 a0_1, .int .i64 a0_2, .int .i64 a0_3, .int .i64 t1004, .int .i64 t1005, .int .i64 t1006, .int .i64 0, .int .i64 0]) ?_ 7 _ rfl; (with_reducible repeat (first | refine blk_drewN ?_ _ | refine blk_drew ?_ | refine blk_alloc ?_ _)); refine blk_put (cs := #[.int .i64 a0_0, .int .i64 a0_1, .int .i64 a0_2, .int .i64 a0_3, .int .i64 t1004, .int .i64 t1005, .int .i64 0, .int .i64 0, .int .i64 0]) ?_ 6 _ rfl; (with_reducible repeat (first | refine blk_drewN ?_ _ | refine blk_drew ?_ | refine blk_alloc ?_ _)); refine blk_put (cs := #[.int .i64 a0_0, .int .i64 a0_1, .int .i64 a0_2, .int .i64 a0_3, .int .i64 t1004, .int .i64 0, .int .i64 0, .int .i64 0, .int .i64 0]) ?_ 5 _ rfl; (with_reducible repeat (first | refine blk_drewN ?_ _ | refine blk_drew ?_ | refine blk_alloc ?_ _)); refine blk_put (cs := #[.int .i64 a0_0, .int .i64 a0_1, .int .i64 a0_2, .int .i64 a0_3, .int .i64 0, .int .i64 0, .int .i64 0, .int .i64 0, .int .i64 0]) ?_ 4 _ rfl; (with_reducible repeat (first | refine blk_drewN ?_ _ | refine blk_drew ?_ | refine blk_alloc ?_ _)); refine blk_put (cs := #[.int .i64 a0_0, .int .i64 a0_1, .int .i64 a0_2, .int .i64 0, .int .i64 0, .int .i64 0, .int .i64 0, .int .i64 0, .int .i64 0]) ?_ 3 _ rfl; (with_reducible repeat (first | refine blk_drewN ?_ _ | refine blk_drew ?_ | refine blk_alloc ?_ _)); refine blk_put (cs := #[.int .i64 a0_0, .int .i64 a0_1, .int .i64 0, .int .i64 0, .int .i64 0, .int .i64 0, .int .i64 0, .int .i64 0, .int .i64 0]) ?_ 2 _ rfl; (with_reducible repeat (first | refine blk_drewN ?_ _ | refine blk_drew ?_ | refine blk_alloc ?_ _)); refine blk_put (cs := #[.int .i64 a0_0, .int .i64 0, .int .i64 0, .int .i64 0, .int .i64 0, .int .i64 0, .int .i64 0, .int .i64 0, .int .i64 0]) ?_ 1 _ rfl; (with_reducible repeat (first | refine blk_drewN ?_ _ | refine blk_drew ?_ | refine blk_alloc ?_ _)); refine blk_put (cs := #[.int .i64 0, .int .i64 0, .int .i64 0, .int .i64 0, .int .i64 0, .int .i64 0, .int .i64 0, .int .i64 0, .int .i64 0]) ?_ 0 _ rfl; (with_reducible repeat (first | refine blk_drewN ?_ _ | refine blk_drew ?_ | refine blk_alloc ?_ _)); exact BK1008.out); rintro e w30 ⟨rfl, hb⟩; refine ⟨_, rfl, ?_⟩; have n0_ := Aside0.mk (blk_below (g := gB0) (o := .cells #[.int .i64 a0_0, .int .i64 a0_1, .int .i64 a0_2, .int .i64 a0_3, .int .i64 a0_4, .int .i64 a0_5, .int .i64 a0_6, .int .i64 a0_7, .int .i64 a0_8] 58 (0, 0)) (by (with_reducible repeat (first | refine blk_drewN ?_ _ | refine blk_drew ?_ | refine blk_alloc ?_ _)); refine blk_far ?_ NB0_1008.out _; (with_reducible repeat (first | refine blk_drewN ?_ _ | refine blk_drew ?_ | refine blk_alloc ?_ _)); refine blk_far ?_ NB0_1008.out _; (with_reducible repeat (first | refine blk_drewN ?_ _ | refine blk_drew ?_ | refine blk_alloc ?_ _)); refine blk_far ?_ NB0_1008.out _; (with_reducible repeat (first | refine blk_drewN ?_ _ | refine blk_drew ?_ | refine blk_alloc ?_ _)); refine blk_far ?_ NB0_1008.out _; (with_reducible repeat (first | refine blk_drewN ?_ _ | refine blk_drew ?_ | refine blk_alloc ?_ _)); refine blk_far ?_ NB0_1008.out _; (with_reducible repeat (first | refine blk_drewN ?_ _ | refine blk_drew ?_ | refine blk_alloc ?_ _)); refine blk_far ?_ NB0_1008.out _; (with_reducible repeat (first | refine blk_drewN ?_ _ | refine blk_drew ?_ | refine blk_alloc ?_ _)); refine blk_far ?_ NB0_1008.out _; (with_reducible repeat (first | refine blk_drewN ?_ _ | refine blk_drew ?_ | refine blk_alloc ?_ _)); refine blk_far ?_ NB0_1008.out _; (with_reducible repeat (first | refine blk_drewN ?_ _ | refine blk_drew ?_ | refine blk_alloc ?_ _)); refine blk_far ?_ NB0_1008.out _; (with_reducible repeat (first | refine blk_drewN ?_ _ | refine blk_drew ?_ | refine blk_alloc ?_ _)); exact BK0.out) hb); have n1_ := Aside0.mk (blk_below (g := gb999) (o := .cells #[.int .i64 a1_0, .int .i64 a1_1] 75 (0, 0)) (by (with_reducible repeat (first | refine blk_drewN ?_ _ | refine blk_drew ?_ | refine blk_alloc ?_ _)); refine blk_far ?_ NB999_1008.out _; (with_reducible repeat (first | refine blk_drewN ?_ _ | refine blk_drew ?_ | refine blk_alloc ?_ _)); refine blk_far ?_ NB999_1008.out _; (with_reducible repeat (first | refine blk_drewN ?_ _ | refine blk_drew ?_ | refine blk_alloc ?_ _)); refine blk_far ?_ NB999_1008.out _; (with_reducible repeat (first | refine blk_drewN ?_ _ | refine blk_drew ?_ | refine blk_alloc ?_ _)); refine blk_far ?_ NB999_1008.out _; (with_reducible repeat (first | refine blk_drewN ?_ _ | refine blk_drew ?_ | refine blk_alloc ?_ _)); refine blk_far ?_ NB999_1008.out _; (with_reducible repeat (first | refine blk_drewN ?_ _ | refine blk_drew ?_ | refine blk_alloc ?_ _)); refine blk_far ?_ NB999_1008.out _; (with_reducible repeat (first | refine blk_drewN ?_ _ | refine blk_drew ?_ | refine blk_alloc ?_ _)); refine blk_far ?_ NB999_1008.out _; (with_reducible repeat (first | refine blk_drewN ?_ _ | refine blk_drew ?_ | refine blk_alloc ?_ _)); refine blk_far ?_ NB999_1008.out _; (with_reducible repeat (first | refine blk_drewN ?_ _ | refine blk_drew ?_ | refine blk_alloc ?_ _)); refine blk_far ?_ NB999_1008.out _; (with_reducible repeat (first | refine blk_drewN ?_ _ | refine blk_drew ?_ | refine blk_alloc ?_ _)); exact BK999.out) hb); have n2_ := Aside0.mk (blk_below (g := gb1000) (o := .cells #[.int .i64 0, .int .i64 0, .int .i64 0, .int .i64 0, .int .i64 0, .int .i64 0, .int .i64 0, .int .i64 0, .int .i64 0] 58 (0, 0)) (by (with_reducible repeat (first | refine blk_drewN ?_ _ | refine blk_drew ?_ | refine blk_alloc ?_ _)); refine blk_far ?_ NB1000_1008.out _; (with_reducible repeat (first | refine blk_drewN ?_ _ | refine blk_drew ?_ | refine blk_alloc ?_ _)); refine blk_far ?_ NB1000_1008.out _; (with_reducible repeat (first | refine blk_drewN ?_ _ | refine blk_drew ?_ | refine blk_alloc ?_ _)); refine blk_far ?_ NB1000_1008.out _; (with_reducible repeat (first | refine blk_drewN ?_ _ | refine blk_drew ?_ | refine blk_alloc ?_ _)); refine blk_far ?_ NB1000_1008.out _; (with_reducible repeat (first | refine blk_drewN ?_ _ | refine blk_drew ?_ | refine blk_alloc ?_ _)); refine blk_far ?_ NB1000_1008.out _; (with_reducible repeat (first | refine blk_drewN ?_ _ | refine blk_drew ?_ | refine blk_alloc ?_ _)); refine blk_far ?_ NB1000_1008.out _; (with_reducible repeat (first | refine blk_drewN ?_ _ | refine blk_drew ?_ | refine blk_alloc ?_ _)); refine blk_far ?_ NB1000_1008.out _; (with_reducible repeat (first | refine blk_drewN ?_ _ | refine blk_drew ?_ | refine blk_alloc ?_ _)); refine blk_far ?_ NB1000_1008.out _; (with_reducible repeat (first | refine blk_drewN ?_ _ | refine blk_drew ?_ | refine blk_alloc ?_ _)); refine blk_far ?_ NB1000_1008.out _; (with_reducible repeat (first | refine blk_drewN ?_ _ | refine blk_drew ?_ | refine blk_alloc ?_ _)); exact BK1000.out) hb); have n3_ := Aside0.mk (blk_below (g := gb1008) (o := .cells #[.int .i64 a0_0, .int .i64 a0_1, .int .i64 a0_2, .int .i64 a0_3, .int .i64 t1004, .int .i64 t1005, .int .i64 t1006, .int .i64 t1007, .int .i64 (wrap64 (a0_8 - 1500))] 58 (0, 0)) (by (with_reducible repeat (first | refine blk_drewN ?_ _ | refine blk_drew ?_ | refine blk_alloc ?_ _)); refine blk_put (cs := #[.int .i64 a0_0, .int .i64 a0_1, .int .i64 a0_2, .int .i64 a0_3, .int .i64 t1004, .int .i64 t1005, .int .i64 t1006, .int .i64 t1007, .int .i64 0]) ?_ 8 _ rfl; (with_reducible repeat (first | refine blk_drewN ?_ _ | refine blk_drew ?_ | refine blk_alloc ?_ _)); refine blk_put (cs := #[.int .i64 a0_0, .int .i64 a0_1, .int .i64 a0_2, .int .i64 a0_3, .int .i64 t1004, .int .i64 t1005, .int .i64 t1006, .int .i64 0, .int .i64 0]) ?_ 7 _ rfl; (with_reducible repeat (first | refine blk_drewN ?_ _ | refine blk_drew ?_ | refine blk_alloc ?_ _)); refine blk_put (cs := #[.int .i64 a0_0, .int .i64 a0_1, .int .i64 a0_2, .int .i64 a0_3, .int .i64 t1004, .int .i64 t1005, .int .i64 0, .int .i64 0, .int .i64 0]) ?_ 6 _ rfl; (with_reducible repeat (first | refine blk_drewN ?_ _ | refine blk_drew ?_ | refine blk_alloc ?_ _)); refine blk_put (cs := #[.int .i64 a0_0, .int .i64 a0_1, .int .i64 a0_2, .int .i64 a0_3, .int .i64 t1004, .int .i64 0, .int .i64 0, .int .i64 0, .int .i64 0]) ?_ 5 _ rfl; (with_reducible repeat (first | refine blk_drewN ?_ _ | refine blk_drew ?_ | refine blk_alloc ?_ _)); refine blk_put (cs := #[.int .i64 a0_0, .int .i64 a0_1, .int .i64 a0_2, .int .i64 a0_3, .int .i64 0, .int .i64 0, .int .i64 0, .int .i64 0, .int .i64 0]) ?_ 4 _ rfl; (with_reducible repeat (first | refine blk_drewN ?_ _ | refine blk_drew ?_ | refine blk_alloc ?_ _)); refine blk_put (cs := #[.int .i64 a0_0, .int .i64 a0_1, .int .i64 a0_2, .int .i64 0, .int .i64 0, .int .i64 0, .int .i64 0, .int .i64 0, .int .i64 0]) ?_ 3 _ rfl; (with_reducible repeat (first | refine blk_drewN ?_ _ | refine blk_drew ?_ | refine blk_alloc ?_ _)); refine blk_put (cs := #[.int .i64 a0_0, .int .i64 a0_1, .int .i64 0, .int .i64 0, .int .i64 0, .int .i64 0, .int .i64 0, .int .i64 0, .int .i64 0]) ?_ 2 _ rfl; (with_reducible repeat (first | refine blk_drewN ?_ _ | refine blk_drew ?_ | refine blk_alloc ?_ _)); refine blk_put (cs := #[.int .i64 a0_0, .int .i64 0, .int .i64 0, .int .i64 0, .int .i64 0, .int .i64 0, .int .i64 0, .int .i64 0, .int .i64 0]) ?_ 1 _ rfl; (with_reducible repeat (first | refine blk_drewN ?_ _ | refine blk_drew ?_ | refine blk_alloc ?_ _)); refine blk_put (cs := #[.int .i64 0, .int .i64 0, .int .i64 0, .int .i64 0, .int .i64 0, .int .i64 0, .int .i64 0, .int .i64 0, .int .i64 0]) ?_ 0 _ rfl; (with_reducible repeat (first | refine blk_drewN ?_ _ | refine blk_drew ?_ | refine blk_alloc ?_ _)); exact BK1008.out) hb); have n4_ := Aside0.mk (below_step (by repeat (first | (with_reducible first | exact HB.out | apply below_alloc | apply pw_below_drewN | apply below_drew1 | refine below_set ?_ GE0.out | refine below_set ?_ GE999.out | refine below_set ?_ GE1000.out | refine below_set ?_ GE1008.out) | exact HB.out)) hb); clear BK0; clear BK999; clear BK1000; clear BK1008; clear HB; have BK0 := n0_; have BK999 := n1_; have BK1000 := n2_; have BK1008 := n3_; have HB := n4_; clear n0_ n1_ n2_ n3_ n4_; (try clear hb); (try clear hb2); (try clear hk); (try clear hi); have hnb31 := NB1008_0.out; have hnc31 := NB0_1008.out; have hnb32 := NB1008_999.out; have hnc32 := NB999_1008.out; have hnb33 := NB1008_1000.out; have hnc33 := NB1000_1008.out; have hcz34_0 : w30.cell? ⟨gb1008, 0, none⟩ = some (.int .i64 a0_0) := (blk_cell BK1008.out 0).trans rfl; have hcz34_1 : w30.cell? ⟨gb1008, 1, none⟩ = some (.int .i64 a0_1) := (blk_cell BK1008.out 1).trans rfl; have hcz34_2 : w30.cell? ⟨gb1008, 2, none⟩ = some (.int .i64 a0_2) := (blk_cell BK1008.out 2).trans rfl; have hcz34_3 : w30.cell? ⟨gb1008, 3, none⟩ = some (.int .i64 a0_3) := (blk_cell BK1008.out 3).trans rfl; have hcz34_4 : w30.cell? ⟨gb1008, 4, none⟩ = some (.int .i64 t1004) := (blk_cell BK1008.out 4).trans rfl; have hcz34_5 : w30.cell? ⟨gb1008, 5, none⟩ = some (.int .i64 t1005) := (blk_cell BK1008.out 5).trans rfl; have hcz34_6 : w30.cell? ⟨gb1008, 6, none⟩ = some (.int .i64 t1006) := (blk_cell BK1008.out 6).trans rfl; have hcz34_7 : w30.cell? ⟨gb1008, 7, none⟩ = some (.int .i64 t1007) := (blk_cell BK1008.out 7).trans rfl; have hcz34_8 : w30.cell? ⟨gb1008, 8, none⟩ = some (.int .i64 (wrap64 (a0_8 - 1500))) := (blk_cell BK1008.out 8).trans rfl; have hfz34_0 := blk_frozen BK1008.out 0; have hfz34_1 := blk_frozen BK1008.out 1; have hfz34_2 := blk_frozen BK1008.out 2; have hfz34_3 := blk_frozen BK1008.out 3; have hfz34_4 := blk_frozen BK1008.out 4; have hfz34_5 := blk_frozen BK1008.out 5; have hfz34_6 := blk_frozen BK1008.out 6; have hfz34_7 := blk_frozen BK1008.out 7; have hfz34_8 := blk_frozen BK1008.out 8; have hnb35 := NB1000_0.out; have hnc35 := NB0_1000.out; have hcz36_0 : w30.cell? ⟨gb1000, 0, none⟩ = some (.int .i64 0) := (blk_cell BK1000.out 0).trans rfl; have hcz36_1 : w30.cell? ⟨gb1000, 1, none⟩ = some (.int .i64 0) := (blk_cell BK1000.out 1).trans rfl; have hcz36_2 : w30.cell? ⟨gb1000, 2, none⟩ = some (.int .i64 0) := (blk_cell BK1000.out 2).trans rfl; have hcz36_3 : w30.cell? ⟨gb1000, 3, none⟩ = some (.int .i64 0) := (blk_cell BK1000.out 3).trans rfl; have hcz36_4 : w30.cell? ⟨gb1000, 4, none⟩ = some (.int .i64 0) := (blk_cell BK1000.out 4).trans rfl; have hcz36_5 : w30.cell? ⟨gb1000, 5, none⟩ = some (.int .i64 0) := (blk_cell BK1000.out 5).trans rfl; have hcz36_6 : w30.cell? ⟨gb1000, 6, none⟩ = some (.int .i64 0) := (blk_cell BK1000.out 6).trans rfl; have hcz36_7 : w30.cell? ⟨gb1000, 7, none⟩ = some (.int .i64 0) := (blk_cell BK1000.out 7).trans rfl; have hcz36_8 : w30.cell? ⟨gb1000, 8, none⟩ = some (.int .i64 0) := (blk_cell BK1000.out 8).trans rfl; have hfz36_0 := blk_frozen BK1000.out 0; have hfz36_1 := blk_frozen BK1000.out 1; have hfz36_2 := blk_frozen BK1000.out 2; have hfz36_3 := blk_frozen BK1000.out 3; have hfz36_4 := blk_frozen BK1000.out 4; have hfz36_5 := blk_frozen BK1000.out 5; have hfz36_6 := blk_frozen BK1000.out 6; have hfz36_7 := blk_frozen BK1000.out 7; have hfz36_8 := blk_frozen BK1000.out 8))
      refine bodyPost_ret (results_ct rfl _ _ gb1000 58 #[.int .i64 a0_0, .int .i64 a0_1, .int .i64 a0_2, .int .i64 a0_3, .int .i64 t1004, .int .i64 t1005, .int .i64 t1006, .int .i64 t1007, .int .i64 (wrap64 (a0_8 - 1500))] (0, 0) _ rfl (by (with_reducible repeat (first | refine blk_drewN ?_ _ | refine blk_drew ?_ | refine blk_alloc ?_ _)); refine blk_put (cs := #[.int .i64 a0_0, .int .i64 a0_1, .int .i64 a0_2, .int .i64 a0_3, .int .i64 t1004, .int .i64 t1005, .int .i64 t1006, .int .i64 t1007, .int .i64 0]) ?_ 8 _ rfl; (with_reducible repeat (first | refine blk_drewN ?_ _ | refine blk_drew ?_ | refine blk_alloc ?_ _)); refine blk_put (cs := #[.int .i64 a0_0, .int .i64 a0_1, .int .i64 a0_2, .int .i64 a0_3, .int .i64 t1004, .int .i64 t1005, .int .i64 t1006, .int .i64 0, .int .i64 0]) ?_ 7 _ rfl; (with_reducible repeat (first | refine blk_drewN ?_ _ | refine blk_drew ?_ | refine blk_alloc ?_ _)); refine blk_put (cs := #[.int .i64 a0_0, .int .i64 a0_1, .int .i64 a0_2, .int .i64 a0_3, .int .i64 t1004, .int .i64 t1005, .int .i64 0, .int .i64 0, .int .i64 0]) ?_ 6 _ rfl; (with_reducible repeat (first | refine blk_drewN ?_ _ | refine blk_drew ?_ | refine blk_alloc ?_ _)); refine blk_put (cs := #[.int .i64 a0_0, .int .i64 a0_1, .int .i64 a0_2, .int .i64 a0_3, .int .i64 t1004, .int .i64 0, .int .i64 0, .int .i64 0, .int .i64 0]) ?_ 5 _ rfl; (with_reducible repeat (first | refine blk_drewN ?_ _ | refine blk_drew ?_ | refine blk_alloc ?_ _)); refine blk_put (cs := #[.int .i64 a0_0, .int .i64 a0_1, .int .i64 a0_2, .int .i64 a0_3, .int .i64 0, .int .i64 0, .int .i64 0, .int .i64 0, .int .i64 0]) ?_ 4 _ rfl; (with_reducible repeat (first | refine blk_drewN ?_ _ | refine blk_drew ?_ | refine blk_alloc ?_ _)); refine blk_put (cs := #[.int .i64 a0_0, .int .i64 a0_1, .int .i64 a0_2, .int .i64 0, .int .i64 0, .int .i64 0, .int .i64 0, .int .i64 0, .int .i64 0]) ?_ 3 _ rfl; (with_reducible repeat (first | refine blk_drewN ?_ _ | refine blk_drew ?_ | refine blk_alloc ?_ _)); refine blk_put (cs := #[.int .i64 a0_0, .int .i64 a0_1, .int .i64 0, .int .i64 0, .int .i64 0, .int .i64 0, .int .i64 0, .int .i64 0, .int .i64 0]) ?_ 2 _ rfl; (with_reducible repeat (first | refine blk_drewN ?_ _ | refine blk_drew ?_ | refine blk_alloc ?_ _)); refine blk_put (cs := #[.int .i64 a0_0, .int .i64 0, .int .i64 0, .int .i64 0, .int .i64 0, .int .i64 0, .int .i64 0, .int .i64 0, .int .i64 0]) ?_ 1 _ rfl; (with_reducible repeat (first | refine blk_drewN ?_ _ | refine blk_drew ?_ | refine blk_alloc ?_ _)); refine blk_put (cs := #[.int .i64 0, .int .i64 0, .int .i64 0, .int .i64 0, .int .i64 0, .int .i64 0, .int .i64 0, .int .i64 0, .int .i64 0]) ?_ 0 _ rfl; (with_reducible repeat (first | refine blk_drewN ?_ _ | refine blk_drew ?_ | refine blk_alloc ?_ _)); exact BK1000.out) Try.underlying58 rfl (by kernel_rfl)) rfl ?_
      exact ⟨by first | rfl | (simp [errW_none, errW_some] <;> rfl) | (simp [*, errW_none, errW_some] <;> rfl), by repeat (first | (with_reducible first | exact HB.out | apply below_alloc | apply pw_below_drewN | apply below_drew1 | refine below_set ?_ GE0.out | refine below_set ?_ GE999.out | refine below_set ?_ GE1000.out | refine below_set ?_ GE1008.out) | exact HB.out)⟩
    · replace c8 := Bool.eq_false_iff.mpr c8
      subst c8
      have H1 : (some (0, 0, 0, 0, 0, 0, 0, 0, 0, false)) = some (r1, r2, r3, r4, r5, r6, r7, r8, r9, r10) := by rw [if_neg (show ¬ (false = true) by decide)] at H; exact H
      clear H
      have H := H1
      clear H1
      simp only [Option.some.injEq, Prod.mk.injEq] at H
      obtain ⟨rfl, rfl, rfl, rfl, rfl, rfl, rfl, rfl, rfl, rfl⟩ := H
      go_enter Try.func93, Try.ntmps93
      try go_wp2_with (first | ((with_reducible refine gate_dst (N := 3) rfl ?_); refine box_event ?hg (N := 3) ?hd (cs := #[.int .i64 a1_0, .int .i64 a1_1]) (t := 75) ?hr ?_; (case hd => rfl); (case hg => rfl); (case hr => first | (go_simp; done) | (go_simp; rfl)); intro gb999 hg w37 hbox hb; have n0_ := Aside0.mk (blk_below (g := gB0) (o := .cells #[.int .i64 a0_0, .int .i64 a0_1, .int .i64 a0_2, .int .i64 a0_3, .int .i64 a0_4, .int .i64 a0_5, .int .i64 a0_6, .int .i64 a0_7, .int .i64 a0_8] 58 (0, 0)) (by (with_reducible repeat (first | refine blk_drewN ?_ _ | refine blk_drew ?_ | refine blk_alloc ?_ _)); exact BK0.out) hb); have n1_ := Aside0.mk (below_step (by repeat (first | (with_reducible first | exact HB.out | apply below_alloc | apply pw_below_drewN | apply below_drew1 | refine below_set ?_ GE0.out) | exact HB.out)) hb); have n2_ := Aside0.mk (hbox); have n3_ := Aside0.mk ((by rw [hg]; exact (below_size (by repeat (first | (with_reducible first | exact HB.out | apply below_alloc | apply pw_below_drewN | apply below_drew1 | refine below_set ?_ GE0.out) | exact HB.out))) : w.heap.size ≤ gb999)); have n4_ := Aside0.mk ((by rw [hg]; exact (below_size (by repeat (first | (with_reducible first | exact HB.out | apply below_alloc | apply pw_below_drewN | apply below_drew1 | refine below_set ?_ GE0.out) | exact HB.out))) : w.heap.size ≤ gb999)); have n5_ := Aside0.mk ((by rw [hg]; exact Nat.ne_of_lt (blk_lt (g := gB0) (o := .cells #[.int .i64 a0_0, .int .i64 a0_1, .int .i64 a0_2, .int .i64 a0_3, .int .i64 a0_4, .int .i64 a0_5, .int .i64 a0_6, .int .i64 a0_7, .int .i64 a0_8] 58 (0, 0)) (by (with_reducible repeat (first | refine blk_drewN ?_ _ | refine blk_drew ?_ | refine blk_alloc ?_ _)); exact BK0.out)) : gB0 ≠ gb999)); have n6_ := Aside0.mk ((by rw [hg]; exact Nat.ne_of_gt (blk_lt (g := gB0) (o := .cells #[.int .i64 a0_0, .int .i64 a0_1, .int .i64 a0_2, .int .i64 a0_3, .int .i64 a0_4, .int .i64 a0_5, .int .i64 a0_6, .int .i64 a0_7, .int .i64 a0_8] 58 (0, 0)) (by (with_reducible repeat (first | refine blk_drewN ?_ _ | refine blk_drew ?_ | refine blk_alloc ?_ _)); exact BK0.out)) : gb999 ≠ gB0)); clear BK0; clear HB; have BK0 := n0_; have HB := n1_; have BK999 := n2_; have GW999 := n3_; have GE999 := n4_; have NB0_999 := n5_; have NB999_0 := n6_; clear n0_ n1_ n2_ n3_ n4_ n5_ n6_; clear hb hbox hg) | ((with_reducible refine gate_dst (N := 4) rfl ?_); refine box_event ?hg (N := 4) ?hd (cs := #[.int .i64 0, .int .i64 0, .int .i64 0, .int .i64 0, .int .i64 0, .int .i64 0, .int .i64 0, .int .i64 0, .int .i64 0]) (t := 58) ?hr ?_; (case hd => rfl); (case hg => rfl); (case hr => first | (go_simp; done) | (go_simp; rfl)); intro gb1000 hg w38 hbox hb; have n0_ := Aside0.mk (blk_below (g := gB0) (o := .cells #[.int .i64 a0_0, .int .i64 a0_1, .int .i64 a0_2, .int .i64 a0_3, .int .i64 a0_4, .int .i64 a0_5, .int .i64 a0_6, .int .i64 a0_7, .int .i64 a0_8] 58 (0, 0)) (by (with_reducible repeat (first | refine blk_drewN ?_ _ | refine blk_drew ?_ | refine blk_alloc ?_ _)); exact BK0.out) hb); have n1_ := Aside0.mk (blk_below (g := gb999) (o := .cells #[.int .i64 a1_0, .int .i64 a1_1] 75 (0, 0)) (by (with_reducible repeat (first | refine blk_drewN ?_ _ | refine blk_drew ?_ | refine blk_alloc ?_ _)); exact BK999.out) hb); have n2_ := Aside0.mk (below_step (by repeat (first | (with_reducible first | exact HB.out | apply below_alloc | apply pw_below_drewN | apply below_drew1 | refine below_set ?_ GE0.out | refine below_set ?_ GE999.out) | exact HB.out)) hb); have n3_ := Aside0.mk (hbox); have n4_ := Aside0.mk ((by rw [hg]; exact (below_size (by repeat (first | (with_reducible first | exact HB.out | apply below_alloc | apply pw_below_drewN | apply below_drew1 | refine below_set ?_ GE0.out | refine below_set ?_ GE999.out) | exact HB.out))) : w.heap.size ≤ gb1000)); have n5_ := Aside0.mk ((by rw [hg]; exact (below_size (by repeat (first | (with_reducible first | exact HB.out | apply below_alloc | apply pw_below_drewN | apply below_drew1 | refine below_set ?_ GE0.out | refine below_set ?_ GE999.out) | exact HB.out))) : w.heap.size ≤ gb1000)); have n6_ := Aside0.mk ((by rw [hg]; exact Nat.ne_of_lt (blk_lt (g := gB0) (o := .cells #[.int .i64 a0_0, .int .i64 a0_1, .int .i64 a0_2, .int .i64 a0_3, .int .i64 a0_4, .int .i64 a0_5, .int .i64 a0_6, .int .i64 a0_7, .int .i64 a0_8] 58 (0, 0)) (by (with_reducible repeat (first | refine blk_drewN ?_ _ | refine blk_drew ?_ | refine blk_alloc ?_ _)); exact BK0.out)) : gB0 ≠ gb1000)); have n7_ := Aside0.mk ((by rw [hg]; exact Nat.ne_of_gt (blk_lt (g := gB0) (o := .cells #[.int .i64 a0_0, .int .i64 a0_1, .int .i64 a0_2, .int .i64 a0_3, .int .i64 a0_4, .int .i64 a0_5, .int .i64 a0_6, .int .i64 a0_7, .int .i64 a0_8] 58 (0, 0)) (by (with_reducible repeat (first | refine blk_drewN ?_ _ | refine blk_drew ?_ | refine blk_alloc ?_ _)); exact BK0.out)) : gb1000 ≠ gB0)); have n8_ := Aside0.mk ((by rw [hg]; exact Nat.ne_of_lt (blk_lt (g := gb999) (o := .cells #[.int .i64 a1_0, .int .i64 a1_1] 75 (0, 0)) (by (with_reducible repeat (first | refine blk_drewN ?_ _ | refine blk_drew ?_ | refine blk_alloc ?_ _)); exact BK999.out)) : gb999 ≠ gb1000)); have n9_ := Aside0.mk ((by rw [hg]; exact Nat.ne_of_gt (blk_lt (g := gb999) (o := .cells #[.int .i64 a1_0, .int .i64 a1_1] 75 (0, 0)) (by (with_reducible repeat (first | refine blk_drewN ?_ _ | refine blk_drew ?_ | refine blk_alloc ?_ _)); exact BK999.out)) : gb1000 ≠ gb999)); clear BK0; clear BK999; clear HB; have BK0 := n0_; have BK999 := n1_; have HB := n2_; have BK1000 := n3_; have GW1000 := n4_; have GE1000 := n5_; have NB0_1000 := n6_; have NB1000_0 := n7_; have NB999_1000 := n8_; have NB1000_999 := n9_; clear n0_ n1_ n2_ n3_ n4_ n5_ n6_ n7_ n8_ n9_; clear hb hbox hg; have hnb39 := NB999_0.out; have hnc39 := NB0_999.out; have hnb40 := NB999_1000.out; have hnc40 := NB1000_999.out; have hcz41_0 : w38.cell? ⟨gb999, 0, none⟩ = some (.int .i64 a1_0) := (blk_cell BK999.out 0).trans rfl; have hcz41_1 : w38.cell? ⟨gb999, 1, none⟩ = some (.int .i64 a1_1) := (blk_cell BK999.out 1).trans rfl; have hfz41_0 := blk_frozen BK999.out 0; have hfz41_1 := blk_frozen BK999.out 1) | ((with_reducible refine gate_callee (f := 111) rfl ?_); refine goesL_ (some 10) rfl rfl Try.func111 (by kernel_rfl) rfl #[.agg #[.int .i64 a1_0, .int .i64 a1_1]] rfl (by (try simp only [List.map_toArray, List.map_cons, List.map_nil]); first | done | rfl | (simp only [List.length_drop, List.length_take]; rfl)) ?_; (with_reducible refine (spec_l03Is.calls a1_0 a1_1 true _ A3.out).mono ?_); rintro e w42 ⟨rfl, hb⟩; refine ⟨_, rfl, ?_⟩; have n0_ := Aside0.mk (blk_below (g := gB0) (o := .cells #[.int .i64 a0_0, .int .i64 a0_1, .int .i64 a0_2, .int .i64 a0_3, .int .i64 a0_4, .int .i64 a0_5, .int .i64 a0_6, .int .i64 a0_7, .int .i64 a0_8] 58 (0, 0)) (by (with_reducible repeat (first | refine blk_drewN ?_ _ | refine blk_drew ?_ | refine blk_alloc ?_ _)); exact BK0.out) hb); have n1_ := Aside0.mk (blk_below (g := gb999) (o := .cells #[.int .i64 a1_0, .int .i64 a1_1] 75 (0, 0)) (by (with_reducible repeat (first | refine blk_drewN ?_ _ | refine blk_drew ?_ | refine blk_alloc ?_ _)); exact BK999.out) hb); have n2_ := Aside0.mk (blk_below (g := gb1000) (o := .cells #[.int .i64 0, .int .i64 0, .int .i64 0, .int .i64 0, .int .i64 0, .int .i64 0, .int .i64 0, .int .i64 0, .int .i64 0] 58 (0, 0)) (by (with_reducible repeat (first | refine blk_drewN ?_ _ | refine blk_drew ?_ | refine blk_alloc ?_ _)); exact BK1000.out) hb); have n3_ := Aside0.mk (below_step (by repeat (first | (with_reducible first | exact HB.out | apply below_alloc | apply pw_below_drewN | apply below_drew1 | refine below_set ?_ GE0.out | refine below_set ?_ GE999.out | refine below_set ?_ GE1000.out) | exact HB.out)) hb); clear BK0; clear BK999; clear BK1000; clear HB; have BK0 := n0_; have BK999 := n1_; have BK1000 := n2_; have HB := n3_; clear n0_ n1_ n2_ n3_; (try clear hb); (try clear hb2); (try clear hk); (try clear hi); have hcz43_0 : w42.cell? ⟨gb999, 0, none⟩ = some (.int .i64 a1_0) := (blk_cell BK999.out 0).trans rfl; have hcz43_1 : w42.cell? ⟨gb999, 1, none⟩ = some (.int .i64 a1_1) := (blk_cell BK999.out 1).trans rfl; have hfz43_0 := blk_frozen BK999.out 0; have hfz43_1 := blk_frozen BK999.out 1) | ((with_reducible refine gate_callee (f := 112) rfl ?_); refine goesL_ (some 15) rfl rfl Try.func112 (by kernel_rfl) rfl #[.agg #[.int .i64 a1_0, .int .i64 a1_1]] rfl (by (try simp only [List.map_toArray, List.map_cons, List.map_nil]); first | done | rfl | (simp only [List.length_drop, List.length_take]; rfl)) ?_; (with_reducible refine (spec_l03Turn.calls a1_0 a1_1 t1002 t1003 _ A5.out).mono ?_); rintro e w44 ⟨rfl, hb⟩; refine ⟨_, rfl, ?_⟩; have n0_ := Aside0.mk (blk_below (g := gB0) (o := .cells #[.int .i64 a0_0, .int .i64 a0_1, .int .i64 a0_2, .int .i64 a0_3, .int .i64 a0_4, .int .i64 a0_5, .int .i64 a0_6, .int .i64 a0_7, .int .i64 a0_8] 58 (0, 0)) (by (with_reducible repeat (first | refine blk_drewN ?_ _ | refine blk_drew ?_ | refine blk_alloc ?_ _)); exact BK0.out) hb); have n1_ := Aside0.mk (blk_below (g := gb999) (o := .cells #[.int .i64 a1_0, .int .i64 a1_1] 75 (0, 0)) (by (with_reducible repeat (first | refine blk_drewN ?_ _ | refine blk_drew ?_ | refine blk_alloc ?_ _)); exact BK999.out) hb); have n2_ := Aside0.mk (blk_below (g := gb1000) (o := .cells #[.int .i64 0, .int .i64 0, .int .i64 0, .int .i64 0, .int .i64 0, .int .i64 0, .int .i64 0, .int .i64 0, .int .i64 0] 58 (0, 0)) (by (with_reducible repeat (first | refine blk_drewN ?_ _ | refine blk_drew ?_ | refine blk_alloc ?_ _)); exact BK1000.out) hb); have n3_ := Aside0.mk (below_step (by repeat (first | (with_reducible first | exact HB.out | apply below_alloc | apply pw_below_drewN | apply below_drew1 | refine below_set ?_ GE0.out | refine below_set ?_ GE999.out | refine below_set ?_ GE1000.out) | exact HB.out)) hb); clear BK0; clear BK999; clear BK1000; clear HB; have BK0 := n0_; have BK999 := n1_; have BK1000 := n2_; have HB := n3_; clear n0_ n1_ n2_ n3_; (try clear hb); (try clear hb2); (try clear hk); (try clear hi)))
      have n0_ := Aside0.mk (blk_drew BK0.out)
      have n1_ := Aside0.mk (blk_drew BK999.out)
      have n2_ := Aside0.mk (blk_drew BK1000.out)
      have n3_ := Aside0.mk (below_drew1 HB.out)
      clear BK0
      clear BK999
      clear BK1000
      clear HB
      have BK0 := n0_
      have BK999 := n1_
      have BK1000 := n2_
      have HB := n3_
      clear n0_ n1_ n2_ n3_
      refine start_ (n := 19) (S := fun w' => w'.cell? ⟨gB0, 0, none⟩ = some (.int .i64 a0_0) ∧ w'.cell? ⟨gB0, 1, none⟩ = some (.int .i64 a0_1) ∧ w'.cell? ⟨gB0, 2, none⟩ = some (.int .i64 a0_2) ∧ w'.cell? ⟨gB0, 3, none⟩ = some (.int .i64 a0_3) ∧ w'.cell? ⟨gB0, 4, none⟩ = some (.int .i64 a0_4) ∧ w'.cell? ⟨gB0, 5, none⟩ = some (.int .i64 a0_5) ∧ w'.cell? ⟨gB0, 6, none⟩ = some (.int .i64 a0_6) ∧ w'.cell? ⟨gB0, 7, none⟩ = some (.int .i64 a0_7) ∧ w'.cell? ⟨gB0, 8, none⟩ = some (.int .i64 a0_8)) (ds := []) #[false, false, false, false, false, false, false, false, false, false, false, false, false, false, false, false, false, false, false] (by kernel_rfl) rfl rfl ⟨(blk_cell BK0.out 0).trans rfl, (blk_cell BK0.out 1).trans rfl, (blk_cell BK0.out 2).trans rfl, (blk_cell BK0.out 3).trans rfl, (blk_cell BK0.out 4).trans rfl, (blk_cell BK0.out 5).trans rfl, (blk_cell BK0.out 6).trans rfl, (blk_cell BK0.out 7).trans rfl, (blk_cell BK0.out 8).trans rfl⟩ (fun hHeld => ?_); refine with_tabW spec_l04Build.tab4 spec_l04Build.bits4 (fun HT_ HW_ => ?_)
      generalize w44.drew = w45 at BK0 BK999 BK1000 HB hHeld ⊢
      refine pure_ (i := 0) (N := some 18) (v := ?_) (a' := ?_) #[true, false, false, false, false, false, false, false, false, false, false, false, false, false, false, false, false, false, false] rfl rfl (any_of HT_.out (by kernel_rfl)) (fun _ _ _ h => h) (Or.inl ⟨by rfl, ?_⟩) ?_ ?_
      rotate_left
      · intro w'
        go_simp
        with_reducible rfl
      rotate_left
      · simp only [Act.put, List.setIfInBounds_toArray, List.set_cons_zero, List.set_cons_succ, i64_w, i32_w]
        rfl
      refine pure_ (i := 1) (N := some 19) (v := ?_) (a' := ?_) #[true, true, false, false, false, false, false, false, false, false, false, false, false, false, false, false, false, false, false] rfl rfl (any_of HT_.out (by kernel_rfl)) (fun _ _ _ h => h) (Or.inl ⟨by rfl, ?_⟩) ?_ ?_
      rotate_left
      · intro w'
        go_simp
        with_reducible rfl
      rotate_left
      · simp only [Act.put, List.setIfInBounds_toArray, List.set_cons_zero, List.set_cons_succ, i64_w, i32_w]
        rfl
      refine pure_ (i := 2) (N := some 20) (v := ?_) (a' := ?_) #[true, true, true, false, false, false, false, false, false, false, false, false, false, false, false, false, false, false, false] rfl rfl (any_of HT_.out (by kernel_rfl)) (fun _ _ _ h => h) (Or.inl ⟨by rfl, ?_⟩) ?_ ?_
      rotate_left
      · intro w'
        go_simp
        with_reducible rfl
      rotate_left
      · simp only [Act.put, List.setIfInBounds_toArray, List.set_cons_zero, List.set_cons_succ, i64_w, i32_w]
        rfl
      refine pure_ (i := 4) (N := some 22) (v := ?_) (a' := ?_) #[true, true, true, false, true, false, false, false, false, false, false, false, false, false, false, false, false, false, false] rfl rfl (any_of HT_.out (by kernel_rfl)) (fun _ _ _ h => h) (Or.inl ⟨by rfl, ?_⟩) ?_ ?_
      rotate_left
      · intro w'
        go_simp
        with_reducible rfl
      rotate_left
      · simp only [Act.put, List.setIfInBounds_toArray, List.set_cons_zero, List.set_cons_succ, i64_w, i32_w]
        rfl
      refine pure_ (i := 5) (N := some 23) (v := ?_) (a' := ?_) #[true, true, true, false, true, true, false, false, false, false, false, false, false, false, false, false, false, false, false] rfl rfl (any_of HT_.out (by kernel_rfl)) (fun _ _ _ h => h) (Or.inl ⟨by rfl, ?_⟩) ?_ ?_
      rotate_left
      · intro w'
        go_simp
        with_reducible rfl
      rotate_left
      · simp only [Act.put, List.setIfInBounds_toArray, List.set_cons_zero, List.set_cons_succ, i64_w, i32_w]
        rfl
      refine pure_ (i := 6) (N := some 24) (v := ?_) (a' := ?_) #[true, true, true, false, true, true, true, false, false, false, false, false, false, false, false, false, false, false, false] rfl rfl (any_of HT_.out (by kernel_rfl)) (fun _ _ _ h => h) (Or.inl ⟨by rfl, ?_⟩) ?_ ?_
      rotate_left
      · intro w'
        go_simp
        with_reducible rfl
      rotate_left
      · simp only [Act.put, List.setIfInBounds_toArray, List.set_cons_zero, List.set_cons_succ, i64_w, i32_w]
        rfl
      refine pure_ (i := 8) (N := some 26) (v := ?_) (a' := ?_) #[true, true, true, false, true, true, true, false, true, false, false, false, false, false, false, false, false, false, false] rfl rfl (any_of HT_.out (by kernel_rfl)) (fun _ _ _ h => h) (Or.inl ⟨by rfl, ?_⟩) ?_ ?_
      rotate_left
      · intro w'
        go_simp
        with_reducible rfl
      rotate_left
      · simp only [Act.put, List.setIfInBounds_toArray, List.set_cons_zero, List.set_cons_succ, i64_w, i32_w]
        rfl
      refine pure_ (i := 9) (N := some 27) (v := ?_) (a' := ?_) #[true, true, true, false, true, true, true, false, true, true, false, false, false, false, false, false, false, false, false] rfl rfl (any_of HT_.out (by kernel_rfl)) (fun _ _ _ h => h) (Or.inl ⟨by rfl, ?_⟩) ?_ ?_
      rotate_left
      · intro w'
        go_simp
        with_reducible rfl
      rotate_left
      · simp only [Act.put, List.setIfInBounds_toArray, List.set_cons_zero, List.set_cons_succ, i64_w, i32_w]
        rfl
      refine pure_ (i := 11) (N := some 29) (v := ?_) (a' := ?_) #[true, true, true, false, true, true, true, false, true, true, false, true, false, false, false, false, false, false, false] rfl rfl (any_of HT_.out (by kernel_rfl)) (fun _ _ _ h => h) (Or.inl ⟨by rfl, ?_⟩) ?_ ?_
      rotate_left
      · intro w'
        go_simp
        with_reducible rfl
      rotate_left
      · simp only [Act.put, List.setIfInBounds_toArray, List.set_cons_zero, List.set_cons_succ, i64_w, i32_w]
        rfl
      refine pure_ (i := 12) (N := some 30) (v := ?_) (a' := ?_) #[true, true, true, false, true, true, true, false, true, true, false, true, true, false, false, false, false, false, false] rfl rfl (any_of HT_.out (by kernel_rfl)) (fun _ _ _ h => h) (Or.inl ⟨by rfl, ?_⟩) ?_ ?_
      rotate_left
      · intro w'
        go_simp
        with_reducible rfl
      rotate_left
      · simp only [Act.put, List.setIfInBounds_toArray, List.set_cons_zero, List.set_cons_succ, i64_w, i32_w]
        rfl
      refine pure_ (i := 13) (N := some 31) (v := ?_) (a' := ?_) #[true, true, true, false, true, true, true, false, true, true, false, true, true, true, false, false, false, false, false] rfl rfl (any_of HT_.out (by kernel_rfl)) (fun _ _ _ h => h) (Or.inl ⟨by rfl, ?_⟩) ?_ ?_
      rotate_left
      · intro w'
        go_simp
        with_reducible rfl
      rotate_left
      · simp only [Act.put, List.setIfInBounds_toArray, List.set_cons_zero, List.set_cons_succ, i64_w, i32_w]
        rfl
      refine take_ (i := 3) (N := some 21) (v := ?_) (a' := ?_) #[true, true, true, true, true, true, true, false, true, true, false, true, true, true, false, false, false, false, false] rfl rfl (take_ofW HT_.out HW_.out (by kernel_rfl)) (fun _ _ _ h => h) (Or.inl ⟨by rfl, ?_⟩) hHeld ?_ ?_
      rotate_left
      · rintro w' ⟨s0, s1, s2, s3, s4, s5, s6, s7, s8⟩
        go_simp
        with_reducible rfl
      rotate_left
      · simp only [Act.put, List.setIfInBounds_toArray, List.set_cons_zero, List.set_cons_succ, i64_w, i32_w]
        rfl
      refine take_ (i := 7) (N := some 25) (v := ?_) (a' := ?_) #[true, true, true, true, true, true, true, true, true, true, false, true, true, true, false, false, false, false, false] rfl rfl (take_ofW HT_.out HW_.out (by kernel_rfl)) (fun _ _ _ h => h) (Or.inl ⟨by rfl, ?_⟩) hHeld ?_ ?_
      rotate_left
      · rintro w' ⟨s0, s1, s2, s3, s4, s5, s6, s7, s8⟩
        go_simp
        with_reducible rfl
      rotate_left
      · simp only [Act.put, List.setIfInBounds_toArray, List.set_cons_zero, List.set_cons_succ, i64_w, i32_w]
        rfl
      refine take_ (i := 14) (N := some 32) (v := ?_) (a' := ?_) #[true, true, true, true, true, true, true, true, true, true, false, true, true, true, true, false, false, false, false] rfl rfl (take_ofW HT_.out HW_.out (by kernel_rfl)) (fun _ _ _ h => h) (Or.inl ⟨by rfl, ?_⟩) hHeld ?_ ?_
      rotate_left
      · rintro w' ⟨s0, s1, s2, s3, s4, s5, s6, s7, s8⟩
        go_simp
        with_reducible rfl
      rotate_left
      · simp only [Act.put, List.setIfInBounds_toArray, List.set_cons_zero, List.set_cons_succ, i64_w, i32_w]
        rfl
      refine pure_ (i := 15) (N := some 33) (v := ?_) (a' := ?_) #[true, true, true, true, true, true, true, true, true, true, false, true, true, true, true, true, false, false, false] rfl rfl (any_of HT_.out (by kernel_rfl)) (fun _ _ _ h => h) (Or.inl ⟨by rfl, ?_⟩) ?_ ?_
      rotate_left
      · intro w'
        go_simp
        with_reducible rfl
      rotate_left
      · simp only [Act.put, List.setIfInBounds_toArray, List.set_cons_zero, List.set_cons_succ, i64_w, i32_w]
        rfl
      refine join_ (σ := Nat) 1 #[true, true, true, true, true, true, true, true, true, true, true, true, true, true, true, true, true, true, false] (fun s_ => [(28, .agg #[.int .i64 t1004, .int .i64 t1005, .int .i64 t1006, .int .i64 t1007]), (8, .pointer (some ⟨s_, 0, none⟩)), (34, .agg #[.int .i64 a0_0, .int .i64 a0_1, .int .i64 a0_2, .int .i64 a0_3, .int .i64 t1004, .int .i64 t1005, .int .i64 t1006, .int .i64 t1007, .int .i64 (wrap64 (a0_8 - 1500))])]) (fun s_ w' => (w'.cell? ⟨gB0, 0, none⟩ = some (.int .i64 a0_0) ∧ w'.cell? ⟨gB0, 1, none⟩ = some (.int .i64 a0_1) ∧ w'.cell? ⟨gB0, 2, none⟩ = some (.int .i64 a0_2) ∧ w'.cell? ⟨gB0, 3, none⟩ = some (.int .i64 a0_3) ∧ w'.cell? ⟨gB0, 4, none⟩ = some (.int .i64 a0_4) ∧ w'.cell? ⟨gB0, 5, none⟩ = some (.int .i64 a0_5) ∧ w'.cell? ⟨gB0, 6, none⟩ = some (.int .i64 a0_6) ∧ w'.cell? ⟨gB0, 7, none⟩ = some (.int .i64 a0_7) ∧ w'.cell? ⟨gB0, 8, none⟩ = some (.int .i64 a0_8)) ∧ (w'.heap[gB0]? = some (.cells #[.int .i64 a0_0, .int .i64 a0_1, .int .i64 a0_2, .int .i64 a0_3, .int .i64 a0_4, .int .i64 a0_5, .int .i64 a0_6, .int .i64 a0_7, .int .i64 a0_8] 58 (0, 0))) ∧ (w'.heap[gb1000]? = some (.cells #[.int .i64 0, .int .i64 0, .int .i64 0, .int .i64 0, .int .i64 0, .int .i64 0, .int .i64 0, .int .i64 0, .int .i64 0] 58 (0, 0))) ∧ (w'.heap[s_]? = some (.cells #[.int .i64 0, .int .i64 0, .int .i64 0, .int .i64 0, .int .i64 0, .int .i64 0, .int .i64 0, .int .i64 0, .int .i64 0] 58 (0, 0))) ∧ (w'.heap[gb999]? = some (.cells #[.int .i64 a1_0, .int .i64 a1_1] 75 (0, 0))) ∧ (w.heap.size ≤ s_) ∧ (w.heap.size ≤ s_) ∧ (gB0 ≠ s_) ∧ (s_ ≠ gB0) ∧ (gb1000 ≠ s_) ∧ (s_ ≠ gb1000) ∧ (gb999 ≠ s_) ∧ (s_ ≠ gb999) ∧ (Below w.heap.size w w')) ?_ ?_
      rotate_left
      · intro hCont
        refine two_ (i := 10) (j := 17) (Ni := some 28) (Nj := some 8) #[true, true, true, true, true, true, true, true, true, true, true, true, true, true, true, true, false, false, false] #[true, true, true, true, true, true, true, true, true, true, false, true, true, true, true, true, false, true, false] rfl rfl rfl rfl (two_of HT_.out (by kernel_rfl)) (by decide) (by decide) (fun K hK => ?_) (fun K hK => ?_)
        · skip
          refine goes_ Try.func68 (by kernel_rfl) rfl #[.agg #[.int .i64 a0_4, .int .i64 a0_5, .int .i64 a0_6, .int .i64 a0_7], .int .i64 t1002, .int .i64 t1003] (by rfl) rfl rfl (by (try simp only [List.map_toArray, List.map_cons, List.map_nil]); first | done | rfl | (simp only [List.length_drop, List.length_take]; rfl)) ?_
          with_reducible refine (spec_l02Next.calls a0_4 a0_5 a0_6 a0_7 t1002 t1003 t1004 t1005 t1006 t1007 _ A6.out).mono ?_
          rintro e w46 ⟨rfl, hb⟩
          refine ⟨_, rfl, ?_⟩
          have n0_ := Aside0.mk (blk_below (g := gB0) (o := .cells #[.int .i64 a0_0, .int .i64 a0_1, .int .i64 a0_2, .int .i64 a0_3, .int .i64 a0_4, .int .i64 a0_5, .int .i64 a0_6, .int .i64 a0_7, .int .i64 a0_8] 58 (0, 0)) (by (with_reducible repeat (first | refine blk_drewN ?_ _ | refine blk_drew ?_ | refine blk_alloc ?_ _)); exact BK0.out) hb)
          have n1_ := Aside0.mk (blk_below (g := gb999) (o := .cells #[.int .i64 a1_0, .int .i64 a1_1] 75 (0, 0)) (by (with_reducible repeat (first | refine blk_drewN ?_ _ | refine blk_drew ?_ | refine blk_alloc ?_ _)); exact BK999.out) hb)
          have n2_ := Aside0.mk (blk_below (g := gb1000) (o := .cells #[.int .i64 0, .int .i64 0, .int .i64 0, .int .i64 0, .int .i64 0, .int .i64 0, .int .i64 0, .int .i64 0, .int .i64 0] 58 (0, 0)) (by (with_reducible repeat (first | refine blk_drewN ?_ _ | refine blk_drew ?_ | refine blk_alloc ?_ _)); exact BK1000.out) hb)
          have n3_ := Aside0.mk (below_step (by repeat (first | (with_reducible first | exact HB.out | apply below_alloc | apply pw_below_drewN | apply below_drew1 | refine below_set ?_ GE0.out | refine below_set ?_ GE999.out | refine below_set ?_ GE1000.out) | exact HB.out)) hb)
          clear BK0
          clear BK999
          clear BK1000
          clear HB
          have BK0 := n0_
          have BK999 := n1_
          have BK1000 := n2_
          have HB := n3_
          clear n0_ n1_ n2_ n3_
          (try clear hb)
          (try clear hb2)
          (try clear hk)
          (try clear hi)
          refine hK.out _ _ ⟨(blk_cell BK0.out 0).trans rfl, (blk_cell BK0.out 1).trans rfl, (blk_cell BK0.out 2).trans rfl, (blk_cell BK0.out 3).trans rfl, (blk_cell BK0.out 4).trans rfl, (blk_cell BK0.out 5).trans rfl, (blk_cell BK0.out 6).trans rfl, (blk_cell BK0.out 7).trans rfl, (blk_cell BK0.out 8).trans rfl⟩ (fun hHeld => ?_)
          clear hK K
          refine norm_ (a' := ?_) ?_ ?_
          rotate_left
          · show Act.put _ (some 28) _ = _
            simp only [Act.put, List.setIfInBounds_toArray, List.set_cons_zero, List.set_cons_succ, i64_w, i32_w]
            rfl
          refine pure_ (i := 16) (N := some 34) (v := ?_) (a' := ?_) #[true, true, true, true, true, true, true, true, true, true, true, true, true, true, true, true, true, false, false] rfl rfl (any_of HT_.out (by kernel_rfl)) (fun _ _ _ h => h) (Or.inl ⟨by rfl, ?_⟩) ?_ ?_
          rotate_left
          · intro w'
            go_simp
            with_reducible rfl
          rotate_left
          · simp only [Act.put, List.setIfInBounds_toArray, List.set_cons_zero, List.set_cons_succ, i64_w, i32_w]
            rfl
          refine one_ (i := 17) (N := some 8) #[true, true, true, true, true, true, true, true, true, true, true, true, true, true, true, true, true, true, false] rfl rfl (one_of HT_.out (by kernel_rfl)) (by decide) (fun K hK => ?_)
          refine box_step ?hg (N := 8) ?hd (cs := #[.int .i64 0, .int .i64 0, .int .i64 0, .int .i64 0, .int .i64 0, .int .i64 0, .int .i64 0, .int .i64 0, .int .i64 0]) (t := 58) ?hr ?_; (case hd => rfl); (case hg => rfl); (case hr => first | (go_simp; done) | (go_simp; rfl))
          intro gb1008 hg w47 hbox hb
          have n0_ := Aside0.mk (blk_below (g := gB0) (o := .cells #[.int .i64 a0_0, .int .i64 a0_1, .int .i64 a0_2, .int .i64 a0_3, .int .i64 a0_4, .int .i64 a0_5, .int .i64 a0_6, .int .i64 a0_7, .int .i64 a0_8] 58 (0, 0)) (by (with_reducible repeat (first | refine blk_drewN ?_ _ | refine blk_drew ?_ | refine blk_alloc ?_ _)); exact BK0.out) hb)
          have n1_ := Aside0.mk (blk_below (g := gb999) (o := .cells #[.int .i64 a1_0, .int .i64 a1_1] 75 (0, 0)) (by (with_reducible repeat (first | refine blk_drewN ?_ _ | refine blk_drew ?_ | refine blk_alloc ?_ _)); exact BK999.out) hb)
          have n2_ := Aside0.mk (blk_below (g := gb1000) (o := .cells #[.int .i64 0, .int .i64 0, .int .i64 0, .int .i64 0, .int .i64 0, .int .i64 0, .int .i64 0, .int .i64 0, .int .i64 0] 58 (0, 0)) (by (with_reducible repeat (first | refine blk_drewN ?_ _ | refine blk_drew ?_ | refine blk_alloc ?_ _)); exact BK1000.out) hb)
          have n3_ := Aside0.mk (below_step (by repeat (first | (with_reducible first | exact HB.out | apply below_alloc | apply pw_below_drewN | apply below_drew1 | refine below_set ?_ GE0.out | refine below_set ?_ GE999.out | refine below_set ?_ GE1000.out) | exact HB.out)) hb)
          have n4_ := Aside0.mk (hbox)
          have n5_ := Aside0.mk ((by rw [hg]; exact (below_size (by repeat (first | (with_reducible first | exact HB.out | apply below_alloc | apply pw_below_drewN | apply below_drew1 | refine below_set ?_ GE0.out | refine below_set ?_ GE999.out | refine below_set ?_ GE1000.out) | exact HB.out))) : w.heap.size ≤ gb1008))
          have n6_ := Aside0.mk ((by rw [hg]; exact (below_size (by repeat (first | (with_reducible first | exact HB.out | apply below_alloc | apply pw_below_drewN | apply below_drew1 | refine below_set ?_ GE0.out | refine below_set ?_ GE999.out | refine below_set ?_ GE1000.out) | exact HB.out))) : w.heap.size ≤ gb1008))
          have n7_ := Aside0.mk ((by rw [hg]; exact Nat.ne_of_lt (blk_lt (g := gB0) (o := .cells #[.int .i64 a0_0, .int .i64 a0_1, .int .i64 a0_2, .int .i64 a0_3, .int .i64 a0_4, .int .i64 a0_5, .int .i64 a0_6, .int .i64 a0_7, .int .i64 a0_8] 58 (0, 0)) (by (with_reducible repeat (first | refine blk_drewN ?_ _ | refine blk_drew ?_ | refine blk_alloc ?_ _)); exact BK0.out)) : gB0 ≠ gb1008))
          have n8_ := Aside0.mk ((by rw [hg]; exact Nat.ne_of_gt (blk_lt (g := gB0) (o := .cells #[.int .i64 a0_0, .int .i64 a0_1, .int .i64 a0_2, .int .i64 a0_3, .int .i64 a0_4, .int .i64 a0_5, .int .i64 a0_6, .int .i64 a0_7, .int .i64 a0_8] 58 (0, 0)) (by (with_reducible repeat (first | refine blk_drewN ?_ _ | refine blk_drew ?_ | refine blk_alloc ?_ _)); exact BK0.out)) : gb1008 ≠ gB0))
          have n9_ := Aside0.mk ((by rw [hg]; exact Nat.ne_of_lt (blk_lt (g := gb999) (o := .cells #[.int .i64 a1_0, .int .i64 a1_1] 75 (0, 0)) (by (with_reducible repeat (first | refine blk_drewN ?_ _ | refine blk_drew ?_ | refine blk_alloc ?_ _)); exact BK999.out)) : gb999 ≠ gb1008))
          have n10_ := Aside0.mk ((by rw [hg]; exact Nat.ne_of_gt (blk_lt (g := gb999) (o := .cells #[.int .i64 a1_0, .int .i64 a1_1] 75 (0, 0)) (by (with_reducible repeat (first | refine blk_drewN ?_ _ | refine blk_drew ?_ | refine blk_alloc ?_ _)); exact BK999.out)) : gb1008 ≠ gb999))
          have n11_ := Aside0.mk ((by rw [hg]; exact Nat.ne_of_lt (blk_lt (g := gb1000) (o := .cells #[.int .i64 0, .int .i64 0, .int .i64 0, .int .i64 0, .int .i64 0, .int .i64 0, .int .i64 0, .int .i64 0, .int .i64 0] 58 (0, 0)) (by (with_reducible repeat (first | refine blk_drewN ?_ _ | refine blk_drew ?_ | refine blk_alloc ?_ _)); exact BK1000.out)) : gb1000 ≠ gb1008))
          have n12_ := Aside0.mk ((by rw [hg]; exact Nat.ne_of_gt (blk_lt (g := gb1000) (o := .cells #[.int .i64 0, .int .i64 0, .int .i64 0, .int .i64 0, .int .i64 0, .int .i64 0, .int .i64 0, .int .i64 0, .int .i64 0] 58 (0, 0)) (by (with_reducible repeat (first | refine blk_drewN ?_ _ | refine blk_drew ?_ | refine blk_alloc ?_ _)); exact BK1000.out)) : gb1008 ≠ gb1000))
          clear BK0
          clear BK999
          clear BK1000
          clear HB
          have BK0 := n0_
          have BK999 := n1_
          have BK1000 := n2_
          have HB := n3_
          have BK1008 := n4_
          have GW1008 := n5_
          have GE1008 := n6_
          have NB0_1008 := n7_
          have NB1008_0 := n8_
          have NB999_1008 := n9_
          have NB1008_999 := n10_
          have NB1000_1008 := n11_
          have NB1008_1000 := n12_
          clear n0_ n1_ n2_ n3_ n4_ n5_ n6_ n7_ n8_ n9_ n10_ n11_ n12_
          clear hb hbox hg
          refine hK.out _ _ ⟨(blk_cell BK0.out 0).trans rfl, (blk_cell BK0.out 1).trans rfl, (blk_cell BK0.out 2).trans rfl, (blk_cell BK0.out 3).trans rfl, (blk_cell BK0.out 4).trans rfl, (blk_cell BK0.out 5).trans rfl, (blk_cell BK0.out 6).trans rfl, (blk_cell BK0.out 7).trans rfl, (blk_cell BK0.out 8).trans rfl⟩ (fun hHeld => ?_)
          clear hK K
          refine norm_ (a' := ?_) ?_ ?_
          rotate_left
          · show Act.put _ (some 8) _ = _
            simp only [Act.put, List.setIfInBounds_toArray, List.set_cons_zero, List.set_cons_succ, i64_w, i32_w]
            rfl
          exact norm_ (by simp only [putAll, Act.put, List.setIfInBounds_toArray, List.set_cons_zero, List.set_cons_succ]) (hCont (gb1008) _ ⟨hHeld, (by (with_reducible repeat (first | refine blk_drewN ?_ _ | refine blk_drew ?_ | refine blk_alloc ?_ _)); exact BK0.out), (by (with_reducible repeat (first | refine blk_drewN ?_ _ | refine blk_drew ?_ | refine blk_alloc ?_ _)); exact BK1000.out), (by (with_reducible repeat (first | refine blk_drewN ?_ _ | refine blk_drew ?_ | refine blk_alloc ?_ _)); exact BK1008.out), (by (with_reducible repeat (first | refine blk_drewN ?_ _ | refine blk_drew ?_ | refine blk_alloc ?_ _)); exact BK999.out), GW1008.out, GE1008.out, NB0_1008.out, NB1008_0.out, NB1000_1008.out, NB1008_1000.out, NB999_1008.out, NB1008_999.out, (by repeat (first | (with_reducible first | exact HB.out | apply below_alloc | apply pw_below_drewN | apply below_drew1 | refine below_set ?_ GE0.out | refine below_set ?_ GE999.out | refine below_set ?_ GE1000.out | refine below_set ?_ GE1008.out) | exact HB.out))⟩)
        · skip
          refine box_step ?hg (N := 8) ?hd (cs := #[.int .i64 0, .int .i64 0, .int .i64 0, .int .i64 0, .int .i64 0, .int .i64 0, .int .i64 0, .int .i64 0, .int .i64 0]) (t := 58) ?hr ?_; (case hd => rfl); (case hg => rfl); (case hr => first | (go_simp; done) | (go_simp; rfl))
          intro gb1008 hg w46 hbox hb
          have n0_ := Aside0.mk (blk_below (g := gB0) (o := .cells #[.int .i64 a0_0, .int .i64 a0_1, .int .i64 a0_2, .int .i64 a0_3, .int .i64 a0_4, .int .i64 a0_5, .int .i64 a0_6, .int .i64 a0_7, .int .i64 a0_8] 58 (0, 0)) (by (with_reducible repeat (first | refine blk_drewN ?_ _ | refine blk_drew ?_ | refine blk_alloc ?_ _)); exact BK0.out) hb)
          have n1_ := Aside0.mk (blk_below (g := gb999) (o := .cells #[.int .i64 a1_0, .int .i64 a1_1] 75 (0, 0)) (by (with_reducible repeat (first | refine blk_drewN ?_ _ | refine blk_drew ?_ | refine blk_alloc ?_ _)); exact BK999.out) hb)
          have n2_ := Aside0.mk (blk_below (g := gb1000) (o := .cells #[.int .i64 0, .int .i64 0, .int .i64 0, .int .i64 0, .int .i64 0, .int .i64 0, .int .i64 0, .int .i64 0, .int .i64 0] 58 (0, 0)) (by (with_reducible repeat (first | refine blk_drewN ?_ _ | refine blk_drew ?_ | refine blk_alloc ?_ _)); exact BK1000.out) hb)
          have n3_ := Aside0.mk (below_step (by repeat (first | (with_reducible first | exact HB.out | apply below_alloc | apply pw_below_drewN | apply below_drew1 | refine below_set ?_ GE0.out | refine below_set ?_ GE999.out | refine below_set ?_ GE1000.out) | exact HB.out)) hb)
          have n4_ := Aside0.mk (hbox)
          have n5_ := Aside0.mk ((by rw [hg]; exact (below_size (by repeat (first | (with_reducible first | exact HB.out | apply below_alloc | apply pw_below_drewN | apply below_drew1 | refine below_set ?_ GE0.out | refine below_set ?_ GE999.out | refine below_set ?_ GE1000.out) | exact HB.out))) : w.heap.size ≤ gb1008))
          have n6_ := Aside0.mk ((by rw [hg]; exact (below_size (by repeat (first | (with_reducible first | exact HB.out | apply below_alloc | apply pw_below_drewN | apply below_drew1 | refine below_set ?_ GE0.out | refine below_set ?_ GE999.out | refine below_set ?_ GE1000.out) | exact HB.out))) : w.heap.size ≤ gb1008))
          have n7_ := Aside0.mk ((by rw [hg]; exact Nat.ne_of_lt (blk_lt (g := gB0) (o := .cells #[.int .i64 a0_0, .int .i64 a0_1, .int .i64 a0_2, .int .i64 a0_3, .int .i64 a0_4, .int .i64 a0_5, .int .i64 a0_6, .int .i64 a0_7, .int .i64 a0_8] 58 (0, 0)) (by (with_reducible repeat (first | refine blk_drewN ?_ _ | refine blk_drew ?_ | refine blk_alloc ?_ _)); exact BK0.out)) : gB0 ≠ gb1008))
          have n8_ := Aside0.mk ((by rw [hg]; exact Nat.ne_of_gt (blk_lt (g := gB0) (o := .cells #[.int .i64 a0_0, .int .i64 a0_1, .int .i64 a0_2, .int .i64 a0_3, .int .i64 a0_4, .int .i64 a0_5, .int .i64 a0_6, .int .i64 a0_7, .int .i64 a0_8] 58 (0, 0)) (by (with_reducible repeat (first | refine blk_drewN ?_ _ | refine blk_drew ?_ | refine blk_alloc ?_ _)); exact BK0.out)) : gb1008 ≠ gB0))
          have n9_ := Aside0.mk ((by rw [hg]; exact Nat.ne_of_lt (blk_lt (g := gb999) (o := .cells #[.int .i64 a1_0, .int .i64 a1_1] 75 (0, 0)) (by (with_reducible repeat (first | refine blk_drewN ?_ _ | refine blk_drew ?_ | refine blk_alloc ?_ _)); exact BK999.out)) : gb999 ≠ gb1008))
          have n10_ := Aside0.mk ((by rw [hg]; exact Nat.ne_of_gt (blk_lt (g := gb999) (o := .cells #[.int .i64 a1_0, .int .i64 a1_1] 75 (0, 0)) (by (with_reducible repeat (first | refine blk_drewN ?_ _ | refine blk_drew ?_ | refine blk_alloc ?_ _)); exact BK999.out)) : gb1008 ≠ gb999))
          have n11_ := Aside0.mk ((by rw [hg]; exact Nat.ne_of_lt (blk_lt (g := gb1000) (o := .cells #[.int .i64 0, .int .i64 0, .int .i64 0, .int .i64 0, .int .i64 0, .int .i64 0, .int .i64 0, .int .i64 0, .int .i64 0] 58 (0, 0)) (by (with_reducible repeat (first | refine blk_drewN ?_ _ | refine blk_drew ?_ | refine blk_alloc ?_ _)); exact BK1000.out)) : gb1000 ≠ gb1008))
          have n12_ := Aside0.mk ((by rw [hg]; exact Nat.ne_of_gt (blk_lt (g := gb1000) (o := .cells #[.int .i64 0, .int .i64 0, .int .i64 0, .int .i64 0, .int .i64 0, .int .i64 0, .int .i64 0, .int .i64 0, .int .i64 0] 58 (0, 0)) (by (with_reducible repeat (first | refine blk_drewN ?_ _ | refine blk_drew ?_ | refine blk_alloc ?_ _)); exact BK1000.out)) : gb1008 ≠ gb1000))
          clear BK0
          clear BK999
          clear BK1000
          clear HB
          have BK0 := n0_
          have BK999 := n1_
          have BK1000 := n2_
          have HB := n3_
          have BK1008 := n4_
          have GW1008 := n5_
          have GE1008 := n6_
          have NB0_1008 := n7_
          have NB1008_0 := n8_
          have NB999_1008 := n9_
          have NB1008_999 := n10_
          have NB1000_1008 := n11_
          have NB1008_1000 := n12_
          clear n0_ n1_ n2_ n3_ n4_ n5_ n6_ n7_ n8_ n9_ n10_ n11_ n12_
          clear hb hbox hg
          refine hK.out _ _ ⟨(blk_cell BK0.out 0).trans rfl, (blk_cell BK0.out 1).trans rfl, (blk_cell BK0.out 2).trans rfl, (blk_cell BK0.out 3).trans rfl, (blk_cell BK0.out 4).trans rfl, (blk_cell BK0.out 5).trans rfl, (blk_cell BK0.out 6).trans rfl, (blk_cell BK0.out 7).trans rfl, (blk_cell BK0.out 8).trans rfl⟩ (fun hHeld => ?_)
          clear hK K
          refine norm_ (a' := ?_) ?_ ?_
          rotate_left
          · show Act.put _ (some 8) _ = _
            simp only [Act.put, List.setIfInBounds_toArray, List.set_cons_zero, List.set_cons_succ, i64_w, i32_w]
            rfl
          refine one_ (i := 10) (N := some 28) #[true, true, true, true, true, true, true, true, true, true, true, true, true, true, true, true, false, true, false] rfl rfl (one_of HT_.out (by kernel_rfl)) (by decide) (fun K hK => ?_)
          refine goes_ Try.func68 (by kernel_rfl) rfl #[.agg #[.int .i64 a0_4, .int .i64 a0_5, .int .i64 a0_6, .int .i64 a0_7], .int .i64 t1002, .int .i64 t1003] (by rfl) rfl rfl (by (try simp only [List.map_toArray, List.map_cons, List.map_nil]); first | done | rfl | (simp only [List.length_drop, List.length_take]; rfl)) ?_
          with_reducible refine (spec_l02Next.calls a0_4 a0_5 a0_6 a0_7 t1002 t1003 t1004 t1005 t1006 t1007 _ A6.out).mono ?_
          rintro e w47 ⟨rfl, hb⟩
          refine ⟨_, rfl, ?_⟩
          have n0_ := Aside0.mk (blk_below (g := gB0) (o := .cells #[.int .i64 a0_0, .int .i64 a0_1, .int .i64 a0_2, .int .i64 a0_3, .int .i64 a0_4, .int .i64 a0_5, .int .i64 a0_6, .int .i64 a0_7, .int .i64 a0_8] 58 (0, 0)) (by (with_reducible repeat (first | refine blk_drewN ?_ _ | refine blk_drew ?_ | refine blk_alloc ?_ _)); exact BK0.out) hb)
          have n1_ := Aside0.mk (blk_below (g := gb999) (o := .cells #[.int .i64 a1_0, .int .i64 a1_1] 75 (0, 0)) (by (with_reducible repeat (first | refine blk_drewN ?_ _ | refine blk_drew ?_ | refine blk_alloc ?_ _)); exact BK999.out) hb)
          have n2_ := Aside0.mk (blk_below (g := gb1000) (o := .cells #[.int .i64 0, .int .i64 0, .int .i64 0, .int .i64 0, .int .i64 0, .int .i64 0, .int .i64 0, .int .i64 0, .int .i64 0] 58 (0, 0)) (by (with_reducible repeat (first | refine blk_drewN ?_ _ | refine blk_drew ?_ | refine blk_alloc ?_ _)); exact BK1000.out) hb)
          have n3_ := Aside0.mk (blk_below (g := gb1008) (o := .cells #[.int .i64 0, .int .i64 0, .int .i64 0, .int .i64 0, .int .i64 0, .int .i64 0, .int .i64 0, .int .i64 0, .int .i64 0] 58 (0, 0)) (by (with_reducible repeat (first | refine blk_drewN ?_ _ | refine blk_drew ?_ | refine blk_alloc ?_ _)); exact BK1008.out) hb)
          have n4_ := Aside0.mk (below_step (by repeat (first | (with_reducible first | exact HB.out | apply below_alloc | apply pw_below_drewN | apply below_drew1 | refine below_set ?_ GE0.out | refine below_set ?_ GE999.out | refine below_set ?_ GE1000.out | refine below_set ?_ GE1008.out) | exact HB.out)) hb)
          clear BK0
          clear BK999
          clear BK1000
          clear BK1008
          clear HB
          have BK0 := n0_
          have BK999 := n1_
          have BK1000 := n2_
          have BK1008 := n3_
          have HB := n4_
          clear n0_ n1_ n2_ n3_ n4_
          (try clear hb)
          (try clear hb2)
          (try clear hk)
          (try clear hi)
          refine hK.out _ _ ⟨(blk_cell BK0.out 0).trans rfl, (blk_cell BK0.out 1).trans rfl, (blk_cell BK0.out 2).trans rfl, (blk_cell BK0.out 3).trans rfl, (blk_cell BK0.out 4).trans rfl, (blk_cell BK0.out 5).trans rfl, (blk_cell BK0.out 6).trans rfl, (blk_cell BK0.out 7).trans rfl, (blk_cell BK0.out 8).trans rfl⟩ (fun hHeld => ?_)
          clear hK K
          refine norm_ (a' := ?_) ?_ ?_
          rotate_left
          · show Act.put _ (some 28) _ = _
            simp only [Act.put, List.setIfInBounds_toArray, List.set_cons_zero, List.set_cons_succ, i64_w, i32_w]
            rfl
          refine pure_ (i := 16) (N := some 34) (v := ?_) (a' := ?_) #[true, true, true, true, true, true, true, true, true, true, true, true, true, true, true, true, true, true, false] rfl rfl (any_of HT_.out (by kernel_rfl)) (fun _ _ _ h => h) (Or.inl ⟨by rfl, ?_⟩) ?_ ?_
          rotate_left
          · intro w'
            go_simp
            with_reducible rfl
          rotate_left
          · simp only [Act.put, List.setIfInBounds_toArray, List.set_cons_zero, List.set_cons_succ, i64_w, i32_w]
            rfl
          exact norm_ (by simp only [putAll, Act.put, List.setIfInBounds_toArray, List.set_cons_zero, List.set_cons_succ]) (hCont (gb1008) _ ⟨hHeld, (by (with_reducible repeat (first | refine blk_drewN ?_ _ | refine blk_drew ?_ | refine blk_alloc ?_ _)); exact BK0.out), (by (with_reducible repeat (first | refine blk_drewN ?_ _ | refine blk_drew ?_ | refine blk_alloc ?_ _)); exact BK1000.out), (by (with_reducible repeat (first | refine blk_drewN ?_ _ | refine blk_drew ?_ | refine blk_alloc ?_ _)); exact BK1008.out), (by (with_reducible repeat (first | refine blk_drewN ?_ _ | refine blk_drew ?_ | refine blk_alloc ?_ _)); exact BK999.out), GW1008.out, GE1008.out, NB0_1008.out, NB1008_0.out, NB1000_1008.out, NB1008_1000.out, NB999_1008.out, NB1008_999.out, (by repeat (first | (with_reducible first | exact HB.out | apply below_alloc | apply pw_below_drewN | apply below_drew1 | refine below_set ?_ GE0.out | refine below_set ?_ GE999.out | refine below_set ?_ GE1000.out | refine below_set ?_ GE1008.out) | exact HB.out))⟩)
      rintro gb1008 w48 ⟨hS_, h0_, h1_, h2_, h3_, h4_, h5_, h6_, h7_, h8_, h9_, h10_, h11_, h12_⟩
      have n0_ : Aside0 (w48.heap[gB0]? = some (.cells #[.int .i64 a0_0, .int .i64 a0_1, .int .i64 a0_2, .int .i64 a0_3, .int .i64 a0_4, .int .i64 a0_5, .int .i64 a0_6, .int .i64 a0_7, .int .i64 a0_8] 58 (0, 0))) := ⟨h0_⟩
      have n1_ : Aside0 (w48.heap[gb1000]? = some (.cells #[.int .i64 0, .int .i64 0, .int .i64 0, .int .i64 0, .int .i64 0, .int .i64 0, .int .i64 0, .int .i64 0, .int .i64 0] 58 (0, 0))) := ⟨h1_⟩
      have n2_ : Aside0 (w48.heap[gb1008]? = some (.cells #[.int .i64 0, .int .i64 0, .int .i64 0, .int .i64 0, .int .i64 0, .int .i64 0, .int .i64 0, .int .i64 0, .int .i64 0] 58 (0, 0))) := ⟨h2_⟩
      have n3_ : Aside0 (w48.heap[gb999]? = some (.cells #[.int .i64 a1_0, .int .i64 a1_1] 75 (0, 0))) := ⟨h3_⟩
      have n4_ : Aside0 (w.heap.size ≤ gb1008) := ⟨h4_⟩
      have n5_ : Aside0 (w.heap.size ≤ gb1008) := ⟨h5_⟩
      have n6_ : Aside0 (gB0 ≠ gb1008) := ⟨h6_⟩
      have n7_ : Aside0 (gb1008 ≠ gB0) := ⟨h7_⟩
      have n8_ : Aside0 (gb1000 ≠ gb1008) := ⟨h8_⟩
      have n9_ : Aside0 (gb1008 ≠ gb1000) := ⟨h9_⟩
      have n10_ : Aside0 (gb999 ≠ gb1008) := ⟨h10_⟩
      have n11_ : Aside0 (gb1008 ≠ gb999) := ⟨h11_⟩
      have n12_ : Aside0 (Below w.heap.size w w48) := ⟨h12_⟩
      clear BK0
      clear BK999
      clear BK1000
      clear HB
      clear h0_ h1_ h2_ h3_ h4_ h5_ h6_ h7_ h8_ h9_ h10_ h11_ h12_
      have BK0 := n0_
      have BK1000 := n1_
      have BK1008 := n2_
      have BK999 := n3_
      have GW1008 := n4_
      have GE1008 := n5_
      have NB0_1008 := n6_
      have NB1008_0 := n7_
      have NB1000_1008 := n8_
      have NB1008_1000 := n9_
      have NB999_1008 := n10_
      have NB1008_999 := n11_
      have HB := n12_
      clear n0_ n1_ n2_ n3_ n4_ n5_ n6_ n7_ n8_ n9_ n10_ n11_ n12_
      have hHeld : w48.cell? ⟨gB0, 0, none⟩ = some (.int .i64 a0_0) ∧ w48.cell? ⟨gB0, 1, none⟩ = some (.int .i64 a0_1) ∧ w48.cell? ⟨gB0, 2, none⟩ = some (.int .i64 a0_2) ∧ w48.cell? ⟨gB0, 3, none⟩ = some (.int .i64 a0_3) ∧ w48.cell? ⟨gB0, 4, none⟩ = some (.int .i64 a0_4) ∧ w48.cell? ⟨gB0, 5, none⟩ = some (.int .i64 a0_5) ∧ w48.cell? ⟨gB0, 6, none⟩ = some (.int .i64 a0_6) ∧ w48.cell? ⟨gB0, 7, none⟩ = some (.int .i64 a0_7) ∧ w48.cell? ⟨gB0, 8, none⟩ = some (.int .i64 a0_8) := hS_
      refine norm_ (a' := ?_) ?_ ?_
      rotate_left
      · simp only [putAll, Act.put, List.setIfInBounds_toArray, List.set_cons_zero, List.set_cons_succ]
        rfl
      refine one_ (i := 18) (N := none) #[true, true, true, true, true, true, true, true, true, true, true, true, true, true, true, true, true, true, true] rfl rfl (one_of HT_.out (by kernel_rfl)) (by decide) (fun K hK => ?_)
      have hs49 : w48.cell? ⟨gb1008, 0, none⟩ = some (.int .i64 0) := (blk_cell BK1008.out 0).trans rfl
      have hfs49 := blk_frozen BK1008.out 0
      have hns49_0 := NB0_1008.out
      have hns49_1 := NB999_1008.out
      have hns49_2 := NB1000_1008.out
      have hms49_0 := NB1008_0.out
      have hms49_1 := NB1008_999.out
      have hms49_2 := NB1008_1000.out
      have hs50 : w48.cell? ⟨gb1008, 1, none⟩ = some (.int .i64 0) := (blk_cell BK1008.out 1).trans rfl
      have hfs50 := blk_frozen BK1008.out 1
      have hns50_0 := NB0_1008.out
      have hns50_1 := NB999_1008.out
      have hns50_2 := NB1000_1008.out
      have hms50_0 := NB1008_0.out
      have hms50_1 := NB1008_999.out
      have hms50_2 := NB1008_1000.out
      have hs51 : w48.cell? ⟨gb1008, 2, none⟩ = some (.int .i64 0) := (blk_cell BK1008.out 2).trans rfl
      have hfs51 := blk_frozen BK1008.out 2
      have hns51_0 := NB0_1008.out
      have hns51_1 := NB999_1008.out
      have hns51_2 := NB1000_1008.out
      have hms51_0 := NB1008_0.out
      have hms51_1 := NB1008_999.out
      have hms51_2 := NB1008_1000.out
      have hs52 : w48.cell? ⟨gb1008, 3, none⟩ = some (.int .i64 0) := (blk_cell BK1008.out 3).trans rfl
      have hfs52 := blk_frozen BK1008.out 3
      have hns52_0 := NB0_1008.out
      have hns52_1 := NB999_1008.out
      have hns52_2 := NB1000_1008.out
      have hms52_0 := NB1008_0.out
      have hms52_1 := NB1008_999.out
      have hms52_2 := NB1008_1000.out
      have hs53 : w48.cell? ⟨gb1008, 4, none⟩ = some (.int .i64 0) := (blk_cell BK1008.out 4).trans rfl
      have hfs53 := blk_frozen BK1008.out 4
      have hns53_0 := NB0_1008.out
      have hns53_1 := NB999_1008.out
      have hns53_2 := NB1000_1008.out
      have hms53_0 := NB1008_0.out
      have hms53_1 := NB1008_999.out
      have hms53_2 := NB1008_1000.out
      have hs54 : w48.cell? ⟨gb1008, 5, none⟩ = some (.int .i64 0) := (blk_cell BK1008.out 5).trans rfl
      have hfs54 := blk_frozen BK1008.out 5
      have hns54_0 := NB0_1008.out
      have hns54_1 := NB999_1008.out
      have hns54_2 := NB1000_1008.out
      have hms54_0 := NB1008_0.out
      have hms54_1 := NB1008_999.out
      have hms54_2 := NB1008_1000.out
      have hs55 : w48.cell? ⟨gb1008, 6, none⟩ = some (.int .i64 0) := (blk_cell BK1008.out 6).trans rfl
      have hfs55 := blk_frozen BK1008.out 6
      have hns55_0 := NB0_1008.out
      have hns55_1 := NB999_1008.out
      have hns55_2 := NB1000_1008.out
      have hms55_0 := NB1008_0.out
      have hms55_1 := NB1008_999.out
      have hms55_2 := NB1008_1000.out
      have hs56 : w48.cell? ⟨gb1008, 7, none⟩ = some (.int .i64 0) := (blk_cell BK1008.out 7).trans rfl
      have hfs56 := blk_frozen BK1008.out 7
      have hns56_0 := NB0_1008.out
      have hns56_1 := NB999_1008.out
      have hns56_2 := NB1000_1008.out
      have hms56_0 := NB1008_0.out
      have hms56_1 := NB1008_999.out
      have hms56_2 := NB1008_1000.out
      have hs57 : w48.cell? ⟨gb1008, 8, none⟩ = some (.int .i64 0) := (blk_cell BK1008.out 8).trans rfl
      have hfs57 := blk_frozen BK1008.out 8
      have hns57_0 := NB0_1008.out
      have hns57_1 := NB999_1008.out
      have hns57_2 := NB1000_1008.out
      have hms57_0 := NB1008_0.out
      have hms57_1 := NB1008_999.out
      have hms57_2 := NB1008_1000.out
      refine skip_ (w1 := ?_) (by rfl) rfl ?_ ?_
      rotate_left
      · go_simp
        rfl
      refine hK.out _ _ ⟨((cell_far (p := ⟨gb1008, _, none⟩) NB0_1008.out _).trans (((cell_far (p := ⟨gb1008, _, none⟩) NB0_1008.out _).trans (((cell_far (p := ⟨gb1008, _, none⟩) NB0_1008.out _).trans (((cell_far (p := ⟨gb1008, _, none⟩) NB0_1008.out _).trans (((cell_far (p := ⟨gb1008, _, none⟩) NB0_1008.out _).trans (((cell_far (p := ⟨gb1008, _, none⟩) NB0_1008.out _).trans (((cell_far (p := ⟨gb1008, _, none⟩) NB0_1008.out _).trans (((cell_far (p := ⟨gb1008, _, none⟩) NB0_1008.out _).trans (((cell_far (p := ⟨gb1008, _, none⟩) NB0_1008.out _).trans (hHeld.1)))))))))))))))))), ((cell_far (p := ⟨gb1008, _, none⟩) NB0_1008.out _).trans (((cell_far (p := ⟨gb1008, _, none⟩) NB0_1008.out _).trans (((cell_far (p := ⟨gb1008, _, none⟩) NB0_1008.out _).trans (((cell_far (p := ⟨gb1008, _, none⟩) NB0_1008.out _).trans (((cell_far (p := ⟨gb1008, _, none⟩) NB0_1008.out _).trans (((cell_far (p := ⟨gb1008, _, none⟩) NB0_1008.out _).trans (((cell_far (p := ⟨gb1008, _, none⟩) NB0_1008.out _).trans (((cell_far (p := ⟨gb1008, _, none⟩) NB0_1008.out _).trans (((cell_far (p := ⟨gb1008, _, none⟩) NB0_1008.out _).trans (hHeld.2.1)))))))))))))))))), ((cell_far (p := ⟨gb1008, _, none⟩) NB0_1008.out _).trans (((cell_far (p := ⟨gb1008, _, none⟩) NB0_1008.out _).trans (((cell_far (p := ⟨gb1008, _, none⟩) NB0_1008.out _).trans (((cell_far (p := ⟨gb1008, _, none⟩) NB0_1008.out _).trans (((cell_far (p := ⟨gb1008, _, none⟩) NB0_1008.out _).trans (((cell_far (p := ⟨gb1008, _, none⟩) NB0_1008.out _).trans (((cell_far (p := ⟨gb1008, _, none⟩) NB0_1008.out _).trans (((cell_far (p := ⟨gb1008, _, none⟩) NB0_1008.out _).trans (((cell_far (p := ⟨gb1008, _, none⟩) NB0_1008.out _).trans (hHeld.2.2.1)))))))))))))))))), ((cell_far (p := ⟨gb1008, _, none⟩) NB0_1008.out _).trans (((cell_far (p := ⟨gb1008, _, none⟩) NB0_1008.out _).trans (((cell_far (p := ⟨gb1008, _, none⟩) NB0_1008.out _).trans (((cell_far (p := ⟨gb1008, _, none⟩) NB0_1008.out _).trans (((cell_far (p := ⟨gb1008, _, none⟩) NB0_1008.out _).trans (((cell_far (p := ⟨gb1008, _, none⟩) NB0_1008.out _).trans (((cell_far (p := ⟨gb1008, _, none⟩) NB0_1008.out _).trans (((cell_far (p := ⟨gb1008, _, none⟩) NB0_1008.out _).trans (((cell_far (p := ⟨gb1008, _, none⟩) NB0_1008.out _).trans (hHeld.2.2.2.1)))))))))))))))))), ((cell_far (p := ⟨gb1008, _, none⟩) NB0_1008.out _).trans (((cell_far (p := ⟨gb1008, _, none⟩) NB0_1008.out _).trans (((cell_far (p := ⟨gb1008, _, none⟩) NB0_1008.out _).trans (((cell_far (p := ⟨gb1008, _, none⟩) NB0_1008.out _).trans (((cell_far (p := ⟨gb1008, _, none⟩) NB0_1008.out _).trans (((cell_far (p := ⟨gb1008, _, none⟩) NB0_1008.out _).trans (((cell_far (p := ⟨gb1008, _, none⟩) NB0_1008.out _).trans (((cell_far (p := ⟨gb1008, _, none⟩) NB0_1008.out _).trans (((cell_far (p := ⟨gb1008, _, none⟩) NB0_1008.out _).trans (hHeld.2.2.2.2.1)))))))))))))))))), ((cell_far (p := ⟨gb1008, _, none⟩) NB0_1008.out _).trans (((cell_far (p := ⟨gb1008, _, none⟩) NB0_1008.out _).trans (((cell_far (p := ⟨gb1008, _, none⟩) NB0_1008.out _).trans (((cell_far (p := ⟨gb1008, _, none⟩) NB0_1008.out _).trans (((cell_far (p := ⟨gb1008, _, none⟩) NB0_1008.out _).trans (((cell_far (p := ⟨gb1008, _, none⟩) NB0_1008.out _).trans (((cell_far (p := ⟨gb1008, _, none⟩) NB0_1008.out _).trans (((cell_far (p := ⟨gb1008, _, none⟩) NB0_1008.out _).trans (((cell_far (p := ⟨gb1008, _, none⟩) NB0_1008.out _).trans (hHeld.2.2.2.2.2.1)))))))))))))))))), ((cell_far (p := ⟨gb1008, _, none⟩) NB0_1008.out _).trans (((cell_far (p := ⟨gb1008, _, none⟩) NB0_1008.out _).trans (((cell_far (p := ⟨gb1008, _, none⟩) NB0_1008.out _).trans (((cell_far (p := ⟨gb1008, _, none⟩) NB0_1008.out _).trans (((cell_far (p := ⟨gb1008, _, none⟩) NB0_1008.out _).trans (((cell_far (p := ⟨gb1008, _, none⟩) NB0_1008.out _).trans (((cell_far (p := ⟨gb1008, _, none⟩) NB0_1008.out _).trans (((cell_far (p := ⟨gb1008, _, none⟩) NB0_1008.out _).trans (((cell_far (p := ⟨gb1008, _, none⟩) NB0_1008.out _).trans (hHeld.2.2.2.2.2.2.1)))))))))))))))))), ((cell_far (p := ⟨gb1008, _, none⟩) NB0_1008.out _).trans (((cell_far (p := ⟨gb1008, _, none⟩) NB0_1008.out _).trans (((cell_far (p := ⟨gb1008, _, none⟩) NB0_1008.out _).trans (((cell_far (p := ⟨gb1008, _, none⟩) NB0_1008.out _).trans (((cell_far (p := ⟨gb1008, _, none⟩) NB0_1008.out _).trans (((cell_far (p := ⟨gb1008, _, none⟩) NB0_1008.out _).trans (((cell_far (p := ⟨gb1008, _, none⟩) NB0_1008.out _).trans (((cell_far (p := ⟨gb1008, _, none⟩) NB0_1008.out _).trans (((cell_far (p := ⟨gb1008, _, none⟩) NB0_1008.out _).trans (hHeld.2.2.2.2.2.2.2.1)))))))))))))))))), ((cell_far (p := ⟨gb1008, _, none⟩) NB0_1008.out _).trans (((cell_far (p := ⟨gb1008, _, none⟩) NB0_1008.out _).trans (((cell_far (p := ⟨gb1008, _, none⟩) NB0_1008.out _).trans (((cell_far (p := ⟨gb1008, _, none⟩) NB0_1008.out _).trans (((cell_far (p := ⟨gb1008, _, none⟩) NB0_1008.out _).trans (((cell_far (p := ⟨gb1008, _, none⟩) NB0_1008.out _).trans (((cell_far (p := ⟨gb1008, _, none⟩) NB0_1008.out _).trans (((cell_far (p := ⟨gb1008, _, none⟩) NB0_1008.out _).trans (((cell_far (p := ⟨gb1008, _, none⟩) NB0_1008.out _).trans (hHeld.2.2.2.2.2.2.2.2))))))))))))))))))⟩ (fun hHeld => ?_)
      clear hK K
      refine done_ (done_of HT_.out (by kernel_rfl)) ?_
      try go_wp2_with (first | ((with_reducible refine gate_callee (f := 79) rfl ?_); refine goesL_ (some 35) rfl rfl Try.func79 (by kernel_rfl) rfl #[.pointer (some ⟨gb1008, 0, none⟩)] rfl (by (try simp only [List.map_toArray, List.map_cons, List.map_nil]); first | done | rfl | (simp only [List.length_drop, List.length_take]; rfl)) ?_; (with_reducible refine (spec_l04Is.calls k gb1008 a0_0 a0_1 a0_2 a0_3 t1004 t1005 t1006 t1007 (wrap64 (a0_8 - 1500)) false _ ?side1 A7.out).mono ?_); (case side1 => (with_reducible repeat (first | refine blk_drewN ?_ _ | refine blk_drew ?_ | refine blk_alloc ?_ _)); refine blk_put (cs := #[.int .i64 a0_0, .int .i64 a0_1, .int .i64 a0_2, .int .i64 a0_3, .int .i64 t1004, .int .i64 t1005, .int .i64 t1006, .int .i64 t1007, .int .i64 0]) ?_ 8 _ rfl; (with_reducible repeat (first | refine blk_drewN ?_ _ | refine blk_drew ?_ | refine blk_alloc ?_ _)); refine blk_put (cs := #[.int .i64 a0_0, .int .i64 a0_1, .int .i64 a0_2, .int .i64 a0_3, .int .i64 t1004, .int .i64 t1005, .int .i64 t1006, .int .i64 0, .int .i64 0]) ?_ 7 _ rfl; (with_reducible repeat (first | refine blk_drewN ?_ _ | refine blk_drew ?_ | refine blk_alloc ?_ _)); refine blk_put (cs := #[.int .i64 a0_0, .int .i64 a0_1, .int .i64 a0_2, .int .i64 a0_3, .int .i64 t1004, .int .i64 t1005, .int .i64 0, .int .i64 0, .int .i64 0]) ?_ 6 _ rfl; (with_reducible repeat (first | refine blk_drewN ?_ _ | refine blk_drew ?_ | refine blk_alloc ?_ _)); refine blk_put (cs := #[.int .i64 a0_0, .int .i64 a0_1, .int .i64 a0_2, .int .i64 a0_3, .int .i64 t1004, .int .i64 0, .int .i64 0, .int .i64 0, .int .i64 0]) ?_ 5 _ rfl; (with_reducible repeat (first | refine blk_drewN ?_ _ | refine blk_drew ?_ | refine blk_alloc ?_ _)); refine blk_put (cs := #[.int .i64 a0_0, .int .i64 a0_1, .int .i64 a0_2, .int .i64 a0_3, .int .i64 0, .int .i64 0, .int .i64 0, .int .i64 0, .int .i64 0]) ?_ 4 _ rfl; (with_reducible repeat (first | refine blk_drewN ?_ _ | refine blk_drew ?_ | refine blk_alloc ?_ _)); refine blk_put (cs := #[.int .i64 a0_0, .int .i64 a0_1, .int .i64 a0_2, .int .i64 0, .int .i64 0, .int .i64 0, .int .i64 0, .int .i64 0, .int .i64 0]) ?_ 3 _ rfl; (with_reducible repeat (first | refine blk_drewN ?_ _ | refine blk_drew ?_ | refine blk_alloc ?_ _)); refine blk_put (cs := #[.int .i64 a0_0, .int .i64 a0_1, .int .i64 0, .int .i64 0, .int .i64 0, .int .i64 0, .int .i64 0, .int .i64 0, .int .i64 0]) ?_ 2 _ rfl; (with_reducible repeat (first | refine blk_drewN ?_ _ | refine blk_drew ?_ | refine blk_alloc ?_ _)); refine blk_put (cs := #[.int .i64 a0_0, .int .i64 0, .int .i64 0, .int .i64 0, .int .i64 0, .int .i64 0, .int .i64 0, .int .i64 0, .int .i64 0]) ?_ 1 _ rfl; (with_reducible repeat (first | refine blk_drewN ?_ _ | refine blk_drew ?_ | refine blk_alloc ?_ _)); refine blk_put (cs := #[.int .i64 0, .int .i64 0, .int .i64 0, .int .i64 0, .int .i64 0, .int .i64 0, .int .i64 0, .int .i64 0, .int .i64 0]) ?_ 0 _ rfl; (with_reducible repeat (first | refine blk_drewN ?_ _ | refine blk_drew ?_ | refine blk_alloc ?_ _)); exact BK1008.out); rintro e w58 ⟨rfl, hb⟩; refine ⟨_, rfl, ?_⟩; have n0_ := Aside0.mk (blk_below (g := gB0) (o := .cells #[.int .i64 a0_0, .int .i64 a0_1, .int .i64 a0_2, .int .i64 a0_3, .int .i64 a0_4, .int .i64 a0_5, .int .i64 a0_6, .int .i64 a0_7, .int .i64 a0_8] 58 (0, 0)) (by (with_reducible repeat (first | refine blk_drewN ?_ _ | refine blk_drew ?_ | refine blk_alloc ?_ _)); refine blk_far ?_ NB0_1008.out _; (with_reducible repeat (first | refine blk_drewN ?_ _ | refine blk_drew ?_ | refine blk_alloc ?_ _)); refine blk_far ?_ NB0_1008.out _; (with_reducible repeat (first | refine blk_drewN ?_ _ | refine blk_drew ?_ | refine blk_alloc ?_ _)); refine blk_far ?_ NB0_1008.out _; (with_reducible repeat (first | refine blk_drewN ?_ _ | refine blk_drew ?_ | refine blk_alloc ?_ _)); refine blk_far ?_ NB0_1008.out _; (with_reducible repeat (first | refine blk_drewN ?_ _ | refine blk_drew ?_ | refine blk_alloc ?_ _)); refine blk_far ?_ NB0_1008.out _; (with_reducible repeat (first | refine blk_drewN ?_ _ | refine blk_drew ?_ | refine blk_alloc ?_ _)); refine blk_far ?_ NB0_1008.out _; (with_reducible repeat (first | refine blk_drewN ?_ _ | refine blk_drew ?_ | refine blk_alloc ?_ _)); refine blk_far ?_ NB0_1008.out _; (with_reducible repeat (first | refine blk_drewN ?_ _ | refine blk_drew ?_ | refine blk_alloc ?_ _)); refine blk_far ?_ NB0_1008.out _; (with_reducible repeat (first | refine blk_drewN ?_ _ | refine blk_drew ?_ | refine blk_alloc ?_ _)); refine blk_far ?_ NB0_1008.out _; (with_reducible repeat (first | refine blk_drewN ?_ _ | refine blk_drew ?_ | refine blk_alloc ?_ _)); exact BK0.out) hb); have n1_ := Aside0.mk (blk_below (g := gb999) (o := .cells #[.int .i64 a1_0, .int .i64 a1_1] 75 (0, 0)) (by (with_reducible repeat (first | refine blk_drewN ?_ _ | refine blk_drew ?_ | refine blk_alloc ?_ _)); refine blk_far ?_ NB999_1008.out _; (with_reducible repeat (first | refine blk_drewN ?_ _ | refine blk_drew ?_ | refine blk_alloc ?_ _)); refine blk_far ?_ NB999_1008.out _; (with_reducible repeat (first | refine blk_drewN ?_ _ | refine blk_drew ?_ | refine blk_alloc ?_ _)); refine blk_far ?_ NB999_1008.out _; (with_reducible repeat (first | refine blk_drewN ?_ _ | refine blk_drew ?_ | refine blk_alloc ?_ _)); refine blk_far ?_ NB999_1008.out _; (with_reducible repeat (first | refine blk_drewN ?_ _ | refine blk_drew ?_ | refine blk_alloc ?_ _)); refine blk_far ?_ NB999_1008.out _; (with_reducible repeat (first | refine blk_drewN ?_ _ | refine blk_drew ?_ | refine blk_alloc ?_ _)); refine blk_far ?_ NB999_1008.out _; (with_reducible repeat (first | refine blk_drewN ?_ _ | refine blk_drew ?_ | refine blk_alloc ?_ _)); refine blk_far ?_ NB999_1008.out _; (with_reducible repeat (first | refine blk_drewN ?_ _ | refine blk_drew ?_ | refine blk_alloc ?_ _)); refine blk_far ?_ NB999_1008.out _; (with_reducible repeat (first | refine blk_drewN ?_ _ | refine blk_drew ?_ | refine blk_alloc ?_ _)); refine blk_far ?_ NB999_1008.out _; (with_reducible repeat (first | refine blk_drewN ?_ _ | refine blk_drew ?_ | refine blk_alloc ?_ _)); exact BK999.out) hb); have n2_ := Aside0.mk (blk_below (g := gb1000) (o := .cells #[.int .i64 0, .int .i64 0, .int .i64 0, .int .i64 0, .int .i64 0, .int .i64 0, .int .i64 0, .int .i64 0, .int .i64 0] 58 (0, 0)) (by (with_reducible repeat (first | refine blk_drewN ?_ _ | refine blk_drew ?_ | refine blk_alloc ?_ _)); refine blk_far ?_ NB1000_1008.out _; (with_reducible repeat (first | refine blk_drewN ?_ _ | refine blk_drew ?_ | refine blk_alloc ?_ _)); refine blk_far ?_ NB1000_1008.out _; (with_reducible repeat (first | refine blk_drewN ?_ _ | refine blk_drew ?_ | refine blk_alloc ?_ _)); refine blk_far ?_ NB1000_1008.out _; (with_reducible repeat (first | refine blk_drewN ?_ _ | refine blk_drew ?_ | refine blk_alloc ?_ _)); refine blk_far ?_ NB1000_1008.out _; (with_reducible repeat (first | refine blk_drewN ?_ _ | refine blk_drew ?_ | refine blk_alloc ?_ _)); refine blk_far ?_ NB1000_1008.out _; (with_reducible repeat (first | refine blk_drewN ?_ _ | refine blk_drew ?_ | refine blk_alloc ?_ _)); refine blk_far ?_ NB1000_1008.out _; (with_reducible repeat (first | refine blk_drewN ?_ _ | refine blk_drew ?_ | refine blk_alloc ?_ _)); refine blk_far ?_ NB1000_1008.out _; (with_reducible repeat (first | refine blk_drewN ?_ _ | refine blk_drew ?_ | refine blk_alloc ?_ _)); refine blk_far ?_ NB1000_1008.out _; (with_reducible repeat (first | refine blk_drewN ?_ _ | refine blk_drew ?_ | refine blk_alloc ?_ _)); refine blk_far ?_ NB1000_1008.out _; (with_reducible repeat (first | refine blk_drewN ?_ _ | refine blk_drew ?_ | refine blk_alloc ?_ _)); exact BK1000.out) hb); have n3_ := Aside0.mk (blk_below (g := gb1008) (o := .cells #[.int .i64 a0_0, .int .i64 a0_1, .int .i64 a0_2, .int .i64 a0_3, .int .i64 t1004, .int .i64 t1005, .int .i64 t1006, .int .i64 t1007, .int .i64 (wrap64 (a0_8 - 1500))] 58 (0, 0)) (by (with_reducible repeat (first | refine blk_drewN ?_ _ | refine blk_drew ?_ | refine blk_alloc ?_ _)); refine blk_put (cs := #[.int .i64 a0_0, .int .i64 a0_1, .int .i64 a0_2, .int .i64 a0_3, .int .i64 t1004, .int .i64 t1005, .int .i64 t1006, .int .i64 t1007, .int .i64 0]) ?_ 8 _ rfl; (with_reducible repeat (first | refine blk_drewN ?_ _ | refine blk_drew ?_ | refine blk_alloc ?_ _)); refine blk_put (cs := #[.int .i64 a0_0, .int .i64 a0_1, .int .i64 a0_2, .int .i64 a0_3, .int .i64 t1004, .int .i64 t1005, .int .i64 t1006, .int .i64 0, .int .i64 0]) ?_ 7 _ rfl; (with_reducible repeat (first | refine blk_drewN ?_ _ | refine blk_drew ?_ | refine blk_alloc ?_ _)); refine blk_put (cs := #[.int .i64 a0_0, .int .i64 a0_1, .int .i64 a0_2, .int .i64 a0_3, .int .i64 t1004, .int .i64 t1005, .int .i64 0, .int .i64 0, .int .i64 0]) ?_ 6 _ rfl; (with_reducible repeat (first | refine blk_drewN ?_ _ | refine blk_drew ?_ | refine blk_alloc ?_ _)); refine blk_put (cs := #[.int .i64 a0_0, .int .i64 a0_1, .int .i64 a0_2, .int .i64 a0_3, .int .i64 t1004, .int .i64 0, .int .i64 0, .int .i64 0, .int .i64 0]) ?_ 5 _ rfl; (with_reducible repeat (first | refine blk_drewN ?_ _ | refine blk_drew ?_ | refine blk_alloc ?_ _)); refine blk_put (cs := #[.int .i64 a0_0, .int .i64 a0_1, .int .i64 a0_2, .int .i64 a0_3, .int .i64 0, .int .i64 0, .int .i64 0, .int .i64 0, .int .i64 0]) ?_ 4 _ rfl; (with_reducible repeat (first | refine blk_drewN ?_ _ | refine blk_drew ?_ | refine blk_alloc ?_ _)); refine blk_put (cs := #[.int .i64 a0_0, .int .i64 a0_1, .int .i64 a0_2, .int .i64 0, .int .i64 0, .int .i64 0, .int .i64 0, .int .i64 0, .int .i64 0]) ?_ 3 _ rfl; (with_reducible repeat (first | refine blk_drewN ?_ _ | refine blk_drew ?_ | refine blk_alloc ?_ _)); refine blk_put (cs := #[.int .i64 a0_0, .int .i64 a0_1, .int .i64 0, .int .i64 0, .int .i64 0, .int .i64 0, .int .i64 0, .int .i64 0, .int .i64 0]) ?_ 2 _ rfl; (with_reducible repeat (first | refine blk_drewN ?_ _ | refine blk_drew ?_ | refine blk_alloc ?_ _)); refine blk_put (cs := #[.int .i64 a0_0, .int .i64 0, .int .i64 0, .int .i64 0, .int .i64 0, .int .i64 0, .int .i64 0, .int .i64 0, .int .i64 0]) ?_ 1 _ rfl; (with_reducible repeat (first | refine blk_drewN ?_ _ | refine blk_drew ?_ | refine blk_alloc ?_ _)); refine blk_put (cs := #[.int .i64 0, .int .i64 0, .int .i64 0, .int .i64 0, .int .i64 0, .int .i64 0, .int .i64 0, .int .i64 0, .int .i64 0]) ?_ 0 _ rfl; (with_reducible repeat (first | refine blk_drewN ?_ _ | refine blk_drew ?_ | refine blk_alloc ?_ _)); exact BK1008.out) hb); have n4_ := Aside0.mk (below_step (by repeat (first | (with_reducible first | exact HB.out | apply below_alloc | apply pw_below_drewN | apply below_drew1 | refine below_set ?_ GE0.out | refine below_set ?_ GE999.out | refine below_set ?_ GE1000.out | refine below_set ?_ GE1008.out) | exact HB.out)) hb); clear BK0; clear BK999; clear BK1000; clear BK1008; clear HB; have BK0 := n0_; have BK999 := n1_; have BK1000 := n2_; have BK1008 := n3_; have HB := n4_; clear n0_ n1_ n2_ n3_ n4_; (try clear hb); (try clear hb2); (try clear hk); (try clear hi); have hnb59 := NB1000_0.out; have hnc59 := NB0_1000.out; have hnb60 := NB1000_1008.out; have hnc60 := NB1008_1000.out; have hcz61_0 : w58.cell? ⟨gb1000, 0, none⟩ = some (.int .i64 0) := (blk_cell BK1000.out 0).trans rfl; have hcz61_1 : w58.cell? ⟨gb1000, 1, none⟩ = some (.int .i64 0) := (blk_cell BK1000.out 1).trans rfl; have hcz61_2 : w58.cell? ⟨gb1000, 2, none⟩ = some (.int .i64 0) := (blk_cell BK1000.out 2).trans rfl; have hcz61_3 : w58.cell? ⟨gb1000, 3, none⟩ = some (.int .i64 0) := (blk_cell BK1000.out 3).trans rfl; have hcz61_4 : w58.cell? ⟨gb1000, 4, none⟩ = some (.int .i64 0) := (blk_cell BK1000.out 4).trans rfl; have hcz61_5 : w58.cell? ⟨gb1000, 5, none⟩ = some (.int .i64 0) := (blk_cell BK1000.out 5).trans rfl; have hcz61_6 : w58.cell? ⟨gb1000, 6, none⟩ = some (.int .i64 0) := (blk_cell BK1000.out 6).trans rfl; have hcz61_7 : w58.cell? ⟨gb1000, 7, none⟩ = some (.int .i64 0) := (blk_cell BK1000.out 7).trans rfl; have hcz61_8 : w58.cell? ⟨gb1000, 8, none⟩ = some (.int .i64 0) := (blk_cell BK1000.out 8).trans rfl; have hfz61_0 := blk_frozen BK1000.out 0; have hfz61_1 := blk_frozen BK1000.out 1; have hfz61_2 := blk_frozen BK1000.out 2; have hfz61_3 := blk_frozen BK1000.out 3; have hfz61_4 := blk_frozen BK1000.out 4; have hfz61_5 := blk_frozen BK1000.out 5; have hfz61_6 := blk_frozen BK1000.out 6; have hfz61_7 := blk_frozen BK1000.out 7; have hfz61_8 := blk_frozen BK1000.out 8))
      refine bodyPost_ret (results_ct rfl _ _ gb1000 58 #[.int .i64 0, .int .i64 0, .int .i64 0, .int .i64 0, .int .i64 0, .int .i64 0, .int .i64 0, .int .i64 0, .int .i64 0] (0, 0) _ rfl (by (with_reducible repeat (first | refine blk_drewN ?_ _ | refine blk_drew ?_ | refine blk_alloc ?_ _)); refine blk_put (cs := #[.int .i64 0, .int .i64 0, .int .i64 0, .int .i64 0, .int .i64 0, .int .i64 0, .int .i64 0, .int .i64 0, .int .i64 0]) ?_ 8 _ rfl; (with_reducible repeat (first | refine blk_drewN ?_ _ | refine blk_drew ?_ | refine blk_alloc ?_ _)); refine blk_put (cs := #[.int .i64 0, .int .i64 0, .int .i64 0, .int .i64 0, .int .i64 0, .int .i64 0, .int .i64 0, .int .i64 0, .int .i64 0]) ?_ 7 _ rfl; (with_reducible repeat (first | refine blk_drewN ?_ _ | refine blk_drew ?_ | refine blk_alloc ?_ _)); refine blk_put (cs := #[.int .i64 0, .int .i64 0, .int .i64 0, .int .i64 0, .int .i64 0, .int .i64 0, .int .i64 0, .int .i64 0, .int .i64 0]) ?_ 6 _ rfl; (with_reducible repeat (first | refine blk_drewN ?_ _ | refine blk_drew ?_ | refine blk_alloc ?_ _)); refine blk_put (cs := #[.int .i64 0, .int .i64 0, .int .i64 0, .int .i64 0, .int .i64 0, .int .i64 0, .int .i64 0, .int .i64 0, .int .i64 0]) ?_ 5 _ rfl; (with_reducible repeat (first | refine blk_drewN ?_ _ | refine blk_drew ?_ | refine blk_alloc ?_ _)); refine blk_put (cs := #[.int .i64 0, .int .i64 0, .int .i64 0, .int .i64 0, .int .i64 0, .int .i64 0, .int .i64 0, .int .i64 0, .int .i64 0]) ?_ 4 _ rfl; (with_reducible repeat (first | refine blk_drewN ?_ _ | refine blk_drew ?_ | refine blk_alloc ?_ _)); refine blk_put (cs := #[.int .i64 0, .int .i64 0, .int .i64 0, .int .i64 0, .int .i64 0, .int .i64 0, .int .i64 0, .int .i64 0, .int .i64 0]) ?_ 3 _ rfl; (with_reducible repeat (first | refine blk_drewN ?_ _ | refine blk_drew ?_ | refine blk_alloc ?_ _)); refine blk_put (cs := #[.int .i64 0, .int .i64 0, .int .i64 0, .int .i64 0, .int .i64 0, .int .i64 0, .int .i64 0, .int .i64 0, .int .i64 0]) ?_ 2 _ rfl; (with_reducible repeat (first | refine blk_drewN ?_ _ | refine blk_drew ?_ | refine blk_alloc ?_ _)); refine blk_put (cs := #[.int .i64 0, .int .i64 0, .int .i64 0, .int .i64 0, .int .i64 0, .int .i64 0, .int .i64 0, .int .i64 0, .int .i64 0]) ?_ 1 _ rfl; (with_reducible repeat (first | refine blk_drewN ?_ _ | refine blk_drew ?_ | refine blk_alloc ?_ _)); refine blk_put (cs := #[.int .i64 0, .int .i64 0, .int .i64 0, .int .i64 0, .int .i64 0, .int .i64 0, .int .i64 0, .int .i64 0, .int .i64 0]) ?_ 0 _ rfl; (with_reducible repeat (first | refine blk_drewN ?_ _ | refine blk_drew ?_ | refine blk_alloc ?_ _)); exact BK1000.out) Try.underlying58 rfl (by kernel_rfl)) rfl ?_
      exact ⟨by first | rfl | (simp [errW_none, errW_some] <;> rfl) | (simp [*, errW_none, errW_some] <;> rfl), by repeat (first | (with_reducible first | exact HB.out | apply below_alloc | apply pw_below_drewN | apply below_drew1 | refine below_set ?_ GE0.out | refine below_set ?_ GE999.out | refine below_set ?_ GE1000.out | refine below_set ?_ GE1008.out) | exact HB.out)⟩
  · replace c4 := Bool.eq_false_iff.mpr c4
    subst c4
    have H1 : (some (0, 0, 0, 0, 0, 0, 0, 0, 0, false)) = some (r1, r2, r3, r4, r5, r6, r7, r8, r9, r10) := by rw [if_neg (show ¬ (false = true) by decide)] at H; exact H
    clear H
    have H := H1
    clear H1
    simp only [Option.some.injEq, Prod.mk.injEq] at H
    obtain ⟨rfl, rfl, rfl, rfl, rfl, rfl, rfl, rfl, rfl, rfl⟩ := H
    go_enter Try.func93, Try.ntmps93
    go_wp2_with (first | ((with_reducible refine gate_dst (N := 3) rfl ?_); refine box_event ?hg (N := 3) ?hd (cs := #[.int .i64 a1_0, .int .i64 a1_1]) (t := 75) ?hr ?_; (case hd => rfl); (case hg => rfl); (case hr => first | (go_simp; done) | (go_simp; rfl)); intro gb999 hg w62 hbox hb; have n0_ := Aside0.mk (blk_below (g := gB0) (o := .cells #[.int .i64 a0_0, .int .i64 a0_1, .int .i64 a0_2, .int .i64 a0_3, .int .i64 a0_4, .int .i64 a0_5, .int .i64 a0_6, .int .i64 a0_7, .int .i64 a0_8] 58 (0, 0)) (by (with_reducible repeat (first | refine blk_drewN ?_ _ | refine blk_drew ?_ | refine blk_alloc ?_ _)); exact BK0.out) hb); have n1_ := Aside0.mk (below_step (by repeat (first | (with_reducible first | exact HB.out | apply below_alloc | apply pw_below_drewN | apply below_drew1 | refine below_set ?_ GE0.out) | exact HB.out)) hb); have n2_ := Aside0.mk (hbox); have n3_ := Aside0.mk ((by rw [hg]; exact (below_size (by repeat (first | (with_reducible first | exact HB.out | apply below_alloc | apply pw_below_drewN | apply below_drew1 | refine below_set ?_ GE0.out) | exact HB.out))) : w.heap.size ≤ gb999)); have n4_ := Aside0.mk ((by rw [hg]; exact (below_size (by repeat (first | (with_reducible first | exact HB.out | apply below_alloc | apply pw_below_drewN | apply below_drew1 | refine below_set ?_ GE0.out) | exact HB.out))) : w.heap.size ≤ gb999)); have n5_ := Aside0.mk ((by rw [hg]; exact Nat.ne_of_lt (blk_lt (g := gB0) (o := .cells #[.int .i64 a0_0, .int .i64 a0_1, .int .i64 a0_2, .int .i64 a0_3, .int .i64 a0_4, .int .i64 a0_5, .int .i64 a0_6, .int .i64 a0_7, .int .i64 a0_8] 58 (0, 0)) (by (with_reducible repeat (first | refine blk_drewN ?_ _ | refine blk_drew ?_ | refine blk_alloc ?_ _)); exact BK0.out)) : gB0 ≠ gb999)); have n6_ := Aside0.mk ((by rw [hg]; exact Nat.ne_of_gt (blk_lt (g := gB0) (o := .cells #[.int .i64 a0_0, .int .i64 a0_1, .int .i64 a0_2, .int .i64 a0_3, .int .i64 a0_4, .int .i64 a0_5, .int .i64 a0_6, .int .i64 a0_7, .int .i64 a0_8] 58 (0, 0)) (by (with_reducible repeat (first | refine blk_drewN ?_ _ | refine blk_drew ?_ | refine blk_alloc ?_ _)); exact BK0.out)) : gb999 ≠ gB0)); clear BK0; clear HB; have BK0 := n0_; have HB := n1_; have BK999 := n2_; have GW999 := n3_; have GE999 := n4_; have NB0_999 := n5_; have NB999_0 := n6_; clear n0_ n1_ n2_ n3_ n4_ n5_ n6_; clear hb hbox hg) | ((with_reducible refine gate_dst (N := 4) rfl ?_); refine box_event ?hg (N := 4) ?hd (cs := #[.int .i64 0, .int .i64 0, .int .i64 0, .int .i64 0, .int .i64 0, .int .i64 0, .int .i64 0, .int .i64 0, .int .i64 0]) (t := 58) ?hr ?_; (case hd => rfl); (case hg => rfl); (case hr => first | (go_simp; done) | (go_simp; rfl)); intro gb1000 hg w63 hbox hb; have n0_ := Aside0.mk (blk_below (g := gB0) (o := .cells #[.int .i64 a0_0, .int .i64 a0_1, .int .i64 a0_2, .int .i64 a0_3, .int .i64 a0_4, .int .i64 a0_5, .int .i64 a0_6, .int .i64 a0_7, .int .i64 a0_8] 58 (0, 0)) (by (with_reducible repeat (first | refine blk_drewN ?_ _ | refine blk_drew ?_ | refine blk_alloc ?_ _)); exact BK0.out) hb); have n1_ := Aside0.mk (blk_below (g := gb999) (o := .cells #[.int .i64 a1_0, .int .i64 a1_1] 75 (0, 0)) (by (with_reducible repeat (first | refine blk_drewN ?_ _ | refine blk_drew ?_ | refine blk_alloc ?_ _)); exact BK999.out) hb); have n2_ := Aside0.mk (below_step (by repeat (first | (with_reducible first | exact HB.out | apply below_alloc | apply pw_below_drewN | apply below_drew1 | refine below_set ?_ GE0.out | refine below_set ?_ GE999.out) | exact HB.out)) hb); have n3_ := Aside0.mk (hbox); have n4_ := Aside0.mk ((by rw [hg]; exact (below_size (by repeat (first | (with_reducible first | exact HB.out | apply below_alloc | apply pw_below_drewN | apply below_drew1 | refine below_set ?_ GE0.out | refine below_set ?_ GE999.out) | exact HB.out))) : w.heap.size ≤ gb1000)); have n5_ := Aside0.mk ((by rw [hg]; exact (below_size (by repeat (first | (with_reducible first | exact HB.out | apply below_alloc | apply pw_below_drewN | apply below_drew1 | refine below_set ?_ GE0.out | refine below_set ?_ GE999.out) | exact HB.out))) : w.heap.size ≤ gb1000)); have n6_ := Aside0.mk ((by rw [hg]; exact Nat.ne_of_lt (blk_lt (g := gB0) (o := .cells #[.int .i64 a0_0, .int .i64 a0_1, .int .i64 a0_2, .int .i64 a0_3, .int .i64 a0_4, .int .i64 a0_5, .int .i64 a0_6, .int .i64 a0_7, .int .i64 a0_8] 58 (0, 0)) (by (with_reducible repeat (first | refine blk_drewN ?_ _ | refine blk_drew ?_ | refine blk_alloc ?_ _)); exact BK0.out)) : gB0 ≠ gb1000)); have n7_ := Aside0.mk ((by rw [hg]; exact Nat.ne_of_gt (blk_lt (g := gB0) (o := .cells #[.int .i64 a0_0, .int .i64 a0_1, .int .i64 a0_2, .int .i64 a0_3, .int .i64 a0_4, .int .i64 a0_5, .int .i64 a0_6, .int .i64 a0_7, .int .i64 a0_8] 58 (0, 0)) (by (with_reducible repeat (first | refine blk_drewN ?_ _ | refine blk_drew ?_ | refine blk_alloc ?_ _)); exact BK0.out)) : gb1000 ≠ gB0)); have n8_ := Aside0.mk ((by rw [hg]; exact Nat.ne_of_lt (blk_lt (g := gb999) (o := .cells #[.int .i64 a1_0, .int .i64 a1_1] 75 (0, 0)) (by (with_reducible repeat (first | refine blk_drewN ?_ _ | refine blk_drew ?_ | refine blk_alloc ?_ _)); exact BK999.out)) : gb999 ≠ gb1000)); have n9_ := Aside0.mk ((by rw [hg]; exact Nat.ne_of_gt (blk_lt (g := gb999) (o := .cells #[.int .i64 a1_0, .int .i64 a1_1] 75 (0, 0)) (by (with_reducible repeat (first | refine blk_drewN ?_ _ | refine blk_drew ?_ | refine blk_alloc ?_ _)); exact BK999.out)) : gb1000 ≠ gb999)); clear BK0; clear BK999; clear HB; have BK0 := n0_; have BK999 := n1_; have HB := n2_; have BK1000 := n3_; have GW1000 := n4_; have GE1000 := n5_; have NB0_1000 := n6_; have NB1000_0 := n7_; have NB999_1000 := n8_; have NB1000_999 := n9_; clear n0_ n1_ n2_ n3_ n4_ n5_ n6_ n7_ n8_ n9_; clear hb hbox hg; have hnb64 := NB999_0.out; have hnc64 := NB0_999.out; have hnb65 := NB999_1000.out; have hnc65 := NB1000_999.out; have hcz66_0 : w63.cell? ⟨gb999, 0, none⟩ = some (.int .i64 a1_0) := (blk_cell BK999.out 0).trans rfl; have hcz66_1 : w63.cell? ⟨gb999, 1, none⟩ = some (.int .i64 a1_1) := (blk_cell BK999.out 1).trans rfl; have hfz66_0 := blk_frozen BK999.out 0; have hfz66_1 := blk_frozen BK999.out 1) | ((with_reducible refine gate_callee (f := 111) rfl ?_); refine goesL_ (some 10) rfl rfl Try.func111 (by kernel_rfl) rfl #[.agg #[.int .i64 a1_0, .int .i64 a1_1]] rfl (by (try simp only [List.map_toArray, List.map_cons, List.map_nil]); first | done | rfl | (simp only [List.length_drop, List.length_take]; rfl)) ?_; (with_reducible refine (spec_l03Is.calls a1_0 a1_1 false _ A3.out).mono ?_); rintro e w67 ⟨rfl, hb⟩; refine ⟨_, rfl, ?_⟩; have n0_ := Aside0.mk (blk_below (g := gB0) (o := .cells #[.int .i64 a0_0, .int .i64 a0_1, .int .i64 a0_2, .int .i64 a0_3, .int .i64 a0_4, .int .i64 a0_5, .int .i64 a0_6, .int .i64 a0_7, .int .i64 a0_8] 58 (0, 0)) (by (with_reducible repeat (first | refine blk_drewN ?_ _ | refine blk_drew ?_ | refine blk_alloc ?_ _)); exact BK0.out) hb); have n1_ := Aside0.mk (blk_below (g := gb999) (o := .cells #[.int .i64 a1_0, .int .i64 a1_1] 75 (0, 0)) (by (with_reducible repeat (first | refine blk_drewN ?_ _ | refine blk_drew ?_ | refine blk_alloc ?_ _)); exact BK999.out) hb); have n2_ := Aside0.mk (blk_below (g := gb1000) (o := .cells #[.int .i64 0, .int .i64 0, .int .i64 0, .int .i64 0, .int .i64 0, .int .i64 0, .int .i64 0, .int .i64 0, .int .i64 0] 58 (0, 0)) (by (with_reducible repeat (first | refine blk_drewN ?_ _ | refine blk_drew ?_ | refine blk_alloc ?_ _)); exact BK1000.out) hb); have n3_ := Aside0.mk (below_step (by repeat (first | (with_reducible first | exact HB.out | apply below_alloc | apply pw_below_drewN | apply below_drew1 | refine below_set ?_ GE0.out | refine below_set ?_ GE999.out | refine below_set ?_ GE1000.out) | exact HB.out)) hb); clear BK0; clear BK999; clear BK1000; clear HB; have BK0 := n0_; have BK999 := n1_; have BK1000 := n2_; have HB := n3_; clear n0_ n1_ n2_ n3_; (try clear hb); (try clear hb2); (try clear hk); (try clear hi); have hnb68 := NB1000_0.out; have hnc68 := NB0_1000.out; have hcz69_0 : w67.cell? ⟨gb1000, 0, none⟩ = some (.int .i64 0) := (blk_cell BK1000.out 0).trans rfl; have hcz69_1 : w67.cell? ⟨gb1000, 1, none⟩ = some (.int .i64 0) := (blk_cell BK1000.out 1).trans rfl; have hcz69_2 : w67.cell? ⟨gb1000, 2, none⟩ = some (.int .i64 0) := (blk_cell BK1000.out 2).trans rfl; have hcz69_3 : w67.cell? ⟨gb1000, 3, none⟩ = some (.int .i64 0) := (blk_cell BK1000.out 3).trans rfl; have hcz69_4 : w67.cell? ⟨gb1000, 4, none⟩ = some (.int .i64 0) := (blk_cell BK1000.out 4).trans rfl; have hcz69_5 : w67.cell? ⟨gb1000, 5, none⟩ = some (.int .i64 0) := (blk_cell BK1000.out 5).trans rfl; have hcz69_6 : w67.cell? ⟨gb1000, 6, none⟩ = some (.int .i64 0) := (blk_cell BK1000.out 6).trans rfl; have hcz69_7 : w67.cell? ⟨gb1000, 7, none⟩ = some (.int .i64 0) := (blk_cell BK1000.out 7).trans rfl; have hcz69_8 : w67.cell? ⟨gb1000, 8, none⟩ = some (.int .i64 0) := (blk_cell BK1000.out 8).trans rfl; have hfz69_0 := blk_frozen BK1000.out 0; have hfz69_1 := blk_frozen BK1000.out 1; have hfz69_2 := blk_frozen BK1000.out 2; have hfz69_3 := blk_frozen BK1000.out 3; have hfz69_4 := blk_frozen BK1000.out 4; have hfz69_5 := blk_frozen BK1000.out 5; have hfz69_6 := blk_frozen BK1000.out 6; have hfz69_7 := blk_frozen BK1000.out 7; have hfz69_8 := blk_frozen BK1000.out 8))
    refine bodyPost_ret (results_ct rfl _ _ gb1000 58 #[.int .i64 0, .int .i64 0, .int .i64 0, .int .i64 0, .int .i64 0, .int .i64 0, .int .i64 0, .int .i64 0, .int .i64 0] (0, 0) _ rfl (by (with_reducible repeat (first | refine blk_drewN ?_ _ | refine blk_drew ?_ | refine blk_alloc ?_ _)); refine blk_put (cs := #[.int .i64 0, .int .i64 0, .int .i64 0, .int .i64 0, .int .i64 0, .int .i64 0, .int .i64 0, .int .i64 0, .int .i64 0]) ?_ 8 _ rfl; (with_reducible repeat (first | refine blk_drewN ?_ _ | refine blk_drew ?_ | refine blk_alloc ?_ _)); refine blk_put (cs := #[.int .i64 0, .int .i64 0, .int .i64 0, .int .i64 0, .int .i64 0, .int .i64 0, .int .i64 0, .int .i64 0, .int .i64 0]) ?_ 7 _ rfl; (with_reducible repeat (first | refine blk_drewN ?_ _ | refine blk_drew ?_ | refine blk_alloc ?_ _)); refine blk_put (cs := #[.int .i64 0, .int .i64 0, .int .i64 0, .int .i64 0, .int .i64 0, .int .i64 0, .int .i64 0, .int .i64 0, .int .i64 0]) ?_ 6 _ rfl; (with_reducible repeat (first | refine blk_drewN ?_ _ | refine blk_drew ?_ | refine blk_alloc ?_ _)); refine blk_put (cs := #[.int .i64 0, .int .i64 0, .int .i64 0, .int .i64 0, .int .i64 0, .int .i64 0, .int .i64 0, .int .i64 0, .int .i64 0]) ?_ 5 _ rfl; (with_reducible repeat (first | refine blk_drewN ?_ _ | refine blk_drew ?_ | refine blk_alloc ?_ _)); refine blk_put (cs := #[.int .i64 0, .int .i64 0, .int .i64 0, .int .i64 0, .int .i64 0, .int .i64 0, .int .i64 0, .int .i64 0, .int .i64 0]) ?_ 4 _ rfl; (with_reducible repeat (first | refine blk_drewN ?_ _ | refine blk_drew ?_ | refine blk_alloc ?_ _)); refine blk_put (cs := #[.int .i64 0, .int .i64 0, .int .i64 0, .int .i64 0, .int .i64 0, .int .i64 0, .int .i64 0, .int .i64 0, .int .i64 0]) ?_ 3 _ rfl; (with_reducible repeat (first | refine blk_drewN ?_ _ | refine blk_drew ?_ | refine blk_alloc ?_ _)); refine blk_put (cs := #[.int .i64 0, .int .i64 0, .int .i64 0, .int .i64 0, .int .i64 0, .int .i64 0, .int .i64 0, .int .i64 0, .int .i64 0]) ?_ 2 _ rfl; (with_reducible repeat (first | refine blk_drewN ?_ _ | refine blk_drew ?_ | refine blk_alloc ?_ _)); refine blk_put (cs := #[.int .i64 0, .int .i64 0, .int .i64 0, .int .i64 0, .int .i64 0, .int .i64 0, .int .i64 0, .int .i64 0, .int .i64 0]) ?_ 1 _ rfl; (with_reducible repeat (first | refine blk_drewN ?_ _ | refine blk_drew ?_ | refine blk_alloc ?_ _)); refine blk_put (cs := #[.int .i64 0, .int .i64 0, .int .i64 0, .int .i64 0, .int .i64 0, .int .i64 0, .int .i64 0, .int .i64 0, .int .i64 0]) ?_ 0 _ rfl; (with_reducible repeat (first | refine blk_drewN ?_ _ | refine blk_drew ?_ | refine blk_alloc ?_ _)); exact BK1000.out) Try.underlying58 rfl (by kernel_rfl)) rfl ?_
    exact ⟨by first | rfl | (simp [errW_none, errW_some] <;> rfl) | (simp [*, errW_none, errW_some] <;> rfl), by repeat (first | (with_reducible first | exact HB.out | apply below_alloc | apply pw_below_drewN | apply below_drew1 | refine below_set ?_ GE0.out | refine below_set ?_ GE999.out | refine below_set ?_ GE1000.out) | exact HB.out)⟩

/-! ### impl_ValidRing: function 94 -/
def impl_ValidRing.f (a0_0 : Int) (a0_1 : Int) : Option (Bool) := (impl_within.f a0_0 0 1).bind fun t1028 => (if t1028 = true then ((impl_within.f a0_1 0 15).bind fun t1029 => (some t1029)) else (some false))
set_option maxHeartbeats 8000000 in
set_option maxRecDepth 100000 in
theorem impl_ValidRing.calls (a0_0 : Int) (a0_1 : Int) (r : Bool) (w : World) (h : impl_ValidRing.f a0_0 a0_1 = some r) :
    Calls Try.prog 94 #[.agg #[.int .i64 a0_0, .int .i64 a0_1]] w fun e w' => e = .returned (.bool r) ∧ Below w.heap.size w w' := by
  have hu75 := Try.underlying75
  have HB := Aside0.mk (Below.refl w.heap.size w)
  have H : ((impl_within.f a0_0 0 1).bind fun t1028 => (if t1028 = true then ((impl_within.f a0_1 0 15).bind fun t1029 => (some t1029)) else (some false))) = some r := h
  clear h
  replace H := Option.bind_eq_some_iff.mp H
  obtain ⟨t1028, A20, H⟩ := H
  replace H : (if t1028 = true then ((impl_within.f a0_1 0 15).bind fun t1029 => (some t1029)) else (some false)) = some r := H
  have A2 := Aside0.mk A20
  clear A20
  by_cases c3 : t1028 = true
  · subst c3
    have H1 : ((impl_within.f a0_1 0 15).bind fun t1029 => (some t1029)) = some r := by rw [if_pos rfl] at H; exact H
    clear H
    have H := H1
    clear H1
    replace H := Option.bind_eq_some_iff.mp H
    obtain ⟨t1029, A40, H⟩ := H
    replace H : (some t1029) = some r := H
    have A4 := Aside0.mk A40
    clear A40
    obtain rfl := Option.some.inj H
    go_enter Try.func94, Try.ntmps94
    go_wp2_with (first | ((with_reducible refine gate_dst (N := 1) rfl ?_); refine box_event ?hg (N := 1) ?hd (cs := #[.int .i64 a0_0, .int .i64 a0_1]) (t := 75) ?hr ?_; (case hd => rfl); (case hg => rfl); (case hr => first | (go_simp; done) | (go_simp; rfl)); intro gb1027 hg w5 hbox hb; have n0_ := Aside0.mk (below_step (by repeat (first | (with_reducible first | exact HB.out | apply below_alloc | apply pw_below_drewN | apply below_drew1) | exact HB.out)) hb); have n1_ := Aside0.mk (hbox); have n2_ := Aside0.mk ((by rw [hg]; exact (below_size (by repeat (first | (with_reducible first | exact HB.out | apply below_alloc | apply pw_below_drewN | apply below_drew1) | exact HB.out))) : w.heap.size ≤ gb1027)); have n3_ := Aside0.mk ((by rw [hg]; exact (below_size (by repeat (first | (with_reducible first | exact HB.out | apply below_alloc | apply pw_below_drewN | apply below_drew1) | exact HB.out))) : w.heap.size ≤ gb1027)); clear HB; have HB := n0_; have BK1027 := n1_; have GW1027 := n2_; have GE1027 := n3_; clear n0_ n1_ n2_ n3_; clear hb hbox hg; have hcz6_0 : w5.cell? ⟨gb1027, 0, none⟩ = some (.int .i64 a0_0) := (blk_cell BK1027.out 0).trans rfl; have hcz6_1 : w5.cell? ⟨gb1027, 1, none⟩ = some (.int .i64 a0_1) := (blk_cell BK1027.out 1).trans rfl; have hfz6_0 := blk_frozen BK1027.out 0; have hfz6_1 := blk_frozen BK1027.out 1) | ((with_reducible refine gate_callee (f := 80) rfl ?_); refine goesL_ (some 5) rfl rfl Try.func80 (by kernel_rfl) rfl #[.int .i64 a0_0, .int .i64 0, .int .i64 1] rfl (by (try simp only [List.map_toArray, List.map_cons, List.map_nil]); first | done | rfl | (simp only [List.length_drop, List.length_take]; rfl)) ?_; (with_reducible refine (impl_within.calls a0_0 0 1 true _ A2.out).mono ?_); rintro e w' ⟨rfl, ⟨nd, rfl⟩⟩; refine ⟨_, rfl, ?_⟩) | (go_at_call 80; (with_reducible refine (impl_within.calls a0_1 0 15 t1029 _ A4.out).mono ?_); rintro e w' ⟨rfl, ⟨nd, rfl⟩⟩))
    go_ret
    exact ⟨by first | rfl | (simp [errW_none, errW_some] <;> rfl) | (simp [*, errW_none, errW_some] <;> rfl), by repeat (first | (with_reducible first | exact HB.out | apply below_alloc | apply pw_below_drewN | apply below_drew1 | refine below_set ?_ GE1027.out) | exact HB.out)⟩
  · replace c3 := Bool.eq_false_iff.mpr c3
    subst c3
    have H1 : (some false) = some r := by rw [if_neg (show ¬ (false = true) by decide)] at H; exact H
    clear H
    have H := H1
    clear H1
    obtain rfl := Option.some.inj H
    go_enter Try.func94, Try.ntmps94
    go_wp2_with (first | ((with_reducible refine gate_dst (N := 1) rfl ?_); refine box_event ?hg (N := 1) ?hd (cs := #[.int .i64 a0_0, .int .i64 a0_1]) (t := 75) ?hr ?_; (case hd => rfl); (case hg => rfl); (case hr => first | (go_simp; done) | (go_simp; rfl)); intro gb1027 hg w7 hbox hb; have n0_ := Aside0.mk (below_step (by repeat (first | (with_reducible first | exact HB.out | apply below_alloc | apply pw_below_drewN | apply below_drew1) | exact HB.out)) hb); have n1_ := Aside0.mk (hbox); have n2_ := Aside0.mk ((by rw [hg]; exact (below_size (by repeat (first | (with_reducible first | exact HB.out | apply below_alloc | apply pw_below_drewN | apply below_drew1) | exact HB.out))) : w.heap.size ≤ gb1027)); have n3_ := Aside0.mk ((by rw [hg]; exact (below_size (by repeat (first | (with_reducible first | exact HB.out | apply below_alloc | apply pw_below_drewN | apply below_drew1) | exact HB.out))) : w.heap.size ≤ gb1027)); clear HB; have HB := n0_; have BK1027 := n1_; have GW1027 := n2_; have GE1027 := n3_; clear n0_ n1_ n2_ n3_; clear hb hbox hg; have hcz8_0 : w7.cell? ⟨gb1027, 0, none⟩ = some (.int .i64 a0_0) := (blk_cell BK1027.out 0).trans rfl; have hcz8_1 : w7.cell? ⟨gb1027, 1, none⟩ = some (.int .i64 a0_1) := (blk_cell BK1027.out 1).trans rfl; have hfz8_0 := blk_frozen BK1027.out 0; have hfz8_1 := blk_frozen BK1027.out 1) | ((with_reducible refine gate_callee (f := 80) rfl ?_); refine goesL_ (some 5) rfl rfl Try.func80 (by kernel_rfl) rfl #[.int .i64 a0_0, .int .i64 0, .int .i64 1] rfl (by (try simp only [List.map_toArray, List.map_cons, List.map_nil]); first | done | rfl | (simp only [List.length_drop, List.length_take]; rfl)) ?_; (with_reducible refine (impl_within.calls a0_0 0 1 false _ A2.out).mono ?_); rintro e w' ⟨rfl, ⟨nd, rfl⟩⟩; refine ⟨_, rfl, ?_⟩))
    go_ret
    exact ⟨by first | rfl | (simp [errW_none, errW_some] <;> rfl) | (simp [*, errW_none, errW_some] <;> rfl), by repeat (first | (with_reducible first | exact HB.out | apply below_alloc | apply pw_below_drewN | apply below_drew1 | refine below_set ?_ GE1027.out) | exact HB.out)⟩

/-! ### impl_BuildRing: function 59 -/
def impl_BuildRing.j0 : Nat → Bool → Int → Int → Int → Int → Int → Int → Int → Int → Int → Int → Int → Option (Int × Int × Int × Int × Int × Int × Int × Int × Int × Bool)
  | 0, _, _, _, _, _, _, _, _, _, _, _, _ => none
  | k + 1, x15, x1031000, x1031001, x1031002, x1031003, x1031004, x1031005, x1031006, x1031007, x1031008, x1032000, x1032001 => if x15 = true then (some (0, 0, 0, 0, 0, 0, 0, 0, 0, false)) else ((impl_Ring_turn.f x1032000 x1032001).bind fun bt1035 => ((impl_Pose_next.f x1031004 x1031005 x1031006 x1031007 bt1035.1 bt1035.2).bind fun bt1037 => ((impl_Machine_valid.f x1031000 x1031001 x1031002 x1031003 bt1037.1 bt1037.2.1 bt1037.2.2.1 bt1037.2.2.2 (wrap64 (x1031008 - 1500))).bind fun bt1041 => (some (bt1041.1, bt1041.2.1, bt1041.2.2.1, bt1041.2.2.2.1, bt1041.2.2.2.2.1, bt1041.2.2.2.2.2.1, bt1041.2.2.2.2.2.2.1, bt1041.2.2.2.2.2.2.2.1, bt1041.2.2.2.2.2.2.2.2.1, bt1041.2.2.2.2.2.2.2.2.2)))))
def impl_BuildRing.f (k : Nat) (a0_0 : Int) (a0_1 : Int) (a0_2 : Int) (a0_3 : Int) (a0_4 : Int) (a0_5 : Int) (a0_6 : Int) (a0_7 : Int) (a0_8 : Int) (a1_0 : Int) (a1_1 : Int) : Option (Int × Int × Int × Int × Int × Int × Int × Int × Int × Bool) := (impl_ValidMachine.f a0_0 a0_1 a0_2 a0_3 a0_4 a0_5 a0_6 a0_7 a0_8).bind fun t1033 => (if t1033 = true then ((impl_ValidRing.f a1_0 a1_1).bind fun t1034 => (impl_BuildRing.j0 k (!t1034) a0_0 a0_1 a0_2 a0_3 a0_4 a0_5 a0_6 a0_7 a0_8 a1_0 a1_1)) else (impl_BuildRing.j0 k true a0_0 a0_1 a0_2 a0_3 a0_4 a0_5 a0_6 a0_7 a0_8 a1_0 a1_1))
theorem impl_BuildRing.mono_l : ∀ k, (∀ y0 y1 y2 y3 y4 y5 y6 y7 y8 y9 y10 y11, LeO (impl_BuildRing.j0 k y0 y1 y2 y3 y4 y5 y6 y7 y8 y9 y10 y11) (impl_BuildRing.j0 (k + 1) y0 y1 y2 y3 y4 y5 y6 y7 y8 y9 y10 y11))
  | 0 => fun _ _ _ _ _ _ _ _ _ _ _ _ r h => by simp [impl_BuildRing.j0] at h
  | k + 1 => by
    have ih0 := impl_BuildRing.mono_l k
    · intro y0 y1 y2 y3 y4 y5 y6 y7 y8 y9 y10 y11
      unfold impl_BuildRing.j0
      repeat' first
      | (with_reducible exact ih0 _ _ _ _ _ _ _ _ _ _ _ _)
      | (with_reducible exact LeO.refl _)
      | (with_reducible exact LeO.none _)
      | (with_reducible refine LeO.ite ?_ ?_)
      | (with_reducible refine LeO.bind ?_ (fun _ => ?_))
      | exact ih0 _ _ _ _ _ _ _ _ _ _ _ _
      | exact LeO.none _
      | refine LeO.ite ?_ ?_
      | refine LeO.bind ?_ (fun _ => ?_)
theorem impl_BuildRing.mono : ∀ a0 a1 a2 a3 a4 a5 a6 a7 a8 a9 a10 k, LeO (impl_BuildRing.f k a0 a1 a2 a3 a4 a5 a6 a7 a8 a9 a10) (impl_BuildRing.f (k + 1) a0 a1 a2 a3 a4 a5 a6 a7 a8 a9 a10) := by
  intro a0 a1 a2 a3 a4 a5 a6 a7 a8 a9 a10 k
  have ih0 := impl_BuildRing.mono_l k
  unfold impl_BuildRing.f
  repeat' first
      | (with_reducible exact ih0 _ _ _ _ _ _ _ _ _ _ _ _)
      | (with_reducible exact LeO.refl _)
      | (with_reducible exact LeO.none _)
      | (with_reducible refine LeO.ite ?_ ?_)
      | (with_reducible refine LeO.bind ?_ (fun _ => ?_))
      | exact ih0 _ _ _ _ _ _ _ _ _ _ _ _
      | exact LeO.none _
      | refine LeO.ite ?_ ?_
      | refine LeO.bind ?_ (fun _ => ?_)
def impl_BuildRing.T4 : Bool × List (List Nat × List Nat) := (true, [([], []), ([0], [0]), ([], []), ([], []), ([1, 2, 3], [1, 2, 3]), ([], []), ([5], [5]), ([6], [6]), ([0, 1, 2, 3, 4, 5, 6], []), ([8, 4, 4, 0, 1, 2, 3, 4, 5, 6], [4, 8]), ([0, 1, 2, 3, 4, 5, 6, 7, 8, 9], []), ([10, 7, 9, 0, 1, 2, 3, 4, 5, 6, 7, 8, 9], [7, 10])])
def impl_BuildRing.B4 : List Nat := [0, 1, 0, 0, 15, 0, 32, 96, 127, 383, 1023, 2047]
theorem impl_BuildRing.tab4 : rtab .any (opsOf Try.f59 4) = impl_BuildRing.T4 := by kernel_rfl
theorem impl_BuildRing.bits4 : waitsOk impl_BuildRing.T4.2 impl_BuildRing.B4 = true := by kernel_rfl
set_option maxHeartbeats 8000000 in
set_option maxRecDepth 100000 in
theorem impl_BuildRing.calls (k : Nat) (a0_0 : Int) (a0_1 : Int) (a0_2 : Int) (a0_3 : Int) (a0_4 : Int) (a0_5 : Int) (a0_6 : Int) (a0_7 : Int) (a0_8 : Int) (a1_0 : Int) (a1_1 : Int) (r1 : Int) (r2 : Int) (r3 : Int) (r4 : Int) (r5 : Int) (r6 : Int) (r7 : Int) (r8 : Int) (r9 : Int) (r10 : Bool) (w : World) (h : impl_BuildRing.f k a0_0 a0_1 a0_2 a0_3 a0_4 a0_5 a0_6 a0_7 a0_8 a1_0 a1_1 = some (r1, r2, r3, r4, r5, r6, r7, r8, r9, r10)) :
    Calls Try.prog 59 #[.agg #[.int .i64 a0_0, .int .i64 a0_1, .int .i64 a0_2, .int .i64 a0_3, .int .i64 a0_4, .int .i64 a0_5, .int .i64 a0_6, .int .i64 a0_7, .int .i64 a0_8], .agg #[.int .i64 a1_0, .int .i64 a1_1]] w fun e w' => e = .returned (.tuple #[.agg #[.int .i64 r1, .int .i64 r2, .int .i64 r3, .int .i64 r4, .int .i64 r5, .int .i64 r6, .int .i64 r7, .int .i64 r8, .int .i64 r9], .bool r10]) ∧ Below w.heap.size w w' := by
  have hu58 := Try.underlying58
  have hu75 := Try.underlying75
  have hu25 := Try.underlying25
  have HB := Aside0.mk (Below.refl w.heap.size w)
  have H : ((impl_ValidMachine.f a0_0 a0_1 a0_2 a0_3 a0_4 a0_5 a0_6 a0_7 a0_8).bind fun t1033 => (if t1033 = true then ((impl_ValidRing.f a1_0 a1_1).bind fun t1034 => (impl_BuildRing.j0 k (!t1034) a0_0 a0_1 a0_2 a0_3 a0_4 a0_5 a0_6 a0_7 a0_8 a1_0 a1_1)) else (impl_BuildRing.j0 k true a0_0 a0_1 a0_2 a0_3 a0_4 a0_5 a0_6 a0_7 a0_8 a1_0 a1_1))) = some (r1, r2, r3, r4, r5, r6, r7, r8, r9, r10) := h
  clear h
  have HC3 := Aside0.mk H
  clear H
  go_enter Try.func59, Try.ntmps59
  go_upto_region 1 with (first | ((with_reducible refine gate_dst (N := 2) rfl ?_); refine box_event ?hg (N := 2) ?hd (cs := #[.int .i64 a0_0, .int .i64 a0_1, .int .i64 a0_2, .int .i64 a0_3, .int .i64 a0_4, .int .i64 a0_5, .int .i64 a0_6, .int .i64 a0_7, .int .i64 a0_8]) (t := 58) ?hr ?_; (case hd => rfl); (case hg => rfl); (case hr => first | (go_simp; done) | (go_simp; rfl)); intro gb1030 hg w4 hbox hb; have n0_ := Aside0.mk (below_step (by repeat (first | (with_reducible first | exact HB.out | apply below_alloc | apply pw_below_drewN | apply below_drew1) | exact HB.out)) hb); have n1_ := Aside0.mk (hbox); have n2_ := Aside0.mk ((by rw [hg]; exact (below_size (by repeat (first | (with_reducible first | exact HB.out | apply below_alloc | apply pw_below_drewN | apply below_drew1) | exact HB.out))) : w.heap.size ≤ gb1030)); have n3_ := Aside0.mk ((by rw [hg]; exact (below_size (by repeat (first | (with_reducible first | exact HB.out | apply below_alloc | apply pw_below_drewN | apply below_drew1) | exact HB.out))) : w.heap.size ≤ gb1030)); clear HB; have HB := n0_; have BK1030 := n1_; have GW1030 := n2_; have GE1030 := n3_; clear n0_ n1_ n2_ n3_; clear hb hbox hg) | ((with_reducible refine gate_dst (N := 3) rfl ?_); refine box_event ?hg (N := 3) ?hd (cs := #[.int .i64 a1_0, .int .i64 a1_1]) (t := 75) ?hr ?_; (case hd => rfl); (case hg => rfl); (case hr => first | (go_simp; done) | (go_simp; rfl)); intro gb1031 hg w5 hbox hb; have n0_ := Aside0.mk (blk_below (g := gb1030) (o := .cells #[.int .i64 a0_0, .int .i64 a0_1, .int .i64 a0_2, .int .i64 a0_3, .int .i64 a0_4, .int .i64 a0_5, .int .i64 a0_6, .int .i64 a0_7, .int .i64 a0_8] 58 (0, 0)) (by (with_reducible repeat (first | refine blk_drewN ?_ _ | refine blk_drew ?_ | refine blk_alloc ?_ _)); exact BK1030.out) hb); have n1_ := Aside0.mk (below_step (by repeat (first | (with_reducible first | exact HB.out | apply below_alloc | apply pw_below_drewN | apply below_drew1 | refine below_set ?_ GE1030.out) | exact HB.out)) hb); have n2_ := Aside0.mk (hbox); have n3_ := Aside0.mk ((by rw [hg]; exact (below_size (by repeat (first | (with_reducible first | exact HB.out | apply below_alloc | apply pw_below_drewN | apply below_drew1 | refine below_set ?_ GE1030.out) | exact HB.out))) : w.heap.size ≤ gb1031)); have n4_ := Aside0.mk ((by rw [hg]; exact (below_size (by repeat (first | (with_reducible first | exact HB.out | apply below_alloc | apply pw_below_drewN | apply below_drew1 | refine below_set ?_ GE1030.out) | exact HB.out))) : w.heap.size ≤ gb1031)); have n5_ := Aside0.mk ((by rw [hg]; exact Nat.ne_of_lt (blk_lt (g := gb1030) (o := .cells #[.int .i64 a0_0, .int .i64 a0_1, .int .i64 a0_2, .int .i64 a0_3, .int .i64 a0_4, .int .i64 a0_5, .int .i64 a0_6, .int .i64 a0_7, .int .i64 a0_8] 58 (0, 0)) (by (with_reducible repeat (first | refine blk_drewN ?_ _ | refine blk_drew ?_ | refine blk_alloc ?_ _)); exact BK1030.out)) : gb1030 ≠ gb1031)); have n6_ := Aside0.mk ((by rw [hg]; exact Nat.ne_of_gt (blk_lt (g := gb1030) (o := .cells #[.int .i64 a0_0, .int .i64 a0_1, .int .i64 a0_2, .int .i64 a0_3, .int .i64 a0_4, .int .i64 a0_5, .int .i64 a0_6, .int .i64 a0_7, .int .i64 a0_8] 58 (0, 0)) (by (with_reducible repeat (first | refine blk_drewN ?_ _ | refine blk_drew ?_ | refine blk_alloc ?_ _)); exact BK1030.out)) : gb1031 ≠ gb1030)); clear BK1030; clear HB; have BK1030 := n0_; have HB := n1_; have BK1031 := n2_; have GW1031 := n3_; have GE1031 := n4_; have NB1030_1031 := n5_; have NB1031_1030 := n6_; clear n0_ n1_ n2_ n3_ n4_ n5_ n6_; clear hb hbox hg) | ((with_reducible refine gate_dst (N := 4) rfl ?_); refine box_event ?hg (N := 4) ?hd (cs := #[.int .i64 0, .int .i64 0, .int .i64 0, .int .i64 0, .int .i64 0, .int .i64 0, .int .i64 0, .int .i64 0, .int .i64 0]) (t := 58) ?hr ?_; (case hd => rfl); (case hg => rfl); (case hr => first | (go_simp; done) | (go_simp; rfl)); intro gb1032 hg w6 hbox hb; have n0_ := Aside0.mk (blk_below (g := gb1030) (o := .cells #[.int .i64 a0_0, .int .i64 a0_1, .int .i64 a0_2, .int .i64 a0_3, .int .i64 a0_4, .int .i64 a0_5, .int .i64 a0_6, .int .i64 a0_7, .int .i64 a0_8] 58 (0, 0)) (by (with_reducible repeat (first | refine blk_drewN ?_ _ | refine blk_drew ?_ | refine blk_alloc ?_ _)); exact BK1030.out) hb); have n1_ := Aside0.mk (blk_below (g := gb1031) (o := .cells #[.int .i64 a1_0, .int .i64 a1_1] 75 (0, 0)) (by (with_reducible repeat (first | refine blk_drewN ?_ _ | refine blk_drew ?_ | refine blk_alloc ?_ _)); exact BK1031.out) hb); have n2_ := Aside0.mk (below_step (by repeat (first | (with_reducible first | exact HB.out | apply below_alloc | apply pw_below_drewN | apply below_drew1 | refine below_set ?_ GE1030.out | refine below_set ?_ GE1031.out) | exact HB.out)) hb); have n3_ := Aside0.mk (hbox); have n4_ := Aside0.mk ((by rw [hg]; exact (below_size (by repeat (first | (with_reducible first | exact HB.out | apply below_alloc | apply pw_below_drewN | apply below_drew1 | refine below_set ?_ GE1030.out | refine below_set ?_ GE1031.out) | exact HB.out))) : w.heap.size ≤ gb1032)); have n5_ := Aside0.mk ((by rw [hg]; exact (below_size (by repeat (first | (with_reducible first | exact HB.out | apply below_alloc | apply pw_below_drewN | apply below_drew1 | refine below_set ?_ GE1030.out | refine below_set ?_ GE1031.out) | exact HB.out))) : w.heap.size ≤ gb1032)); have n6_ := Aside0.mk ((by rw [hg]; exact Nat.ne_of_lt (blk_lt (g := gb1030) (o := .cells #[.int .i64 a0_0, .int .i64 a0_1, .int .i64 a0_2, .int .i64 a0_3, .int .i64 a0_4, .int .i64 a0_5, .int .i64 a0_6, .int .i64 a0_7, .int .i64 a0_8] 58 (0, 0)) (by (with_reducible repeat (first | refine blk_drewN ?_ _ | refine blk_drew ?_ | refine blk_alloc ?_ _)); exact BK1030.out)) : gb1030 ≠ gb1032)); have n7_ := Aside0.mk ((by rw [hg]; exact Nat.ne_of_gt (blk_lt (g := gb1030) (o := .cells #[.int .i64 a0_0, .int .i64 a0_1, .int .i64 a0_2, .int .i64 a0_3, .int .i64 a0_4, .int .i64 a0_5, .int .i64 a0_6, .int .i64 a0_7, .int .i64 a0_8] 58 (0, 0)) (by (with_reducible repeat (first | refine blk_drewN ?_ _ | refine blk_drew ?_ | refine blk_alloc ?_ _)); exact BK1030.out)) : gb1032 ≠ gb1030)); have n8_ := Aside0.mk ((by rw [hg]; exact Nat.ne_of_lt (blk_lt (g := gb1031) (o := .cells #[.int .i64 a1_0, .int .i64 a1_1] 75 (0, 0)) (by (with_reducible repeat (first | refine blk_drewN ?_ _ | refine blk_drew ?_ | refine blk_alloc ?_ _)); exact BK1031.out)) : gb1031 ≠ gb1032)); have n9_ := Aside0.mk ((by rw [hg]; exact Nat.ne_of_gt (blk_lt (g := gb1031) (o := .cells #[.int .i64 a1_0, .int .i64 a1_1] 75 (0, 0)) (by (with_reducible repeat (first | refine blk_drewN ?_ _ | refine blk_drew ?_ | refine blk_alloc ?_ _)); exact BK1031.out)) : gb1032 ≠ gb1031)); clear BK1030; clear BK1031; clear HB; have BK1030 := n0_; have BK1031 := n1_; have HB := n2_; have BK1032 := n3_; have GW1032 := n4_; have GE1032 := n5_; have NB1030_1032 := n6_; have NB1032_1030 := n7_; have NB1031_1032 := n8_; have NB1032_1031 := n9_; clear n0_ n1_ n2_ n3_ n4_ n5_ n6_ n7_ n8_ n9_; clear hb hbox hg))
  (try simp only [Act.put, List.setIfInBounds_toArray, List.set_cons_zero, List.set_cons_succ])
  go_cut [15] (fun v15 wc => ∃ (kq : Nat) (x15_2 : Bool), v15 = .bool x15_2 ∧ Aside0 (impl_BuildRing.j0 kq x15_2 a0_0 a0_1 a0_2 a0_3 a0_4 a0_5 a0_6 a0_7 a0_8 a1_0 a1_1 = some (r1, r2, r3, r4, r5, r6, r7, r8, r9, r10)) ∧ Aside0 (kq ≤ k) ∧ Aside0 (wc.heap[gb1030]? = some (.cells #[.int .i64 a0_0, .int .i64 a0_1, .int .i64 a0_2, .int .i64 a0_3, .int .i64 a0_4, .int .i64 a0_5, .int .i64 a0_6, .int .i64 a0_7, .int .i64 a0_8] 58 (0, 0))) ∧ Aside0 (wc.heap[gb1031]? = some (.cells #[.int .i64 a1_0, .int .i64 a1_1] 75 (0, 0))) ∧ Aside0 (wc.heap[gb1032]? = some (.cells #[.int .i64 0, .int .i64 0, .int .i64 0, .int .i64 0, .int .i64 0, .int .i64 0, .int .i64 0, .int .i64 0, .int .i64 0] 58 (0, 0))) ∧ Aside0 (Below w.heap.size w wc))
  case first =>
    have H := HC3.out
    clear HC3
    replace H := Option.bind_eq_some_iff.mp H
    obtain ⟨t1033, A70, H⟩ := H
    replace H : (if t1033 = true then ((impl_ValidRing.f a1_0 a1_1).bind fun t1034 => (impl_BuildRing.j0 k (!t1034) a0_0 a0_1 a0_2 a0_3 a0_4 a0_5 a0_6 a0_7 a0_8 a1_0 a1_1)) else (impl_BuildRing.j0 k true a0_0 a0_1 a0_2 a0_3 a0_4 a0_5 a0_6 a0_7 a0_8 a1_0 a1_1)) = some (r1, r2, r3, r4, r5, r6, r7, r8, r9, r10) := H
    have A7 := Aside0.mk A70
    clear A70
    by_cases c8 : t1033 = true
    · subst c8
      have H1 : ((impl_ValidRing.f a1_0 a1_1).bind fun t1034 => (impl_BuildRing.j0 k (!t1034) a0_0 a0_1 a0_2 a0_3 a0_4 a0_5 a0_6 a0_7 a0_8 a1_0 a1_1)) = some (r1, r2, r3, r4, r5, r6, r7, r8, r9, r10) := by rw [if_pos rfl] at H; exact H
      clear H
      have H := H1
      clear H1
      replace H := Option.bind_eq_some_iff.mp H
      obtain ⟨t1034, A90, H⟩ := H
      replace H : (impl_BuildRing.j0 k (!t1034) a0_0 a0_1 a0_2 a0_3 a0_4 a0_5 a0_6 a0_7 a0_8 a1_0 a1_1) = some (r1, r2, r3, r4, r5, r6, r7, r8, r9, r10) := H
      have A9 := Aside0.mk A90
      clear A90
      have H' := Aside0.mk H
      clear H
      have hnb10 := NB1030_1031.out
      have hnc10 := NB1031_1030.out
      have hnb11 := NB1030_1032.out
      have hnc11 := NB1032_1030.out
      have hcz12_0 : w6.cell? ⟨gb1030, 0, none⟩ = some (.int .i64 a0_0) := (blk_cell BK1030.out 0).trans rfl
      have hcz12_1 : w6.cell? ⟨gb1030, 1, none⟩ = some (.int .i64 a0_1) := (blk_cell BK1030.out 1).trans rfl
      have hcz12_2 : w6.cell? ⟨gb1030, 2, none⟩ = some (.int .i64 a0_2) := (blk_cell BK1030.out 2).trans rfl
      have hcz12_3 : w6.cell? ⟨gb1030, 3, none⟩ = some (.int .i64 a0_3) := (blk_cell BK1030.out 3).trans rfl
      have hcz12_4 : w6.cell? ⟨gb1030, 4, none⟩ = some (.int .i64 a0_4) := (blk_cell BK1030.out 4).trans rfl
      have hcz12_5 : w6.cell? ⟨gb1030, 5, none⟩ = some (.int .i64 a0_5) := (blk_cell BK1030.out 5).trans rfl
      have hcz12_6 : w6.cell? ⟨gb1030, 6, none⟩ = some (.int .i64 a0_6) := (blk_cell BK1030.out 6).trans rfl
      have hcz12_7 : w6.cell? ⟨gb1030, 7, none⟩ = some (.int .i64 a0_7) := (blk_cell BK1030.out 7).trans rfl
      have hcz12_8 : w6.cell? ⟨gb1030, 8, none⟩ = some (.int .i64 a0_8) := (blk_cell BK1030.out 8).trans rfl
      have hfz12_0 := blk_frozen BK1030.out 0
      have hfz12_1 := blk_frozen BK1030.out 1
      have hfz12_2 := blk_frozen BK1030.out 2
      have hfz12_3 := blk_frozen BK1030.out 3
      have hfz12_4 := blk_frozen BK1030.out 4
      have hfz12_5 := blk_frozen BK1030.out 5
      have hfz12_6 := blk_frozen BK1030.out 6
      have hfz12_7 := blk_frozen BK1030.out 7
      have hfz12_8 := blk_frozen BK1030.out 8
      go_wp2_with (first | ((with_reducible refine gate_callee (f := 39) rfl ?_); refine goesL_ (some 9) rfl rfl Try.func39 (by kernel_rfl) rfl #[.agg #[.int .i64 a0_0, .int .i64 a0_1, .int .i64 a0_2, .int .i64 a0_3, .int .i64 a0_4, .int .i64 a0_5, .int .i64 a0_6, .int .i64 a0_7, .int .i64 a0_8]] rfl (by (try simp only [List.map_toArray, List.map_cons, List.map_nil]); first | done | rfl | (simp only [List.length_drop, List.length_take]; rfl)) ?_; (with_reducible refine (impl_ValidMachine.calls a0_0 a0_1 a0_2 a0_3 a0_4 a0_5 a0_6 a0_7 a0_8 true _ A7.out).mono ?_); rintro e w13 ⟨rfl, hb⟩; refine ⟨_, rfl, ?_⟩; have n0_ := Aside0.mk (blk_below (g := gb1030) (o := .cells #[.int .i64 a0_0, .int .i64 a0_1, .int .i64 a0_2, .int .i64 a0_3, .int .i64 a0_4, .int .i64 a0_5, .int .i64 a0_6, .int .i64 a0_7, .int .i64 a0_8] 58 (0, 0)) (by (with_reducible repeat (first | refine blk_drewN ?_ _ | refine blk_drew ?_ | refine blk_alloc ?_ _)); exact BK1030.out) hb); have n1_ := Aside0.mk (blk_below (g := gb1031) (o := .cells #[.int .i64 a1_0, .int .i64 a1_1] 75 (0, 0)) (by (with_reducible repeat (first | refine blk_drewN ?_ _ | refine blk_drew ?_ | refine blk_alloc ?_ _)); exact BK1031.out) hb); have n2_ := Aside0.mk (blk_below (g := gb1032) (o := .cells #[.int .i64 0, .int .i64 0, .int .i64 0, .int .i64 0, .int .i64 0, .int .i64 0, .int .i64 0, .int .i64 0, .int .i64 0] 58 (0, 0)) (by (with_reducible repeat (first | refine blk_drewN ?_ _ | refine blk_drew ?_ | refine blk_alloc ?_ _)); exact BK1032.out) hb); have n3_ := Aside0.mk (below_step (by repeat (first | (with_reducible first | exact HB.out | apply below_alloc | apply pw_below_drewN | apply below_drew1 | refine below_set ?_ GE1030.out | refine below_set ?_ GE1031.out | refine below_set ?_ GE1032.out) | exact HB.out)) hb); clear BK1030; clear BK1031; clear BK1032; clear HB; have BK1030 := n0_; have BK1031 := n1_; have BK1032 := n2_; have HB := n3_; clear n0_ n1_ n2_ n3_; (try clear hb); (try clear hb2); (try clear hk); (try clear hi); have hnb14 := NB1031_1032.out; have hnc14 := NB1032_1031.out; have hcz15_0 : w13.cell? ⟨gb1031, 0, none⟩ = some (.int .i64 a1_0) := (blk_cell BK1031.out 0).trans rfl; have hcz15_1 : w13.cell? ⟨gb1031, 1, none⟩ = some (.int .i64 a1_1) := (blk_cell BK1031.out 1).trans rfl; have hfz15_0 := blk_frozen BK1031.out 0; have hfz15_1 := blk_frozen BK1031.out 1) | (go_at_call 94; (with_reducible refine (impl_ValidRing.calls a1_0 a1_1 t1034 _ A9.out).mono ?_); rintro e w16 ⟨rfl, hb⟩; have n0_ := Aside0.mk (blk_below (g := gb1030) (o := .cells #[.int .i64 a0_0, .int .i64 a0_1, .int .i64 a0_2, .int .i64 a0_3, .int .i64 a0_4, .int .i64 a0_5, .int .i64 a0_6, .int .i64 a0_7, .int .i64 a0_8] 58 (0, 0)) (by (with_reducible repeat (first | refine blk_drewN ?_ _ | refine blk_drew ?_ | refine blk_alloc ?_ _)); exact BK1030.out) hb); have n1_ := Aside0.mk (blk_below (g := gb1031) (o := .cells #[.int .i64 a1_0, .int .i64 a1_1] 75 (0, 0)) (by (with_reducible repeat (first | refine blk_drewN ?_ _ | refine blk_drew ?_ | refine blk_alloc ?_ _)); exact BK1031.out) hb); have n2_ := Aside0.mk (blk_below (g := gb1032) (o := .cells #[.int .i64 0, .int .i64 0, .int .i64 0, .int .i64 0, .int .i64 0, .int .i64 0, .int .i64 0, .int .i64 0, .int .i64 0] 58 (0, 0)) (by (with_reducible repeat (first | refine blk_drewN ?_ _ | refine blk_drew ?_ | refine blk_alloc ?_ _)); exact BK1032.out) hb); have n3_ := Aside0.mk (below_step (by repeat (first | (with_reducible first | exact HB.out | apply below_alloc | apply pw_below_drewN | apply below_drew1 | refine below_set ?_ GE1030.out | refine below_set ?_ GE1031.out | refine below_set ?_ GE1032.out) | exact HB.out)) hb); clear BK1030; clear BK1031; clear BK1032; clear HB; have BK1030 := n0_; have BK1031 := n1_; have BK1032 := n2_; have HB := n3_; clear n0_ n1_ n2_ n3_; (try clear hb); (try clear hb2); (try clear hk); (try clear hi)))
      go_meet
      case rel => exact ⟨_, (!t1034), (by first | rfl | (simp; done) | (simp [*]; done)), H', ⟨by first | omega | exact Nat.le_refl _⟩, ⟨by (with_reducible repeat (first | refine blk_drewN ?_ _ | refine blk_drew ?_ | refine blk_alloc ?_ _)); exact BK1030.out⟩, ⟨by (with_reducible repeat (first | refine blk_drewN ?_ _ | refine blk_drew ?_ | refine blk_alloc ?_ _)); exact BK1031.out⟩, ⟨by (with_reducible repeat (first | refine blk_drewN ?_ _ | refine blk_drew ?_ | refine blk_alloc ?_ _)); exact BK1032.out⟩, ⟨by repeat (first | (with_reducible first | exact HB.out | apply below_alloc | apply pw_below_drewN | apply below_drew1 | refine below_set ?_ GE1030.out | refine below_set ?_ GE1031.out | refine below_set ?_ GE1032.out) | exact HB.out)⟩⟩
    · replace c8 := Bool.eq_false_iff.mpr c8
      subst c8
      have H1 : (impl_BuildRing.j0 k true a0_0 a0_1 a0_2 a0_3 a0_4 a0_5 a0_6 a0_7 a0_8 a1_0 a1_1) = some (r1, r2, r3, r4, r5, r6, r7, r8, r9, r10) := by rw [if_neg (show ¬ (false = true) by decide)] at H; exact H
      clear H
      have H := H1
      clear H1
      have H' := Aside0.mk H
      clear H
      have hnb17 := NB1030_1031.out
      have hnc17 := NB1031_1030.out
      have hnb18 := NB1030_1032.out
      have hnc18 := NB1032_1030.out
      have hcz19_0 : w6.cell? ⟨gb1030, 0, none⟩ = some (.int .i64 a0_0) := (blk_cell BK1030.out 0).trans rfl
      have hcz19_1 : w6.cell? ⟨gb1030, 1, none⟩ = some (.int .i64 a0_1) := (blk_cell BK1030.out 1).trans rfl
      have hcz19_2 : w6.cell? ⟨gb1030, 2, none⟩ = some (.int .i64 a0_2) := (blk_cell BK1030.out 2).trans rfl
      have hcz19_3 : w6.cell? ⟨gb1030, 3, none⟩ = some (.int .i64 a0_3) := (blk_cell BK1030.out 3).trans rfl
      have hcz19_4 : w6.cell? ⟨gb1030, 4, none⟩ = some (.int .i64 a0_4) := (blk_cell BK1030.out 4).trans rfl
      have hcz19_5 : w6.cell? ⟨gb1030, 5, none⟩ = some (.int .i64 a0_5) := (blk_cell BK1030.out 5).trans rfl
      have hcz19_6 : w6.cell? ⟨gb1030, 6, none⟩ = some (.int .i64 a0_6) := (blk_cell BK1030.out 6).trans rfl
      have hcz19_7 : w6.cell? ⟨gb1030, 7, none⟩ = some (.int .i64 a0_7) := (blk_cell BK1030.out 7).trans rfl
      have hcz19_8 : w6.cell? ⟨gb1030, 8, none⟩ = some (.int .i64 a0_8) := (blk_cell BK1030.out 8).trans rfl
      have hfz19_0 := blk_frozen BK1030.out 0
      have hfz19_1 := blk_frozen BK1030.out 1
      have hfz19_2 := blk_frozen BK1030.out 2
      have hfz19_3 := blk_frozen BK1030.out 3
      have hfz19_4 := blk_frozen BK1030.out 4
      have hfz19_5 := blk_frozen BK1030.out 5
      have hfz19_6 := blk_frozen BK1030.out 6
      have hfz19_7 := blk_frozen BK1030.out 7
      have hfz19_8 := blk_frozen BK1030.out 8
      go_wp2_with (first | ((with_reducible refine gate_callee (f := 39) rfl ?_); refine goesL_ (some 9) rfl rfl Try.func39 (by kernel_rfl) rfl #[.agg #[.int .i64 a0_0, .int .i64 a0_1, .int .i64 a0_2, .int .i64 a0_3, .int .i64 a0_4, .int .i64 a0_5, .int .i64 a0_6, .int .i64 a0_7, .int .i64 a0_8]] rfl (by (try simp only [List.map_toArray, List.map_cons, List.map_nil]); first | done | rfl | (simp only [List.length_drop, List.length_take]; rfl)) ?_; (with_reducible refine (impl_ValidMachine.calls a0_0 a0_1 a0_2 a0_3 a0_4 a0_5 a0_6 a0_7 a0_8 false _ A7.out).mono ?_); rintro e w20 ⟨rfl, hb⟩; refine ⟨_, rfl, ?_⟩; have n0_ := Aside0.mk (blk_below (g := gb1030) (o := .cells #[.int .i64 a0_0, .int .i64 a0_1, .int .i64 a0_2, .int .i64 a0_3, .int .i64 a0_4, .int .i64 a0_5, .int .i64 a0_6, .int .i64 a0_7, .int .i64 a0_8] 58 (0, 0)) (by (with_reducible repeat (first | refine blk_drewN ?_ _ | refine blk_drew ?_ | refine blk_alloc ?_ _)); exact BK1030.out) hb); have n1_ := Aside0.mk (blk_below (g := gb1031) (o := .cells #[.int .i64 a1_0, .int .i64 a1_1] 75 (0, 0)) (by (with_reducible repeat (first | refine blk_drewN ?_ _ | refine blk_drew ?_ | refine blk_alloc ?_ _)); exact BK1031.out) hb); have n2_ := Aside0.mk (blk_below (g := gb1032) (o := .cells #[.int .i64 0, .int .i64 0, .int .i64 0, .int .i64 0, .int .i64 0, .int .i64 0, .int .i64 0, .int .i64 0, .int .i64 0] 58 (0, 0)) (by (with_reducible repeat (first | refine blk_drewN ?_ _ | refine blk_drew ?_ | refine blk_alloc ?_ _)); exact BK1032.out) hb); have n3_ := Aside0.mk (below_step (by repeat (first | (with_reducible first | exact HB.out | apply below_alloc | apply pw_below_drewN | apply below_drew1 | refine below_set ?_ GE1030.out | refine below_set ?_ GE1031.out | refine below_set ?_ GE1032.out) | exact HB.out)) hb); clear BK1030; clear BK1031; clear BK1032; clear HB; have BK1030 := n0_; have BK1031 := n1_; have BK1032 := n2_; have HB := n3_; clear n0_ n1_ n2_ n3_; (try clear hb); (try clear hb2); (try clear hk); (try clear hi)))
      go_meet
      case rel => exact ⟨_, (true), (by first | rfl | (simp; done) | (simp [*]; done)), H', ⟨by first | omega | exact Nat.le_refl _⟩, ⟨by (with_reducible repeat (first | refine blk_drewN ?_ _ | refine blk_drew ?_ | refine blk_alloc ?_ _)); exact BK1030.out⟩, ⟨by (with_reducible repeat (first | refine blk_drewN ?_ _ | refine blk_drew ?_ | refine blk_alloc ?_ _)); exact BK1031.out⟩, ⟨by (with_reducible repeat (first | refine blk_drewN ?_ _ | refine blk_drew ?_ | refine blk_alloc ?_ _)); exact BK1032.out⟩, ⟨by repeat (first | (with_reducible first | exact HB.out | apply below_alloc | apply pw_below_drewN | apply below_drew1 | refine below_set ?_ GE1030.out | refine below_set ?_ GE1031.out | refine below_set ?_ GE1032.out) | exact HB.out)⟩⟩
  case rest =>
    clear HC3
    try clear c1
    try clear p2
    try clear c3
    try clear c5
    try clear c8
    try clear c10
    try clear c11
    try clear c14
    try clear c17
    try clear c18
    try clear hcz12_0
    try clear hcz12_1
    try clear hcz12_2
    try clear hcz12_3
    try clear hcz12_4
    try clear hcz12_5
    try clear hcz12_6
    try clear hcz12_7
    try clear hcz12_8
    try clear hcz15_0
    try clear hcz15_1
    try clear hcz19_0
    try clear hcz19_1
    try clear hcz19_2
    try clear hcz19_3
    try clear hcz19_4
    try clear hcz19_5
    try clear hcz19_6
    try clear hcz19_7
    try clear hcz19_8
    try clear hfz12_0
    try clear hfz12_1
    try clear hfz12_2
    try clear hfz12_3
    try clear hfz12_4
    try clear hfz12_5
    try clear hfz12_6
    try clear hfz12_7
    try clear hfz12_8
    try clear hfz15_0
    try clear hfz15_1
    try clear hfz19_0
    try clear hfz19_1
    try clear hfz19_2
    try clear hfz19_3
    try clear hfz19_4
    try clear hfz19_5
    try clear hfz19_6
    try clear hfz19_7
    try clear hfz19_8
    obtain ⟨kq, x15_2, rfl, HA, HJ2, BK1030, BK1031, BK1032, HB⟩ := hcut
    cases kq with
    | zero => exact absurd HA.out (by simp [impl_BuildRing.j0])
    | succ kj2 =>
      have H := HA.out
      clear HA
      simp only [impl_BuildRing.j0] at H
      by_cases c21 : x15_2 = true
      · subst c21
        have H1 : (some (0, 0, 0, 0, 0, 0, 0, 0, 0, false)) = some (r1, r2, r3, r4, r5, r6, r7, r8, r9, r10) := by rw [if_pos rfl] at H; exact H
        clear H
        have H := H1
        clear H1
        simp only [Option.some.injEq, Prod.mk.injEq] at H
        obtain ⟨rfl, rfl, rfl, rfl, rfl, rfl, rfl, rfl, rfl, rfl⟩ := H
        have hnb22 := NB1032_1030.out
        have hnc22 := NB1030_1032.out
        have hnb23 := NB1032_1031.out
        have hnc23 := NB1031_1032.out
        have hcz24_0 : wc.cell? ⟨gb1032, 0, none⟩ = some (.int .i64 0) := (blk_cell BK1032.out 0).trans rfl
        have hcz24_1 : wc.cell? ⟨gb1032, 1, none⟩ = some (.int .i64 0) := (blk_cell BK1032.out 1).trans rfl
        have hcz24_2 : wc.cell? ⟨gb1032, 2, none⟩ = some (.int .i64 0) := (blk_cell BK1032.out 2).trans rfl
        have hcz24_3 : wc.cell? ⟨gb1032, 3, none⟩ = some (.int .i64 0) := (blk_cell BK1032.out 3).trans rfl
        have hcz24_4 : wc.cell? ⟨gb1032, 4, none⟩ = some (.int .i64 0) := (blk_cell BK1032.out 4).trans rfl
        have hcz24_5 : wc.cell? ⟨gb1032, 5, none⟩ = some (.int .i64 0) := (blk_cell BK1032.out 5).trans rfl
        have hcz24_6 : wc.cell? ⟨gb1032, 6, none⟩ = some (.int .i64 0) := (blk_cell BK1032.out 6).trans rfl
        have hcz24_7 : wc.cell? ⟨gb1032, 7, none⟩ = some (.int .i64 0) := (blk_cell BK1032.out 7).trans rfl
        have hcz24_8 : wc.cell? ⟨gb1032, 8, none⟩ = some (.int .i64 0) := (blk_cell BK1032.out 8).trans rfl
        have hfz24_0 := blk_frozen BK1032.out 0
        have hfz24_1 := blk_frozen BK1032.out 1
        have hfz24_2 := blk_frozen BK1032.out 2
        have hfz24_3 := blk_frozen BK1032.out 3
        have hfz24_4 := blk_frozen BK1032.out 4
        have hfz24_5 := blk_frozen BK1032.out 5
        have hfz24_6 := blk_frozen BK1032.out 6
        have hfz24_7 := blk_frozen BK1032.out 7
        have hfz24_8 := blk_frozen BK1032.out 8
        go_wp2
        refine bodyPost_ret (results_ct rfl _ _ gb1032 58 #[.int .i64 0, .int .i64 0, .int .i64 0, .int .i64 0, .int .i64 0, .int .i64 0, .int .i64 0, .int .i64 0, .int .i64 0] (0, 0) _ rfl (by (with_reducible repeat (first | refine blk_drewN ?_ _ | refine blk_drew ?_ | refine blk_alloc ?_ _)); refine blk_put (cs := #[.int .i64 0, .int .i64 0, .int .i64 0, .int .i64 0, .int .i64 0, .int .i64 0, .int .i64 0, .int .i64 0, .int .i64 0]) ?_ 8 _ rfl; (with_reducible repeat (first | refine blk_drewN ?_ _ | refine blk_drew ?_ | refine blk_alloc ?_ _)); refine blk_put (cs := #[.int .i64 0, .int .i64 0, .int .i64 0, .int .i64 0, .int .i64 0, .int .i64 0, .int .i64 0, .int .i64 0, .int .i64 0]) ?_ 7 _ rfl; (with_reducible repeat (first | refine blk_drewN ?_ _ | refine blk_drew ?_ | refine blk_alloc ?_ _)); refine blk_put (cs := #[.int .i64 0, .int .i64 0, .int .i64 0, .int .i64 0, .int .i64 0, .int .i64 0, .int .i64 0, .int .i64 0, .int .i64 0]) ?_ 6 _ rfl; (with_reducible repeat (first | refine blk_drewN ?_ _ | refine blk_drew ?_ | refine blk_alloc ?_ _)); refine blk_put (cs := #[.int .i64 0, .int .i64 0, .int .i64 0, .int .i64 0, .int .i64 0, .int .i64 0, .int .i64 0, .int .i64 0, .int .i64 0]) ?_ 5 _ rfl; (with_reducible repeat (first | refine blk_drewN ?_ _ | refine blk_drew ?_ | refine blk_alloc ?_ _)); refine blk_put (cs := #[.int .i64 0, .int .i64 0, .int .i64 0, .int .i64 0, .int .i64 0, .int .i64 0, .int .i64 0, .int .i64 0, .int .i64 0]) ?_ 4 _ rfl; (with_reducible repeat (first | refine blk_drewN ?_ _ | refine blk_drew ?_ | refine blk_alloc ?_ _)); refine blk_put (cs := #[.int .i64 0, .int .i64 0, .int .i64 0, .int .i64 0, .int .i64 0, .int .i64 0, .int .i64 0, .int .i64 0, .int .i64 0]) ?_ 3 _ rfl; (with_reducible repeat (first | refine blk_drewN ?_ _ | refine blk_drew ?_ | refine blk_alloc ?_ _)); refine blk_put (cs := #[.int .i64 0, .int .i64 0, .int .i64 0, .int .i64 0, .int .i64 0, .int .i64 0, .int .i64 0, .int .i64 0, .int .i64 0]) ?_ 2 _ rfl; (with_reducible repeat (first | refine blk_drewN ?_ _ | refine blk_drew ?_ | refine blk_alloc ?_ _)); refine blk_put (cs := #[.int .i64 0, .int .i64 0, .int .i64 0, .int .i64 0, .int .i64 0, .int .i64 0, .int .i64 0, .int .i64 0, .int .i64 0]) ?_ 1 _ rfl; (with_reducible repeat (first | refine blk_drewN ?_ _ | refine blk_drew ?_ | refine blk_alloc ?_ _)); refine blk_put (cs := #[.int .i64 0, .int .i64 0, .int .i64 0, .int .i64 0, .int .i64 0, .int .i64 0, .int .i64 0, .int .i64 0, .int .i64 0]) ?_ 0 _ rfl; (with_reducible repeat (first | refine blk_drewN ?_ _ | refine blk_drew ?_ | refine blk_alloc ?_ _)); exact BK1032.out) Try.underlying58 rfl (by kernel_rfl)) rfl ?_
        exact ⟨by first | rfl | (simp [errW_none, errW_some] <;> rfl) | (simp [*, errW_none, errW_some] <;> rfl), by repeat (first | (with_reducible first | exact HB.out | apply below_alloc | apply pw_below_drewN | apply below_drew1 | refine below_set ?_ GE1030.out | refine below_set ?_ GE1031.out | refine below_set ?_ GE1032.out) | exact HB.out)⟩
      · replace c21 := Bool.eq_false_iff.mpr c21
        subst c21
        have H1 : ((impl_Ring_turn.f a1_0 a1_1).bind fun bt1035 => ((impl_Pose_next.f a0_4 a0_5 a0_6 a0_7 bt1035.1 bt1035.2).bind fun bt1037 => ((impl_Machine_valid.f a0_0 a0_1 a0_2 a0_3 bt1037.1 bt1037.2.1 bt1037.2.2.1 bt1037.2.2.2 (wrap64 (a0_8 - 1500))).bind fun bt1041 => (some (bt1041.1, bt1041.2.1, bt1041.2.2.1, bt1041.2.2.2.1, bt1041.2.2.2.2.1, bt1041.2.2.2.2.2.1, bt1041.2.2.2.2.2.2.1, bt1041.2.2.2.2.2.2.2.1, bt1041.2.2.2.2.2.2.2.2.1, bt1041.2.2.2.2.2.2.2.2.2))))) = some (r1, r2, r3, r4, r5, r6, r7, r8, r9, r10) := by rw [if_neg (show ¬ (false = true) by decide)] at H; exact H
        clear H
        have H := H1
        clear H1
        replace H := Option.bind_eq_some_iff.mp H
        obtain ⟨⟨t1035, t1036⟩, A250, H⟩ := H
        replace H : ((impl_Pose_next.f a0_4 a0_5 a0_6 a0_7 t1035 t1036).bind fun bt1037 => ((impl_Machine_valid.f a0_0 a0_1 a0_2 a0_3 bt1037.1 bt1037.2.1 bt1037.2.2.1 bt1037.2.2.2 (wrap64 (a0_8 - 1500))).bind fun bt1041 => (some (bt1041.1, bt1041.2.1, bt1041.2.2.1, bt1041.2.2.2.1, bt1041.2.2.2.2.1, bt1041.2.2.2.2.2.1, bt1041.2.2.2.2.2.2.1, bt1041.2.2.2.2.2.2.2.1, bt1041.2.2.2.2.2.2.2.2.1, bt1041.2.2.2.2.2.2.2.2.2)))) = some (r1, r2, r3, r4, r5, r6, r7, r8, r9, r10) := H
        have A25 := Aside0.mk A250
        clear A250
        replace H := Option.bind_eq_some_iff.mp H
        obtain ⟨⟨t1037, t1038, t1039, t1040⟩, A260, H⟩ := H
        replace H : ((impl_Machine_valid.f a0_0 a0_1 a0_2 a0_3 t1037 t1038 t1039 t1040 (wrap64 (a0_8 - 1500))).bind fun bt1041 => (some (bt1041.1, bt1041.2.1, bt1041.2.2.1, bt1041.2.2.2.1, bt1041.2.2.2.2.1, bt1041.2.2.2.2.2.1, bt1041.2.2.2.2.2.2.1, bt1041.2.2.2.2.2.2.2.1, bt1041.2.2.2.2.2.2.2.2.1, bt1041.2.2.2.2.2.2.2.2.2))) = some (r1, r2, r3, r4, r5, r6, r7, r8, r9, r10) := H
        have A26 := Aside0.mk A260
        clear A260
        replace H := Option.bind_eq_some_iff.mp H
        obtain ⟨⟨t1041, t1042, t1043, t1044, t1045, t1046, t1047, t1048, t1049, t1050⟩, A270, H⟩ := H
        replace H : (some (t1041, t1042, t1043, t1044, t1045, t1046, t1047, t1048, t1049, t1050)) = some (r1, r2, r3, r4, r5, r6, r7, r8, r9, r10) := H
        have A27 := Aside0.mk A270
        clear A270
        simp only [Option.some.injEq, Prod.mk.injEq] at H
        obtain ⟨rfl, rfl, rfl, rfl, rfl, rfl, rfl, rfl, rfl, rfl⟩ := H
        have hnb28 := NB1031_1030.out
        have hnc28 := NB1030_1031.out
        have hnb29 := NB1031_1032.out
        have hnc29 := NB1032_1031.out
        have hcz30_0 : wc.cell? ⟨gb1031, 0, none⟩ = some (.int .i64 a1_0) := (blk_cell BK1031.out 0).trans rfl
        have hcz30_1 : wc.cell? ⟨gb1031, 1, none⟩ = some (.int .i64 a1_1) := (blk_cell BK1031.out 1).trans rfl
        have hfz30_0 := blk_frozen BK1031.out 0
        have hfz30_1 := blk_frozen BK1031.out 1
        try go_wp2_with (first | ((with_reducible refine gate_callee (f := 95) rfl ?_); refine goesL_ (some 19) rfl rfl Try.func95 (by kernel_rfl) rfl #[.agg #[.int .i64 a1_0, .int .i64 a1_1]] rfl (by (try simp only [List.map_toArray, List.map_cons, List.map_nil]); first | done | rfl | (simp only [List.length_drop, List.length_take]; rfl)) ?_; (with_reducible refine (impl_Ring_turn.calls a1_0 a1_1 t1035 t1036 _ A25.out).mono ?_); rintro e w31 ⟨rfl, hb⟩; refine ⟨_, rfl, ?_⟩; have n0_ := Aside0.mk (blk_below (g := gb1030) (o := .cells #[.int .i64 a0_0, .int .i64 a0_1, .int .i64 a0_2, .int .i64 a0_3, .int .i64 a0_4, .int .i64 a0_5, .int .i64 a0_6, .int .i64 a0_7, .int .i64 a0_8] 58 (0, 0)) (by (with_reducible repeat (first | refine blk_drewN ?_ _ | refine blk_drew ?_ | refine blk_alloc ?_ _)); exact BK1030.out) hb); have n1_ := Aside0.mk (blk_below (g := gb1031) (o := .cells #[.int .i64 a1_0, .int .i64 a1_1] 75 (0, 0)) (by (with_reducible repeat (first | refine blk_drewN ?_ _ | refine blk_drew ?_ | refine blk_alloc ?_ _)); exact BK1031.out) hb); have n2_ := Aside0.mk (blk_below (g := gb1032) (o := .cells #[.int .i64 0, .int .i64 0, .int .i64 0, .int .i64 0, .int .i64 0, .int .i64 0, .int .i64 0, .int .i64 0, .int .i64 0] 58 (0, 0)) (by (with_reducible repeat (first | refine blk_drewN ?_ _ | refine blk_drew ?_ | refine blk_alloc ?_ _)); exact BK1032.out) hb); have n3_ := Aside0.mk (below_step (by repeat (first | (with_reducible first | exact HB.out | apply below_alloc | apply pw_below_drewN | apply below_drew1 | refine below_set ?_ GE1030.out | refine below_set ?_ GE1031.out | refine below_set ?_ GE1032.out) | exact HB.out)) hb); clear BK1030; clear BK1031; clear BK1032; clear HB; have BK1030 := n0_; have BK1031 := n1_; have BK1032 := n2_; have HB := n3_; clear n0_ n1_ n2_ n3_; (try clear hb); (try clear hb2); (try clear hk); (try clear hi)))
        have n0_ := Aside0.mk (blk_drew BK1030.out)
        have n1_ := Aside0.mk (blk_drew BK1031.out)
        have n2_ := Aside0.mk (blk_drew BK1032.out)
        have n3_ := Aside0.mk (below_drew1 HB.out)
        clear BK1030
        clear BK1031
        clear BK1032
        clear HB
        have BK1030 := n0_
        have BK1031 := n1_
        have BK1032 := n2_
        have HB := n3_
        clear n0_ n1_ n2_ n3_
        refine start_ (n := 12) (S := fun w' => w'.cell? ⟨gb1030, 0, none⟩ = some (.int .i64 a0_0) ∧ w'.cell? ⟨gb1030, 1, none⟩ = some (.int .i64 a0_1) ∧ w'.cell? ⟨gb1030, 2, none⟩ = some (.int .i64 a0_2) ∧ w'.cell? ⟨gb1030, 3, none⟩ = some (.int .i64 a0_3) ∧ w'.cell? ⟨gb1030, 4, none⟩ = some (.int .i64 a0_4) ∧ w'.cell? ⟨gb1030, 5, none⟩ = some (.int .i64 a0_5) ∧ w'.cell? ⟨gb1030, 6, none⟩ = some (.int .i64 a0_6) ∧ w'.cell? ⟨gb1030, 7, none⟩ = some (.int .i64 a0_7) ∧ w'.cell? ⟨gb1030, 8, none⟩ = some (.int .i64 a0_8)) (ds := [9, 11]) #[false, false, false, false, false, false, false, false, false, false, false, false] (by kernel_rfl) rfl rfl ⟨(blk_cell BK1030.out 0).trans rfl, (blk_cell BK1030.out 1).trans rfl, (blk_cell BK1030.out 2).trans rfl, (blk_cell BK1030.out 3).trans rfl, (blk_cell BK1030.out 4).trans rfl, (blk_cell BK1030.out 5).trans rfl, (blk_cell BK1030.out 6).trans rfl, (blk_cell BK1030.out 7).trans rfl, (blk_cell BK1030.out 8).trans rfl⟩ (fun hHeld => ?_); refine with_tabW impl_BuildRing.tab4 impl_BuildRing.bits4 (fun HT_ HW_ => ?_)
        generalize w31.drew = w32 at BK1030 BK1031 BK1032 HB hHeld ⊢
        refine pure_ (i := 0) (N := some 22) (v := ?_) (a' := ?_) #[true, false, false, false, false, false, false, false, false, false, false, false] rfl rfl (any_of HT_.out (by kernel_rfl)) (fun _ _ _ h => h) (Or.inl ⟨by rfl, ?_⟩) ?_ ?_
        rotate_left
        · intro w'
          go_simp
          with_reducible rfl
        rotate_left
        · simp only [Act.put, List.setIfInBounds_toArray, List.set_cons_zero, List.set_cons_succ, i64_w, i32_w]
          rfl
        refine pure_ (i := 2) (N := some 24) (v := ?_) (a' := ?_) #[true, false, true, false, false, false, false, false, false, false, false, false] rfl rfl (any_of HT_.out (by kernel_rfl)) (fun _ _ _ h => h) (Or.inl ⟨by rfl, ?_⟩) ?_ ?_
        rotate_left
        · intro w'
          go_simp
          with_reducible rfl
        rotate_left
        · simp only [Act.put, List.setIfInBounds_toArray, List.set_cons_zero, List.set_cons_succ, i64_w, i32_w]
          rfl
        refine pure_ (i := 3) (N := some 25) (v := ?_) (a' := ?_) #[true, false, true, true, false, false, false, false, false, false, false, false] rfl rfl (any_of HT_.out (by kernel_rfl)) (fun _ _ _ h => h) (Or.inl ⟨by rfl, ?_⟩) ?_ ?_
        rotate_left
        · intro w'
          go_simp
          with_reducible rfl
        rotate_left
        · simp only [Act.put, List.setIfInBounds_toArray, List.set_cons_zero, List.set_cons_succ, i64_w, i32_w]
          rfl
        refine pure_ (i := 5) (N := some 27) (v := ?_) (a' := ?_) #[true, false, true, true, false, true, false, false, false, false, false, false] rfl rfl (any_of HT_.out (by kernel_rfl)) (fun _ _ _ h => h) (Or.inl ⟨by rfl, ?_⟩) ?_ ?_
        rotate_left
        · intro w'
          go_simp
          with_reducible rfl
        rotate_left
        · simp only [Act.put, List.setIfInBounds_toArray, List.set_cons_zero, List.set_cons_succ, i64_w, i32_w]
          rfl
        refine take_ (i := 1) (N := some 23) (v := ?_) (a' := ?_) #[true, true, true, true, false, true, false, false, false, false, false, false] rfl rfl (take_ofW HT_.out HW_.out (by kernel_rfl)) (fun _ _ _ h => h) (Or.inl ⟨by rfl, ?_⟩) hHeld ?_ ?_
        rotate_left
        · rintro w' ⟨s0, s1, s2, s3, s4, s5, s6, s7, s8⟩
          go_simp
          with_reducible rfl
        rotate_left
        · simp only [Act.put, List.setIfInBounds_toArray, List.set_cons_zero, List.set_cons_succ, i64_w, i32_w]
          rfl
        refine take_ (i := 6) (N := some 28) (v := ?_) (a' := ?_) #[true, true, true, true, false, true, true, false, false, false, false, false] rfl rfl (take_ofW HT_.out HW_.out (by kernel_rfl)) (fun _ _ _ h => h) (Or.inl ⟨by rfl, ?_⟩) hHeld ?_ ?_
        rotate_left
        · rintro w' ⟨s0, s1, s2, s3, s4, s5, s6, s7, s8⟩
          go_simp
          with_reducible rfl
        rotate_left
        · simp only [Act.put, List.setIfInBounds_toArray, List.set_cons_zero, List.set_cons_succ, i64_w, i32_w]
          rfl
        refine pure_ (i := 7) (N := some 29) (v := ?_) (a' := ?_) #[true, true, true, true, false, true, true, true, false, false, false, false] rfl rfl (any_of HT_.out (by kernel_rfl)) (fun _ _ _ h => h) (Or.inl ⟨by rfl, ?_⟩) ?_ ?_
        rotate_left
        · intro w'
          go_simp
          with_reducible rfl
        rotate_left
        · simp only [Act.put, List.setIfInBounds_toArray, List.set_cons_zero, List.set_cons_succ, i64_w, i32_w]
          rfl
        refine one_ (i := 4) (N := some 26) #[true, true, true, true, true, true, true, true, false, false, false, false] rfl rfl (one_of HT_.out (by kernel_rfl)) (by decide) (fun K hK => ?_)
        refine goes_ Try.func70 (by kernel_rfl) rfl #[.agg #[.int .i64 a0_4, .int .i64 a0_5, .int .i64 a0_6, .int .i64 a0_7], .int .i64 t1035, .int .i64 t1036] (by rfl) rfl rfl (by (try simp only [List.map_toArray, List.map_cons, List.map_nil]); first | done | rfl | (simp only [List.length_drop, List.length_take]; rfl)) ?_
        with_reducible refine (impl_Pose_next.calls a0_4 a0_5 a0_6 a0_7 t1035 t1036 t1037 t1038 t1039 t1040 _ A26.out).mono ?_
        rintro e w33 ⟨rfl, hb⟩
        refine ⟨_, rfl, ?_⟩
        have n0_ := Aside0.mk (blk_below (g := gb1030) (o := .cells #[.int .i64 a0_0, .int .i64 a0_1, .int .i64 a0_2, .int .i64 a0_3, .int .i64 a0_4, .int .i64 a0_5, .int .i64 a0_6, .int .i64 a0_7, .int .i64 a0_8] 58 (0, 0)) (by (with_reducible repeat (first | refine blk_drewN ?_ _ | refine blk_drew ?_ | refine blk_alloc ?_ _)); exact BK1030.out) hb)
        have n1_ := Aside0.mk (blk_below (g := gb1031) (o := .cells #[.int .i64 a1_0, .int .i64 a1_1] 75 (0, 0)) (by (with_reducible repeat (first | refine blk_drewN ?_ _ | refine blk_drew ?_ | refine blk_alloc ?_ _)); exact BK1031.out) hb)
        have n2_ := Aside0.mk (blk_below (g := gb1032) (o := .cells #[.int .i64 0, .int .i64 0, .int .i64 0, .int .i64 0, .int .i64 0, .int .i64 0, .int .i64 0, .int .i64 0, .int .i64 0] 58 (0, 0)) (by (with_reducible repeat (first | refine blk_drewN ?_ _ | refine blk_drew ?_ | refine blk_alloc ?_ _)); exact BK1032.out) hb)
        have n3_ := Aside0.mk (below_step (by repeat (first | (with_reducible first | exact HB.out | apply below_alloc | apply pw_below_drewN | apply below_drew1 | refine below_set ?_ GE1030.out | refine below_set ?_ GE1031.out | refine below_set ?_ GE1032.out) | exact HB.out)) hb)
        clear BK1030
        clear BK1031
        clear BK1032
        clear HB
        have BK1030 := n0_
        have BK1031 := n1_
        have BK1032 := n2_
        have HB := n3_
        clear n0_ n1_ n2_ n3_
        (try clear hb)
        (try clear hb2)
        (try clear hk)
        (try clear hi)
        refine hK.out _ _ ⟨(blk_cell BK1030.out 0).trans rfl, (blk_cell BK1030.out 1).trans rfl, (blk_cell BK1030.out 2).trans rfl, (blk_cell BK1030.out 3).trans rfl, (blk_cell BK1030.out 4).trans rfl, (blk_cell BK1030.out 5).trans rfl, (blk_cell BK1030.out 6).trans rfl, (blk_cell BK1030.out 7).trans rfl, (blk_cell BK1030.out 8).trans rfl⟩ (fun hHeld => ?_)
        clear hK K
        refine norm_ (a' := ?_) ?_ ?_
        rotate_left
        · show Act.put _ (some 26) _ = _
          simp only [Act.put, List.setIfInBounds_toArray, List.set_cons_zero, List.set_cons_succ, i64_w, i32_w]
          rfl
        refine pure_ (i := 8) (N := some 30) (v := ?_) (a' := ?_) #[true, true, true, true, true, true, true, true, true, false, false, false] rfl rfl (any_of HT_.out (by kernel_rfl)) (fun _ _ _ h => h) (Or.inl ⟨by rfl, ?_⟩) ?_ ?_
        rotate_left
        · intro w'
          go_simp
          with_reducible rfl
        rotate_left
        · simp only [Act.put, List.setIfInBounds_toArray, List.set_cons_zero, List.set_cons_succ, i64_w, i32_w]
          rfl
        refine last_ (i := 9) (N := none) #[true, true, true, true, true, true, true, true, true, true, false, false] rfl rfl (one_of HT_.out (by kernel_rfl)) (by decide) (fun K hK => ?_)
        have hs34 : w33.cell? ⟨gb1030, 4, none⟩ = some (.int .i64 a0_4) := (blk_cell BK1030.out 4).trans rfl
        have hfs34 := blk_frozen BK1030.out 4
        have hns34_1 := NB1031_1030.out
        have hns34_2 := NB1032_1030.out
        have hms34_1 := NB1030_1031.out
        have hms34_2 := NB1030_1032.out
        have hs35 : w33.cell? ⟨gb1030, 5, none⟩ = some (.int .i64 a0_5) := (blk_cell BK1030.out 5).trans rfl
        have hfs35 := blk_frozen BK1030.out 5
        have hns35_1 := NB1031_1030.out
        have hns35_2 := NB1032_1030.out
        have hms35_1 := NB1030_1031.out
        have hms35_2 := NB1030_1032.out
        have hs36 : w33.cell? ⟨gb1030, 6, none⟩ = some (.int .i64 a0_6) := (blk_cell BK1030.out 6).trans rfl
        have hfs36 := blk_frozen BK1030.out 6
        have hns36_1 := NB1031_1030.out
        have hns36_2 := NB1032_1030.out
        have hms36_1 := NB1030_1031.out
        have hms36_2 := NB1030_1032.out
        have hs37 : w33.cell? ⟨gb1030, 7, none⟩ = some (.int .i64 a0_7) := (blk_cell BK1030.out 7).trans rfl
        have hfs37 := blk_frozen BK1030.out 7
        have hns37_1 := NB1031_1030.out
        have hns37_2 := NB1032_1030.out
        have hms37_1 := NB1030_1031.out
        have hms37_2 := NB1030_1032.out
        refine skip_ (w1 := ?_) (by rfl) rfl ?_ ?_
        rotate_left
        · go_simp
          rfl
        refine hK.out _ _ ?_
        clear hK K
        refine pure_ (i := 10) (N := some 31) (v := ?_) (a' := ?_) #[true, true, true, true, true, true, true, true, true, true, true, false] rfl rfl (any_of HT_.out (by kernel_rfl)) (fun _ _ _ h => h) (Or.inl ⟨by rfl, ?_⟩) ?_ ?_
        rotate_left
        · intro w'
          go_simp
          with_reducible rfl
        rotate_left
        · simp only [Act.put, List.setIfInBounds_toArray, List.set_cons_zero, List.set_cons_succ, i64_w, i32_w]
          rfl
        refine last_ (i := 11) (N := none) #[true, true, true, true, true, true, true, true, true, true, true, true] rfl rfl (one_of HT_.out (by kernel_rfl)) (by decide) (fun K hK => ?_)
        have hs38 : w33.cell? ⟨gb1030, 8, none⟩ = some (.int .i64 a0_8) := (blk_cell BK1030.out 8).trans rfl
        have hfs38 := blk_frozen BK1030.out 8
        have hns38_1 := NB1031_1030.out
        have hns38_2 := NB1032_1030.out
        have hms38_1 := NB1030_1031.out
        have hms38_2 := NB1030_1032.out
        refine skip_ (w1 := ?_) (by rfl) rfl ?_ ?_
        rotate_left
        · go_simp
          rfl
        refine hK.out _ _ ?_
        clear hK K
        refine done_ (done_of HT_.out (by kernel_rfl)) ?_
        have hnb39 := NB1030_1032.out
        have hnc39 := NB1032_1030.out
        have hcz40_0 : w33.cell? ⟨gb1030, 0, none⟩ = some (.int .i64 a0_0) := (blk_cell BK1030.out 0).trans rfl
        have hcz40_1 : w33.cell? ⟨gb1030, 1, none⟩ = some (.int .i64 a0_1) := (blk_cell BK1030.out 1).trans rfl
        have hcz40_2 : w33.cell? ⟨gb1030, 2, none⟩ = some (.int .i64 a0_2) := (blk_cell BK1030.out 2).trans rfl
        have hcz40_3 : w33.cell? ⟨gb1030, 3, none⟩ = some (.int .i64 a0_3) := (blk_cell BK1030.out 3).trans rfl
        have hcz40_4 : w33.cell? ⟨gb1030, 4, none⟩ = some (.int .i64 a0_4) := (blk_cell BK1030.out 4).trans rfl
        have hcz40_5 : w33.cell? ⟨gb1030, 5, none⟩ = some (.int .i64 a0_5) := (blk_cell BK1030.out 5).trans rfl
        have hcz40_6 : w33.cell? ⟨gb1030, 6, none⟩ = some (.int .i64 a0_6) := (blk_cell BK1030.out 6).trans rfl
        have hcz40_7 : w33.cell? ⟨gb1030, 7, none⟩ = some (.int .i64 a0_7) := (blk_cell BK1030.out 7).trans rfl
        have hcz40_8 : w33.cell? ⟨gb1030, 8, none⟩ = some (.int .i64 a0_8) := (blk_cell BK1030.out 8).trans rfl
        have hfz40_0 := blk_frozen BK1030.out 0
        have hfz40_1 := blk_frozen BK1030.out 1
        have hfz40_2 := blk_frozen BK1030.out 2
        have hfz40_3 := blk_frozen BK1030.out 3
        have hfz40_4 := blk_frozen BK1030.out 4
        have hfz40_5 := blk_frozen BK1030.out 5
        have hfz40_6 := blk_frozen BK1030.out 6
        have hfz40_7 := blk_frozen BK1030.out 7
        have hfz40_8 := blk_frozen BK1030.out 8
        try go_wp2_with (first | ((with_reducible refine gate_callee (f := 91) rfl ?_); refine goesL_ (some 33) rfl rfl Try.func91 (by kernel_rfl) rfl #[.agg #[.int .i64 a0_0, .int .i64 a0_1, .int .i64 a0_2, .int .i64 a0_3, .int .i64 t1037, .int .i64 t1038, .int .i64 t1039, .int .i64 t1040, .int .i64 (wrap64 (a0_8 - 1500))]] rfl (by (try simp only [List.map_toArray, List.map_cons, List.map_nil]); first | done | rfl | (simp only [List.length_drop, List.length_take]; rfl)) ?_; (with_reducible refine (impl_Machine_valid.calls a0_0 a0_1 a0_2 a0_3 t1037 t1038 t1039 t1040 (wrap64 (a0_8 - 1500)) t1041 t1042 t1043 t1044 t1045 t1046 t1047 t1048 t1049 t1050 _ A27.out).mono ?_); rintro e w41 ⟨rfl, hb⟩; refine ⟨_, rfl, ?_⟩; have n0_ := Aside0.mk (blk_below (g := gb1030) (o := .cells #[.int .i64 a0_0, .int .i64 a0_1, .int .i64 a0_2, .int .i64 a0_3, .int .i64 t1037, .int .i64 t1038, .int .i64 t1039, .int .i64 t1040, .int .i64 (wrap64 (a0_8 - 1500))] 58 (0, 0)) (by (with_reducible repeat (first | refine blk_drewN ?_ _ | refine blk_drew ?_ | refine blk_alloc ?_ _)); refine blk_put (cs := #[.int .i64 a0_0, .int .i64 a0_1, .int .i64 a0_2, .int .i64 a0_3, .int .i64 t1037, .int .i64 t1038, .int .i64 t1039, .int .i64 t1040, .int .i64 a0_8]) ?_ 8 _ rfl; (with_reducible repeat (first | refine blk_drewN ?_ _ | refine blk_drew ?_ | refine blk_alloc ?_ _)); refine blk_put (cs := #[.int .i64 a0_0, .int .i64 a0_1, .int .i64 a0_2, .int .i64 a0_3, .int .i64 t1037, .int .i64 t1038, .int .i64 t1039, .int .i64 a0_7, .int .i64 a0_8]) ?_ 7 _ rfl; (with_reducible repeat (first | refine blk_drewN ?_ _ | refine blk_drew ?_ | refine blk_alloc ?_ _)); refine blk_put (cs := #[.int .i64 a0_0, .int .i64 a0_1, .int .i64 a0_2, .int .i64 a0_3, .int .i64 t1037, .int .i64 t1038, .int .i64 a0_6, .int .i64 a0_7, .int .i64 a0_8]) ?_ 6 _ rfl; (with_reducible repeat (first | refine blk_drewN ?_ _ | refine blk_drew ?_ | refine blk_alloc ?_ _)); refine blk_put (cs := #[.int .i64 a0_0, .int .i64 a0_1, .int .i64 a0_2, .int .i64 a0_3, .int .i64 t1037, .int .i64 a0_5, .int .i64 a0_6, .int .i64 a0_7, .int .i64 a0_8]) ?_ 5 _ rfl; (with_reducible repeat (first | refine blk_drewN ?_ _ | refine blk_drew ?_ | refine blk_alloc ?_ _)); refine blk_put (cs := #[.int .i64 a0_0, .int .i64 a0_1, .int .i64 a0_2, .int .i64 a0_3, .int .i64 a0_4, .int .i64 a0_5, .int .i64 a0_6, .int .i64 a0_7, .int .i64 a0_8]) ?_ 4 _ rfl; (with_reducible repeat (first | refine blk_drewN ?_ _ | refine blk_drew ?_ | refine blk_alloc ?_ _)); exact BK1030.out) hb); have n1_ := Aside0.mk (blk_below (g := gb1031) (o := .cells #[.int .i64 a1_0, .int .i64 a1_1] 75 (0, 0)) (by (with_reducible repeat (first | refine blk_drewN ?_ _ | refine blk_drew ?_ | refine blk_alloc ?_ _)); refine blk_far ?_ NB1031_1030.out _; (with_reducible repeat (first | refine blk_drewN ?_ _ | refine blk_drew ?_ | refine blk_alloc ?_ _)); refine blk_far ?_ NB1031_1030.out _; (with_reducible repeat (first | refine blk_drewN ?_ _ | refine blk_drew ?_ | refine blk_alloc ?_ _)); refine blk_far ?_ NB1031_1030.out _; (with_reducible repeat (first | refine blk_drewN ?_ _ | refine blk_drew ?_ | refine blk_alloc ?_ _)); refine blk_far ?_ NB1031_1030.out _; (with_reducible repeat (first | refine blk_drewN ?_ _ | refine blk_drew ?_ | refine blk_alloc ?_ _)); refine blk_far ?_ NB1031_1030.out _; (with_reducible repeat (first | refine blk_drewN ?_ _ | refine blk_drew ?_ | refine blk_alloc ?_ _)); exact BK1031.out) hb); have n2_ := Aside0.mk (blk_below (g := gb1032) (o := .cells #[.int .i64 0, .int .i64 0, .int .i64 0, .int .i64 0, .int .i64 0, .int .i64 0, .int .i64 0, .int .i64 0, .int .i64 0] 58 (0, 0)) (by (with_reducible repeat (first | refine blk_drewN ?_ _ | refine blk_drew ?_ | refine blk_alloc ?_ _)); refine blk_far ?_ NB1032_1030.out _; (with_reducible repeat (first | refine blk_drewN ?_ _ | refine blk_drew ?_ | refine blk_alloc ?_ _)); refine blk_far ?_ NB1032_1030.out _; (with_reducible repeat (first | refine blk_drewN ?_ _ | refine blk_drew ?_ | refine blk_alloc ?_ _)); refine blk_far ?_ NB1032_1030.out _; (with_reducible repeat (first | refine blk_drewN ?_ _ | refine blk_drew ?_ | refine blk_alloc ?_ _)); refine blk_far ?_ NB1032_1030.out _; (with_reducible repeat (first | refine blk_drewN ?_ _ | refine blk_drew ?_ | refine blk_alloc ?_ _)); refine blk_far ?_ NB1032_1030.out _; (with_reducible repeat (first | refine blk_drewN ?_ _ | refine blk_drew ?_ | refine blk_alloc ?_ _)); exact BK1032.out) hb); have n3_ := Aside0.mk (below_step (by repeat (first | (with_reducible first | exact HB.out | apply below_alloc | apply pw_below_drewN | apply below_drew1 | refine below_set ?_ GE1030.out | refine below_set ?_ GE1031.out | refine below_set ?_ GE1032.out) | exact HB.out)) hb); clear BK1030; clear BK1031; clear BK1032; clear HB; have BK1030 := n0_; have BK1031 := n1_; have BK1032 := n2_; have HB := n3_; clear n0_ n1_ n2_ n3_; (try clear hb); (try clear hb2); (try clear hk); (try clear hi); have hcz42_0 : w41.cell? ⟨gb1032, 0, none⟩ = some (.int .i64 0) := (blk_cell BK1032.out 0).trans rfl; have hcz42_1 : w41.cell? ⟨gb1032, 1, none⟩ = some (.int .i64 0) := (blk_cell BK1032.out 1).trans rfl; have hcz42_2 : w41.cell? ⟨gb1032, 2, none⟩ = some (.int .i64 0) := (blk_cell BK1032.out 2).trans rfl; have hcz42_3 : w41.cell? ⟨gb1032, 3, none⟩ = some (.int .i64 0) := (blk_cell BK1032.out 3).trans rfl; have hcz42_4 : w41.cell? ⟨gb1032, 4, none⟩ = some (.int .i64 0) := (blk_cell BK1032.out 4).trans rfl; have hcz42_5 : w41.cell? ⟨gb1032, 5, none⟩ = some (.int .i64 0) := (blk_cell BK1032.out 5).trans rfl; have hcz42_6 : w41.cell? ⟨gb1032, 6, none⟩ = some (.int .i64 0) := (blk_cell BK1032.out 6).trans rfl; have hcz42_7 : w41.cell? ⟨gb1032, 7, none⟩ = some (.int .i64 0) := (blk_cell BK1032.out 7).trans rfl; have hcz42_8 : w41.cell? ⟨gb1032, 8, none⟩ = some (.int .i64 0) := (blk_cell BK1032.out 8).trans rfl; have hfz42_0 := blk_frozen BK1032.out 0; have hfz42_1 := blk_frozen BK1032.out 1; have hfz42_2 := blk_frozen BK1032.out 2; have hfz42_3 := blk_frozen BK1032.out 3; have hfz42_4 := blk_frozen BK1032.out 4; have hfz42_5 := blk_frozen BK1032.out 5; have hfz42_6 := blk_frozen BK1032.out 6; have hfz42_7 := blk_frozen BK1032.out 7; have hfz42_8 := blk_frozen BK1032.out 8))
        refine bodyPost_ret (results_ct rfl _ _ gb1032 58 #[.int .i64 t1041, .int .i64 t1042, .int .i64 t1043, .int .i64 t1044, .int .i64 t1045, .int .i64 t1046, .int .i64 t1047, .int .i64 t1048, .int .i64 t1049] (0, 0) _ rfl (by (with_reducible repeat (first | refine blk_drewN ?_ _ | refine blk_drew ?_ | refine blk_alloc ?_ _)); refine blk_put (cs := #[.int .i64 t1041, .int .i64 t1042, .int .i64 t1043, .int .i64 t1044, .int .i64 t1045, .int .i64 t1046, .int .i64 t1047, .int .i64 t1048, .int .i64 0]) ?_ 8 _ rfl; (with_reducible repeat (first | refine blk_drewN ?_ _ | refine blk_drew ?_ | refine blk_alloc ?_ _)); refine blk_put (cs := #[.int .i64 t1041, .int .i64 t1042, .int .i64 t1043, .int .i64 t1044, .int .i64 t1045, .int .i64 t1046, .int .i64 t1047, .int .i64 0, .int .i64 0]) ?_ 7 _ rfl; (with_reducible repeat (first | refine blk_drewN ?_ _ | refine blk_drew ?_ | refine blk_alloc ?_ _)); refine blk_put (cs := #[.int .i64 t1041, .int .i64 t1042, .int .i64 t1043, .int .i64 t1044, .int .i64 t1045, .int .i64 t1046, .int .i64 0, .int .i64 0, .int .i64 0]) ?_ 6 _ rfl; (with_reducible repeat (first | refine blk_drewN ?_ _ | refine blk_drew ?_ | refine blk_alloc ?_ _)); refine blk_put (cs := #[.int .i64 t1041, .int .i64 t1042, .int .i64 t1043, .int .i64 t1044, .int .i64 t1045, .int .i64 0, .int .i64 0, .int .i64 0, .int .i64 0]) ?_ 5 _ rfl; (with_reducible repeat (first | refine blk_drewN ?_ _ | refine blk_drew ?_ | refine blk_alloc ?_ _)); refine blk_put (cs := #[.int .i64 t1041, .int .i64 t1042, .int .i64 t1043, .int .i64 t1044, .int .i64 0, .int .i64 0, .int .i64 0, .int .i64 0, .int .i64 0]) ?_ 4 _ rfl; (with_reducible repeat (first | refine blk_drewN ?_ _ | refine blk_drew ?_ | refine blk_alloc ?_ _)); refine blk_put (cs := #[.int .i64 t1041, .int .i64 t1042, .int .i64 t1043, .int .i64 0, .int .i64 0, .int .i64 0, .int .i64 0, .int .i64 0, .int .i64 0]) ?_ 3 _ rfl; (with_reducible repeat (first | refine blk_drewN ?_ _ | refine blk_drew ?_ | refine blk_alloc ?_ _)); refine blk_put (cs := #[.int .i64 t1041, .int .i64 t1042, .int .i64 0, .int .i64 0, .int .i64 0, .int .i64 0, .int .i64 0, .int .i64 0, .int .i64 0]) ?_ 2 _ rfl; (with_reducible repeat (first | refine blk_drewN ?_ _ | refine blk_drew ?_ | refine blk_alloc ?_ _)); refine blk_put (cs := #[.int .i64 t1041, .int .i64 0, .int .i64 0, .int .i64 0, .int .i64 0, .int .i64 0, .int .i64 0, .int .i64 0, .int .i64 0]) ?_ 1 _ rfl; (with_reducible repeat (first | refine blk_drewN ?_ _ | refine blk_drew ?_ | refine blk_alloc ?_ _)); refine blk_put (cs := #[.int .i64 0, .int .i64 0, .int .i64 0, .int .i64 0, .int .i64 0, .int .i64 0, .int .i64 0, .int .i64 0, .int .i64 0]) ?_ 0 _ rfl; (with_reducible repeat (first | refine blk_drewN ?_ _ | refine blk_drew ?_ | refine blk_alloc ?_ _)); exact BK1032.out) Try.underlying58 rfl (by kernel_rfl)) rfl ?_
        exact ⟨by first | rfl | (simp [errW_none, errW_some] <;> rfl) | (simp [*, errW_none, errW_some] <;> rfl), by repeat (first | (with_reducible first | exact HB.out | apply below_alloc | apply pw_below_drewN | apply below_drew1 | refine below_set ?_ GE1030.out | refine below_set ?_ GE1031.out | refine below_set ?_ GE1032.out) | exact HB.out)⟩

end Go.Proofs.Ythlbcjoogcanmaa.Q
