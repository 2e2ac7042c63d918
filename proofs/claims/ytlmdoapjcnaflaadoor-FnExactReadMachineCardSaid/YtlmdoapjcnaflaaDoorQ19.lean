-- Written by a program of this claim's session (gprint.py over the kit's print); not typed by hand; Lean checks it.
import Derived.Test.YtlmdoapjcnaflaaDoorQ0
import Derived.Test.YtlmdoapjcnaflaaDoorQ8
import Derived.Test.YtlmdoapjcnaflaaDoorQ11
import Derived.Test.YtlmdoapjcnaflaaDoorQ18
import Derived.Test.YtlmdoapjcnaflaaDoorGTextR
import Derived.Test.YtlmdoapjcnaflaaDoorGTextT
namespace Go.Proofs.YtlmdoapjcnaflaaDoor.Q
open Go.RowKit Go.Proofs.YtlmdoapjcnaflaaDoorW.PrintWords Go.Proofs.YtlmdoapjcnaflaaDoorW.PrintLast Go.Proofs.YtlmdoapjcnaflaaDoorW.PrintMore
attribute [local go_sem] max2_int min2_int max_two min_two max_three min_three max_four min_four   -- for this text's walks alone
set_option linter.unusedVariables false
set_option linter.unusedSimpArgs false

/-! ### spec_ReadMachine: function 31 -/
def spec_ReadMachine.f (k : Nat) (a0 : ByteArray) : Option (Int × Int × Int × Int × Int × Int × Int × Int × Int × Bool) := (spec_l02Numbers.f k a0).bind fun t504 => (if (t504.length : Int) = 9 then (if 8 < (t504.length : Int) then (if 0 < (t504.length : Int) then (if 1 < (t504.length : Int) then (if 2 < (t504.length : Int) then (if 3 < (t504.length : Int) then (if 4 < (t504.length : Int) then (if 5 < (t504.length : Int) then (if 6 < (t504.length : Int) then (if 7 < (t504.length : Int) then ((spec_l04Is.f k (rd t504 0) (rd t504 1) (rd t504 2) (rd t504 3) (rd t504 4) (rd t504 5) (rd t504 6) (rd t504 7) (rd t504 8)).bind fun t517 => (if t517 = true then ((spec_l04Text.f k (rd t504 0) (rd t504 1) (rd t504 2) (rd t504 3) (rd t504 4) (rd t504 5) (rd t504 6) (rd t504 7) (rd t504 8)).bind fun t518 => (if t518.toList = a0.toList then (some (rd t504 0, rd t504 1, rd t504 2, rd t504 3, rd t504 4, rd t504 5, rd t504 6, rd t504 7, rd t504 8, true)) else (some (0, 0, 0, 0, 0, 0, 0, 0, 0, false)))) else (some (0, 0, 0, 0, 0, 0, 0, 0, 0, false)))) else (none)) else (none)) else (none)) else (none)) else (none)) else (none)) else (none)) else (none)) else (none)) else (some (0, 0, 0, 0, 0, 0, 0, 0, 0, false)))
theorem spec_ReadMachine.mono : ∀ a0 k, LeO (spec_ReadMachine.f k a0) (spec_ReadMachine.f (k + 1) a0) := by
  intro a0 k
  unfold spec_ReadMachine.f
  repeat' first
      | (with_reducible exact spec_l02Numbers.mono _ _)
      | (with_reducible exact spec_l04Is.mono _ _ _ _ _ _ _ _ _ _)
      | (with_reducible exact spec_l04Text.mono _ _ _ _ _ _ _ _ _ _)
      | (with_reducible exact LeO.refl _)
      | (with_reducible exact LeO.none _)
      | (with_reducible refine LeO.ite ?_ ?_)
      | (with_reducible refine LeO.bind ?_ (fun _ => ?_))
      | exact spec_l02Numbers.mono _ _
      | exact spec_l04Is.mono _ _ _ _ _ _ _ _ _ _
      | exact spec_l04Text.mono _ _ _ _ _ _ _ _ _ _
      | exact LeO.none _
      | refine LeO.ite ?_ ?_
      | refine LeO.bind ?_ (fun _ => ?_)
def spec_ReadMachine.T5 : Bool × List (List Nat × List Nat) := (true, [([], []), ([0], [0]), ([1], [1]), ([], []), ([3], [3]), ([4], [4]), ([], []), ([6], [6]), ([7], [7]), ([], []), ([9], [9]), ([10], [10]), ([2, 5, 8, 11], [2, 5, 8, 11]), ([0, 1, 2, 3, 4, 5, 6, 7, 8, 9, 10, 11, 12], []), ([13, 12, 0, 1, 2, 3, 4, 5, 6, 7, 8, 9, 10, 11, 12], [12, 13])])
def spec_ReadMachine.B5 : List Nat := [0, 1, 3, 0, 8, 24, 0, 64, 192, 0, 512, 1536, 4095, 8191, 16383]
theorem spec_ReadMachine.tab5 : rtab .any (opsOf Tryd.f31 5) = spec_ReadMachine.T5 := by kernel_rfl
theorem spec_ReadMachine.bits5 : waitsOk spec_ReadMachine.T5.2 spec_ReadMachine.B5 = true := by kernel_rfl
def spec_ReadMachine.T6 : Bool × List (List Nat × List Nat) := (true, [([], []), ([0], [0]), ([1], [1]), ([], []), ([3], [3]), ([4], [4]), ([], []), ([6], [6]), ([7], [7]), ([], []), ([9], [9]), ([10], [10]), ([2, 5, 8, 11], [2, 5, 8, 11]), ([0, 1, 2, 3, 4, 5, 6, 7, 8, 9, 10, 11, 12], []), ([13, 12, 0, 1, 2, 3, 4, 5, 6, 7, 8, 9, 10, 11, 12], [12, 13])])
def spec_ReadMachine.B6 : List Nat := [0, 1, 3, 0, 8, 24, 0, 64, 192, 0, 512, 1536, 4095, 8191, 16383]
theorem spec_ReadMachine.tab6 : rtab .any (opsOf Tryd.f31 6) = spec_ReadMachine.T6 := by kernel_rfl
theorem spec_ReadMachine.bits6 : waitsOk spec_ReadMachine.T6.2 spec_ReadMachine.B6 = true := by kernel_rfl
set_option maxHeartbeats 8000000 in
set_option maxRecDepth 100000 in
theorem spec_ReadMachine.calls (k : Nat) (a0 : ByteArray) (r1 : Int) (r2 : Int) (r3 : Int) (r4 : Int) (r5 : Int) (r6 : Int) (r7 : Int) (r8 : Int) (r9 : Int) (r10 : Bool) (w : World) (h : spec_ReadMachine.f k a0 = some (r1, r2, r3, r4, r5, r6, r7, r8, r9, r10)) :
    Calls Tryd.prog 31 #[.string a0] w fun e w' => e = .returned (.tuple #[.agg #[.int .i64 r1, .int .i64 r2, .int .i64 r3, .int .i64 r4, .int .i64 r5, .int .i64 r6, .int .i64 r7, .int .i64 r8, .int .i64 r9], .bool r10]) ∧ Below w.heap.size w w' := by
  have hu37 := Tryd.underlying37
  have hu35 := Tryd.underlying35
  have HB := Aside0.mk (Below.refl w.heap.size w)
  have H : ((spec_l02Numbers.f k a0).bind fun t504 => (if (t504.length : Int) = 9 then (if 8 < (t504.length : Int) then (if 0 < (t504.length : Int) then (if 1 < (t504.length : Int) then (if 2 < (t504.length : Int) then (if 3 < (t504.length : Int) then (if 4 < (t504.length : Int) then (if 5 < (t504.length : Int) then (if 6 < (t504.length : Int) then (if 7 < (t504.length : Int) then ((spec_l04Is.f k (rd t504 0) (rd t504 1) (rd t504 2) (rd t504 3) (rd t504 4) (rd t504 5) (rd t504 6) (rd t504 7) (rd t504 8)).bind fun t517 => (if t517 = true then ((spec_l04Text.f k (rd t504 0) (rd t504 1) (rd t504 2) (rd t504 3) (rd t504 4) (rd t504 5) (rd t504 6) (rd t504 7) (rd t504 8)).bind fun t518 => (if t518.toList = a0.toList then (some (rd t504 0, rd t504 1, rd t504 2, rd t504 3, rd t504 4, rd t504 5, rd t504 6, rd t504 7, rd t504 8, true)) else (some (0, 0, 0, 0, 0, 0, 0, 0, 0, false)))) else (some (0, 0, 0, 0, 0, 0, 0, 0, 0, false)))) else (none)) else (none)) else (none)) else (none)) else (none)) else (none)) else (none)) else (none)) else (none)) else (some (0, 0, 0, 0, 0, 0, 0, 0, 0, false)))) = some (r1, r2, r3, r4, r5, r6, r7, r8, r9, r10) := h
  clear h
  replace H := Option.bind_eq_some_iff.mp H
  obtain ⟨t504, A20, H⟩ := H
  replace H : (if (t504.length : Int) = 9 then (if 8 < (t504.length : Int) then (if 0 < (t504.length : Int) then (if 1 < (t504.length : Int) then (if 2 < (t504.length : Int) then (if 3 < (t504.length : Int) then (if 4 < (t504.length : Int) then (if 5 < (t504.length : Int) then (if 6 < (t504.length : Int) then (if 7 < (t504.length : Int) then ((spec_l04Is.f k (rd t504 0) (rd t504 1) (rd t504 2) (rd t504 3) (rd t504 4) (rd t504 5) (rd t504 6) (rd t504 7) (rd t504 8)).bind fun t517 => (if t517 = true then ((spec_l04Text.f k (rd t504 0) (rd t504 1) (rd t504 2) (rd t504 3) (rd t504 4) (rd t504 5) (rd t504 6) (rd t504 7) (rd t504 8)).bind fun t518 => (if t518.toList = a0.toList then (some (rd t504 0, rd t504 1, rd t504 2, rd t504 3, rd t504 4, rd t504 5, rd t504 6, rd t504 7, rd t504 8, true)) else (some (0, 0, 0, 0, 0, 0, 0, 0, 0, false)))) else (some (0, 0, 0, 0, 0, 0, 0, 0, 0, false)))) else (none)) else (none)) else (none)) else (none)) else (none)) else (none)) else (none)) else (none)) else (none)) else (some (0, 0, 0, 0, 0, 0, 0, 0, 0, false))) = some (r1, r2, r3, r4, r5, r6, r7, r8, r9, r10) := H
  have A2 := Aside0.mk A20
  clear A20
  by_cases c3 : (t504.length : Int) = 9
  · rw [if_pos c3] at H
    have c3b0 : ((t504.length : Int) == 9) = true := beq_iff_eq.mpr c3
    have c3b1 : ((t504.length : Int) != 9) = false := bne_eq_false_iff_eq.mpr c3
    clear c3
    by_cases c4 : 8 < (t504.length : Int)
    · rw [if_pos c4] at H
      have c4b0 : decide (8 < (t504.length : Int)) = true := decide_eq_true c4
      have c4b1 : decide (8 < t504.length) = true := decide_eq_true (by omega)
      clear c4
      by_cases c5 : 0 < (t504.length : Int)
      · rw [if_pos c5] at H
        have c5b0 : decide (0 < (t504.length : Int)) = true := decide_eq_true c5
        have c5b1 : decide (0 < t504.length) = true := decide_eq_true (by omega)
        clear c5
        by_cases c6 : 1 < (t504.length : Int)
        · rw [if_pos c6] at H
          have c6b0 : decide (1 < (t504.length : Int)) = true := decide_eq_true c6
          have c6b1 : decide (1 < t504.length) = true := decide_eq_true (by omega)
          clear c6
          by_cases c7 : 2 < (t504.length : Int)
          · rw [if_pos c7] at H
            have c7b0 : decide (2 < (t504.length : Int)) = true := decide_eq_true c7
            have c7b1 : decide (2 < t504.length) = true := decide_eq_true (by omega)
            clear c7
            by_cases c8 : 3 < (t504.length : Int)
            · rw [if_pos c8] at H
              have c8b0 : decide (3 < (t504.length : Int)) = true := decide_eq_true c8
              have c8b1 : decide (3 < t504.length) = true := decide_eq_true (by omega)
              clear c8
              by_cases c9 : 4 < (t504.length : Int)
              · rw [if_pos c9] at H
                have c9b0 : decide (4 < (t504.length : Int)) = true := decide_eq_true c9
                have c9b1 : decide (4 < t504.length) = true := decide_eq_true (by omega)
                clear c9
                by_cases c10 : 5 < (t504.length : Int)
                · rw [if_pos c10] at H
                  have c10b0 : decide (5 < (t504.length : Int)) = true := decide_eq_true c10
                  have c10b1 : decide (5 < t504.length) = true := decide_eq_true (by omega)
                  clear c10
                  by_cases c11 : 6 < (t504.length : Int)
                  · rw [if_pos c11] at H
                    have c11b0 : decide (6 < (t504.length : Int)) = true := decide_eq_true c11
                    have c11b1 : decide (6 < t504.length) = true := decide_eq_true (by omega)
                    clear c11
                    by_cases c12 : 7 < (t504.length : Int)
                    · rw [if_pos c12] at H
                      have c12b0 : decide (7 < (t504.length : Int)) = true := decide_eq_true c12
                      have c12b1 : decide (7 < t504.length) = true := decide_eq_true (by omega)
                      clear c12
                      replace H := Option.bind_eq_some_iff.mp H
                      obtain ⟨t517, A130, H⟩ := H
                      replace H : (if t517 = true then ((spec_l04Text.f k (rd t504 0) (rd t504 1) (rd t504 2) (rd t504 3) (rd t504 4) (rd t504 5) (rd t504 6) (rd t504 7) (rd t504 8)).bind fun t518 => (if t518.toList = a0.toList then (some (rd t504 0, rd t504 1, rd t504 2, rd t504 3, rd t504 4, rd t504 5, rd t504 6, rd t504 7, rd t504 8, true)) else (some (0, 0, 0, 0, 0, 0, 0, 0, 0, false)))) else (some (0, 0, 0, 0, 0, 0, 0, 0, 0, false))) = some (r1, r2, r3, r4, r5, r6, r7, r8, r9, r10) := H
                      have A13 := Aside0.mk A130
                      clear A130
                      by_cases c14 : t517 = true
                      · subst c14
                        have H1 : ((spec_l04Text.f k (rd t504 0) (rd t504 1) (rd t504 2) (rd t504 3) (rd t504 4) (rd t504 5) (rd t504 6) (rd t504 7) (rd t504 8)).bind fun t518 => (if t518.toList = a0.toList then (some (rd t504 0, rd t504 1, rd t504 2, rd t504 3, rd t504 4, rd t504 5, rd t504 6, rd t504 7, rd t504 8, true)) else (some (0, 0, 0, 0, 0, 0, 0, 0, 0, false)))) = some (r1, r2, r3, r4, r5, r6, r7, r8, r9, r10) := by rw [if_pos rfl] at H; exact H
                        clear H
                        have H := H1
                        clear H1
                        replace H := Option.bind_eq_some_iff.mp H
                        obtain ⟨t518, A150, H⟩ := H
                        replace H : (if t518.toList = a0.toList then (some (rd t504 0, rd t504 1, rd t504 2, rd t504 3, rd t504 4, rd t504 5, rd t504 6, rd t504 7, rd t504 8, true)) else (some (0, 0, 0, 0, 0, 0, 0, 0, 0, false))) = some (r1, r2, r3, r4, r5, r6, r7, r8, r9, r10) := H
                        have A15 := Aside0.mk A150
                        clear A150
                        by_cases c16 : t518.toList = a0.toList
                        · rw [if_pos c16] at H
                          have c16b0 : (t518.toList == a0.toList) = true := beq_iff_eq.mpr c16
                          have c16b1 : (t518.toList != a0.toList) = false := bne_eq_false_iff_eq.mpr c16
                          clear c16
                          simp only [Option.some.injEq, Prod.mk.injEq] at H
                          obtain ⟨rfl, rfl, rfl, rfl, rfl, rfl, rfl, rfl, rfl, rfl⟩ := H
                          go_enter Tryd.func31, Tryd.ntmps31
                          try go_wp2_with (first | ((with_reducible refine gate_dst (N := 2) rfl ?_); refine box_event ?hg (N := 2) ?hd (cs := #[.int .i64 0, .int .i64 0, .int .i64 0, .int .i64 0, .int .i64 0, .int .i64 0, .int .i64 0, .int .i64 0, .int .i64 0]) (t := 37) ?hr ?_; (case hd => rfl); (case hg => rfl); (case hr => first | (go_simp; done) | (go_simp; rfl)); intro gb503 hg w17 hbox hb; have n0_ := Aside0.mk (below_step (by repeat (first | (with_reducible first | exact HB.out | apply below_alloc | apply pw_below_drewN | apply below_drew1) | exact HB.out)) hb); have n1_ := Aside0.mk (hbox); have n2_ := Aside0.mk ((by rw [hg]; exact (below_size (by repeat (first | (with_reducible first | exact HB.out | apply below_alloc | apply pw_below_drewN | apply below_drew1) | exact HB.out))) : w.heap.size ≤ gb503)); have n3_ := Aside0.mk ((by rw [hg]; exact (below_size (by repeat (first | (with_reducible first | exact HB.out | apply below_alloc | apply pw_below_drewN | apply below_drew1) | exact HB.out))) : w.heap.size ≤ gb503)); clear HB; have HB := n0_; have BK503 := n1_; have GW503 := n2_; have GE503 := n3_; clear n0_ n1_ n2_ n3_; clear hb hbox hg) | ((with_reducible refine gate_callee (f := 60) rfl ?_); refine goesL_ (some 7) rfl rfl Tryd.func60 (by kernel_rfl) rfl #[.string a0] rfl (by (try simp only [List.map_toArray, List.map_cons, List.map_nil]); first | done | rfl | (simp only [List.length_drop, List.length_take]; rfl)) ?_; (with_reducible refine (spec_l02Numbers.calls k a0 t504 _ A2.out).mono ?_); rintro e w18 ⟨v505, rfl, ho0, hb⟩; refine ⟨_, rfl, ?_⟩; have n0_ := Aside0.mk (Kd.R_lower ho0 (below_size (by repeat (first | (with_reducible first | exact HB.out | apply below_alloc | apply pw_below_drewN | apply below_drew1 | refine below_set ?_ GE503.out) | exact HB.out)))); have n1_ := Aside0.mk (blk_below (g := gb503) (o := .cells #[.int .i64 0, .int .i64 0, .int .i64 0, .int .i64 0, .int .i64 0, .int .i64 0, .int .i64 0, .int .i64 0, .int .i64 0] 37 (0, 0)) (by (with_reducible repeat (first | refine blk_drewN ?_ _ | refine blk_drew ?_ | refine blk_alloc ?_ _)); exact BK503.out) hb); have n2_ := Aside0.mk (below_step (by repeat (first | (with_reducible first | exact HB.out | apply below_alloc | apply pw_below_drewN | apply below_drew1 | refine below_set ?_ GE503.out) | exact HB.out)) hb); clear BK503; clear HB; have HO506 := n0_; have BK503 := n1_; have HB := n2_; clear n0_ n1_ n2_; (try clear hb); (try clear hb2); (try clear hk); (try clear hi); (try clear ho0); obtain ⟨Ao19, co19, eo19⟩ := Kd.R_slice HO506.out; subst eo19; have p507 : 0 ≤ (8 : Int) := (by omega); have q507 : 8 < (t504.length : Int) := of_decide_eq_true (by first | (with_reducible assumption) | assumption); obtain ⟨ad507, e507, hx507_0⟩ := Kd.at_int (Kd.R_reads' HO506.out).2.2 8 p507 q507; cases e507; (try simp only [show (8 : Int).toNat = 8 from rfl, Nat.reduceMul, Nat.reduceEqDiff, Go.Addr.add, ↓reduceIte] at hx507_0); have qi507 : (8 < t504.length) = True := eq_true (by omega); (try rw [show ((8 : Int)).toNat = 8 from rfl] at hx507_0); replace p507 := eq_true p507; replace q507 := eq_true q507) | ((with_reducible refine gate_dst (N := 5) rfl ?_); refine box_event ?hg (N := 5) ?hd (cs := #[.int .i64 0, .int .i64 0, .int .i64 0, .int .i64 0, .int .i64 0, .int .i64 0, .int .i64 0, .int .i64 0, .int .i64 0]) (t := 37) ?hr ?_; (case hd => rfl); (case hg => rfl); (case hr => first | (go_simp; done) | (go_simp; rfl)); intro gb508 hg w20 hbox hb; have n0_ := Aside0.mk (Kd.R_below (by (with_reducible repeat (first | apply Kd.R_alloc | apply Kd.R_drewN | apply Kd.R_drew)); exact HO506.out) hb); have n1_ := Aside0.mk (blk_below (g := gb503) (o := .cells #[.int .i64 0, .int .i64 0, .int .i64 0, .int .i64 0, .int .i64 0, .int .i64 0, .int .i64 0, .int .i64 0, .int .i64 0] 37 (0, 0)) (by (with_reducible repeat (first | refine blk_drewN ?_ _ | refine blk_drew ?_ | refine blk_alloc ?_ _)); exact BK503.out) hb); have n2_ := Aside0.mk (below_step (by repeat (first | (with_reducible first | exact HB.out | apply below_alloc | apply pw_below_drewN | apply below_drew1 | refine below_set ?_ GE503.out) | exact HB.out)) hb); have n3_ := Aside0.mk (hbox); have n4_ := Aside0.mk ((by rw [hg]; exact (below_size (by repeat (first | (with_reducible first | exact HB.out | apply below_alloc | apply pw_below_drewN | apply below_drew1 | refine below_set ?_ GE503.out) | exact HB.out))) : w.heap.size ≤ gb508)); have n5_ := Aside0.mk ((by rw [hg]; exact (below_size (by repeat (first | (with_reducible first | exact HB.out | apply below_alloc | apply pw_below_drewN | apply below_drew1 | refine below_set ?_ GE503.out) | exact HB.out))) : w.heap.size ≤ gb508)); have n6_ := Aside0.mk ((by rw [hg]; exact Nat.ne_of_lt (blk_lt (g := gb503) (o := .cells #[.int .i64 0, .int .i64 0, .int .i64 0, .int .i64 0, .int .i64 0, .int .i64 0, .int .i64 0, .int .i64 0, .int .i64 0] 37 (0, 0)) (by (with_reducible repeat (first | refine blk_drewN ?_ _ | refine blk_drew ?_ | refine blk_alloc ?_ _)); exact BK503.out)) : gb503 ≠ gb508)); have n7_ := Aside0.mk ((by rw [hg]; exact Nat.ne_of_gt (blk_lt (g := gb503) (o := .cells #[.int .i64 0, .int .i64 0, .int .i64 0, .int .i64 0, .int .i64 0, .int .i64 0, .int .i64 0, .int .i64 0, .int .i64 0] 37 (0, 0)) (by (with_reducible repeat (first | refine blk_drewN ?_ _ | refine blk_drew ?_ | refine blk_alloc ?_ _)); exact BK503.out)) : gb508 ≠ gb503)); clear HO506; clear BK503; clear HB; have HO506 := n0_; have BK503 := n1_; have HB := n2_; have BK508 := n3_; have GW508 := n4_; have GE508 := n5_; have NB503_508 := n6_; have NB508_503 := n7_; clear n0_ n1_ n2_ n3_ n4_ n5_ n6_ n7_; clear hb hbox hg; have hnb21 := NB508_503.out; have hnc21 := NB503_508.out; have hcz22_0 : w20.cell? ⟨gb508, 0, none⟩ = some (.int .i64 0) := (blk_cell BK508.out 0).trans rfl; have hcz22_1 : w20.cell? ⟨gb508, 1, none⟩ = some (.int .i64 0) := (blk_cell BK508.out 1).trans rfl; have hcz22_2 : w20.cell? ⟨gb508, 2, none⟩ = some (.int .i64 0) := (blk_cell BK508.out 2).trans rfl; have hcz22_3 : w20.cell? ⟨gb508, 3, none⟩ = some (.int .i64 0) := (blk_cell BK508.out 3).trans rfl; have hcz22_4 : w20.cell? ⟨gb508, 4, none⟩ = some (.int .i64 0) := (blk_cell BK508.out 4).trans rfl; have hcz22_5 : w20.cell? ⟨gb508, 5, none⟩ = some (.int .i64 0) := (blk_cell BK508.out 5).trans rfl; have hcz22_6 : w20.cell? ⟨gb508, 6, none⟩ = some (.int .i64 0) := (blk_cell BK508.out 6).trans rfl; have hcz22_7 : w20.cell? ⟨gb508, 7, none⟩ = some (.int .i64 0) := (blk_cell BK508.out 7).trans rfl; have hcz22_8 : w20.cell? ⟨gb508, 8, none⟩ = some (.int .i64 0) := (blk_cell BK508.out 8).trans rfl; have hfz22_0 := blk_frozen BK508.out 0; have hfz22_1 := blk_frozen BK508.out 1; have hfz22_2 := blk_frozen BK508.out 2; have hfz22_3 := blk_frozen BK508.out 3; have hfz22_4 := blk_frozen BK508.out 4; have hfz22_5 := blk_frozen BK508.out 5; have hfz22_6 := blk_frozen BK508.out 6; have hfz22_7 := blk_frozen BK508.out 7; have hfz22_8 := blk_frozen BK508.out 8))
                          have n0_ : Aside0 (Kd.R (Kd.int .i64) 2 (((((((((w20.setCell ⟨gb508, 0, none⟩ (.int .i64 0)).setCell ⟨gb508, 1, none⟩ (.int .i64 0)).setCell ⟨gb508, 2, none⟩ (.int .i64 0)).setCell ⟨gb508, 3, none⟩ (.int .i64 0)).setCell ⟨gb508, 4, none⟩ (.int .i64 0)).setCell ⟨gb508, 5, none⟩ (.int .i64 0)).setCell ⟨gb508, 6, none⟩ (.int .i64 0)).setCell ⟨gb508, 7, none⟩ (.int .i64 0)).setCell ⟨gb508, 8, none⟩ (.int .i64 (rd t504 8))) w.heap.size (fun _ => True) (.slice (some ad507) t504.length co19) t504) := ⟨by (with_reducible repeat (first | apply Kd.R_alloc | apply Kd.R_drewN | apply Kd.R_drew)); exact Kd.R_mono (Kd.R_far (p := ⟨gb508, 8, none⟩) (Kd.R_far (p := ⟨gb508, 7, none⟩) (Kd.R_far (p := ⟨gb508, 6, none⟩) (Kd.R_far (p := ⟨gb508, 5, none⟩) (Kd.R_far (p := ⟨gb508, 4, none⟩) (Kd.R_far (p := ⟨gb508, 3, none⟩) (Kd.R_far (p := ⟨gb508, 2, none⟩) (Kd.R_far (p := ⟨gb508, 1, none⟩) (Kd.R_far (p := ⟨gb508, 0, none⟩) (Kd.R_types HO506.out BK508.out (by decide)) (fun _ hk => hk.2) (.int .i64 0)) (fun _ hk => hk.2) (.int .i64 0)) (fun _ hk => hk.2) (.int .i64 0)) (fun _ hk => hk.2) (.int .i64 0)) (fun _ hk => hk.2) (.int .i64 0)) (fun _ hk => hk.2) (.int .i64 0)) (fun _ hk => hk.2) (.int .i64 0)) (fun _ hk => hk.2) (.int .i64 0)) (fun _ hk => hk.2) (.int .i64 (rd t504 8))) (fun _ hk => trivial)⟩
                          have n1_ : Aside0 ((((((((((w20.setCell ⟨gb508, 0, none⟩ (.int .i64 0)).setCell ⟨gb508, 1, none⟩ (.int .i64 0)).setCell ⟨gb508, 2, none⟩ (.int .i64 0)).setCell ⟨gb508, 3, none⟩ (.int .i64 0)).setCell ⟨gb508, 4, none⟩ (.int .i64 0)).setCell ⟨gb508, 5, none⟩ (.int .i64 0)).setCell ⟨gb508, 6, none⟩ (.int .i64 0)).setCell ⟨gb508, 7, none⟩ (.int .i64 0)).setCell ⟨gb508, 8, none⟩ (.int .i64 (rd t504 8))).heap[gb503]? = some (.cells #[.int .i64 0, .int .i64 0, .int .i64 0, .int .i64 0, .int .i64 0, .int .i64 0, .int .i64 0, .int .i64 0, .int .i64 0] 37 (0, 0))) := ⟨by (with_reducible repeat (first | refine blk_drewN ?_ _ | refine blk_drew ?_ | refine blk_alloc ?_ _)); refine blk_far ?_ NB503_508.out _; (with_reducible repeat (first | refine blk_drewN ?_ _ | refine blk_drew ?_ | refine blk_alloc ?_ _)); refine blk_far ?_ NB503_508.out _; (with_reducible repeat (first | refine blk_drewN ?_ _ | refine blk_drew ?_ | refine blk_alloc ?_ _)); refine blk_far ?_ NB503_508.out _; (with_reducible repeat (first | refine blk_drewN ?_ _ | refine blk_drew ?_ | refine blk_alloc ?_ _)); refine blk_far ?_ NB503_508.out _; (with_reducible repeat (first | refine blk_drewN ?_ _ | refine blk_drew ?_ | refine blk_alloc ?_ _)); refine blk_far ?_ NB503_508.out _; (with_reducible repeat (first | refine blk_drewN ?_ _ | refine blk_drew ?_ | refine blk_alloc ?_ _)); refine blk_far ?_ NB503_508.out _; (with_reducible repeat (first | refine blk_drewN ?_ _ | refine blk_drew ?_ | refine blk_alloc ?_ _)); refine blk_far ?_ NB503_508.out _; (with_reducible repeat (first | refine blk_drewN ?_ _ | refine blk_drew ?_ | refine blk_alloc ?_ _)); refine blk_far ?_ NB503_508.out _; (with_reducible repeat (first | refine blk_drewN ?_ _ | refine blk_drew ?_ | refine blk_alloc ?_ _)); refine blk_far ?_ NB503_508.out _; (with_reducible repeat (first | refine blk_drewN ?_ _ | refine blk_drew ?_ | refine blk_alloc ?_ _)); exact BK503.out⟩
                          have n2_ : Aside0 ((((((((((w20.setCell ⟨gb508, 0, none⟩ (.int .i64 0)).setCell ⟨gb508, 1, none⟩ (.int .i64 0)).setCell ⟨gb508, 2, none⟩ (.int .i64 0)).setCell ⟨gb508, 3, none⟩ (.int .i64 0)).setCell ⟨gb508, 4, none⟩ (.int .i64 0)).setCell ⟨gb508, 5, none⟩ (.int .i64 0)).setCell ⟨gb508, 6, none⟩ (.int .i64 0)).setCell ⟨gb508, 7, none⟩ (.int .i64 0)).setCell ⟨gb508, 8, none⟩ (.int .i64 (rd t504 8))).heap[gb508]? = some (.cells #[.int .i64 0, .int .i64 0, .int .i64 0, .int .i64 0, .int .i64 0, .int .i64 0, .int .i64 0, .int .i64 0, .int .i64 (rd t504 8)] 37 (0, 0))) := ⟨by (with_reducible repeat (first | refine blk_drewN ?_ _ | refine blk_drew ?_ | refine blk_alloc ?_ _)); refine blk_put (cs := #[.int .i64 0, .int .i64 0, .int .i64 0, .int .i64 0, .int .i64 0, .int .i64 0, .int .i64 0, .int .i64 0, .int .i64 0]) ?_ 8 _ rfl; (with_reducible repeat (first | refine blk_drewN ?_ _ | refine blk_drew ?_ | refine blk_alloc ?_ _)); refine blk_put (cs := #[.int .i64 0, .int .i64 0, .int .i64 0, .int .i64 0, .int .i64 0, .int .i64 0, .int .i64 0, .int .i64 0, .int .i64 0]) ?_ 7 _ rfl; (with_reducible repeat (first | refine blk_drewN ?_ _ | refine blk_drew ?_ | refine blk_alloc ?_ _)); refine blk_put (cs := #[.int .i64 0, .int .i64 0, .int .i64 0, .int .i64 0, .int .i64 0, .int .i64 0, .int .i64 0, .int .i64 0, .int .i64 0]) ?_ 6 _ rfl; (with_reducible repeat (first | refine blk_drewN ?_ _ | refine blk_drew ?_ | refine blk_alloc ?_ _)); refine blk_put (cs := #[.int .i64 0, .int .i64 0, .int .i64 0, .int .i64 0, .int .i64 0, .int .i64 0, .int .i64 0, .int .i64 0, .int .i64 0]) ?_ 5 _ rfl; (with_reducible repeat (first | refine blk_drewN ?_ _ | refine blk_drew ?_ | refine blk_alloc ?_ _)); refine blk_put (cs := #[.int .i64 0, .int .i64 0, .int .i64 0, .int .i64 0, .int .i64 0, .int .i64 0, .int .i64 0, .int .i64 0, .int .i64 0]) ?_ 4 _ rfl; (with_reducible repeat (first | refine blk_drewN ?_ _ | refine blk_drew ?_ | refine blk_alloc ?_ _)); refine blk_put (cs := #[.int .i64 0, .int .i64 0, .int .i64 0, .int .i64 0, .int .i64 0, .int .i64 0, .int .i64 0, .int .i64 0, .int .i64 0]) ?_ 3 _ rfl; (with_reducible repeat (first | refine blk_drewN ?_ _ | refine blk_drew ?_ | refine blk_alloc ?_ _)); refine blk_put (cs := #[.int .i64 0, .int .i64 0, .int .i64 0, .int .i64 0, .int .i64 0, .int .i64 0, .int .i64 0, .int .i64 0, .int .i64 0]) ?_ 2 _ rfl; (with_reducible repeat (first | refine blk_drewN ?_ _ | refine blk_drew ?_ | refine blk_alloc ?_ _)); refine blk_put (cs := #[.int .i64 0, .int .i64 0, .int .i64 0, .int .i64 0, .int .i64 0, .int .i64 0, .int .i64 0, .int .i64 0, .int .i64 0]) ?_ 1 _ rfl; (with_reducible repeat (first | refine blk_drewN ?_ _ | refine blk_drew ?_ | refine blk_alloc ?_ _)); refine blk_put (cs := #[.int .i64 0, .int .i64 0, .int .i64 0, .int .i64 0, .int .i64 0, .int .i64 0, .int .i64 0, .int .i64 0, .int .i64 0]) ?_ 0 _ rfl; (with_reducible repeat (first | refine blk_drewN ?_ _ | refine blk_drew ?_ | refine blk_alloc ?_ _)); exact BK508.out⟩
                          have n3_ : Aside0 (Below w.heap.size w (((((((((w20.setCell ⟨gb508, 0, none⟩ (.int .i64 0)).setCell ⟨gb508, 1, none⟩ (.int .i64 0)).setCell ⟨gb508, 2, none⟩ (.int .i64 0)).setCell ⟨gb508, 3, none⟩ (.int .i64 0)).setCell ⟨gb508, 4, none⟩ (.int .i64 0)).setCell ⟨gb508, 5, none⟩ (.int .i64 0)).setCell ⟨gb508, 6, none⟩ (.int .i64 0)).setCell ⟨gb508, 7, none⟩ (.int .i64 0)).setCell ⟨gb508, 8, none⟩ (.int .i64 (rd t504 8)))) := ⟨by repeat (first | (with_reducible first | exact HB.out | apply below_alloc | apply pw_below_drewN | apply below_drew1 | refine below_set ?_ GE503.out | refine below_set ?_ GE508.out) | exact HB.out)⟩
                          (try clear HO506)
                          (try clear BK503)
                          (try clear BK508)
                          (try clear HB)
                          generalize (((((((((w20.setCell ⟨gb508, 0, none⟩ (.int .i64 0)).setCell ⟨gb508, 1, none⟩ (.int .i64 0)).setCell ⟨gb508, 2, none⟩ (.int .i64 0)).setCell ⟨gb508, 3, none⟩ (.int .i64 0)).setCell ⟨gb508, 4, none⟩ (.int .i64 0)).setCell ⟨gb508, 5, none⟩ (.int .i64 0)).setCell ⟨gb508, 6, none⟩ (.int .i64 0)).setCell ⟨gb508, 7, none⟩ (.int .i64 0)).setCell ⟨gb508, 8, none⟩ (.int .i64 (rd t504 8))) = w23 at n0_ n1_ n2_ n3_ ⊢
                          have HO506 := n0_
                          have BK503 := n1_
                          have BK508 := n2_
                          have HB := n3_
                          clear n0_ n1_ n2_ n3_
                          have n0_ := Aside0.mk (Kd.R_drew HO506.out)
                          have n1_ := Aside0.mk (blk_drew BK503.out)
                          have n2_ := Aside0.mk (blk_drew BK508.out)
                          have n3_ := Aside0.mk (below_drew1 HB.out)
                          clear HO506
                          clear BK503
                          clear BK508
                          clear HB
                          have HO506 := n0_
                          have BK503 := n1_
                          have BK508 := n2_
                          have HB := n3_
                          clear n0_ n1_ n2_ n3_
                          have p509 : 0 ≤ (0 : Int) := (by omega)
                          have q509 : 0 < (t504.length : Int) := of_decide_eq_true (by first | (with_reducible assumption) | assumption)
                          obtain ⟨ad509, e509, hx509_0⟩ := Kd.at_int (Kd.R_reads' HO506.out).2.2 0 p509 q509
                          obtain rfl : ad507 = ad509 := (by injection e509)
                          have qi509 : (0 < t504.length) = True := eq_true (by omega)
                          (try rw [show ((0 : Int)).toNat = 0 from rfl] at hx509_0)
                          (try rw [Addr.add_zero'] at hx509_0)
                          replace p509 := eq_true p509
                          replace q509 := eq_true q509
                          have p510 : 0 ≤ (1 : Int) := (by omega)
                          have q510 : 1 < (t504.length : Int) := of_decide_eq_true (by first | (with_reducible assumption) | assumption)
                          obtain ⟨ad510, e510, hx510_0⟩ := Kd.at_int (Kd.R_reads' HO506.out).2.2 1 p510 q510
                          obtain rfl : ad507 = ad510 := (by injection e510)
                          (try simp only [show (1 : Int).toNat = 1 from rfl, Nat.reduceMul, Nat.reduceEqDiff, Go.Addr.add, ↓reduceIte] at hx510_0)
                          have qi510 : (1 < t504.length) = True := eq_true (by omega)
                          (try rw [show ((1 : Int)).toNat = 1 from rfl] at hx510_0)
                          replace p510 := eq_true p510
                          replace q510 := eq_true q510
                          have p511 : 0 ≤ (2 : Int) := (by omega)
                          have q511 : 2 < (t504.length : Int) := of_decide_eq_true (by first | (with_reducible assumption) | assumption)
                          obtain ⟨ad511, e511, hx511_0⟩ := Kd.at_int (Kd.R_reads' HO506.out).2.2 2 p511 q511
                          obtain rfl : ad507 = ad511 := (by injection e511)
                          (try simp only [show (2 : Int).toNat = 2 from rfl, Nat.reduceMul, Nat.reduceEqDiff, Go.Addr.add, ↓reduceIte] at hx511_0)
                          have qi511 : (2 < t504.length) = True := eq_true (by omega)
                          (try rw [show ((2 : Int)).toNat = 2 from rfl] at hx511_0)
                          replace p511 := eq_true p511
                          replace q511 := eq_true q511
                          have p512 : 0 ≤ (3 : Int) := (by omega)
                          have q512 : 3 < (t504.length : Int) := of_decide_eq_true (by first | (with_reducible assumption) | assumption)
                          obtain ⟨ad512, e512, hx512_0⟩ := Kd.at_int (Kd.R_reads' HO506.out).2.2 3 p512 q512
                          obtain rfl : ad507 = ad512 := (by injection e512)
                          (try simp only [show (3 : Int).toNat = 3 from rfl, Nat.reduceMul, Nat.reduceEqDiff, Go.Addr.add, ↓reduceIte] at hx512_0)
                          have qi512 : (3 < t504.length) = True := eq_true (by omega)
                          (try rw [show ((3 : Int)).toNat = 3 from rfl] at hx512_0)
                          replace p512 := eq_true p512
                          replace q512 := eq_true q512
                          refine start_ (n := 15) (S := fun w' => w'.cell? ad507 = some (.int .i64 (rd t504 0)) ∧ w'.cell? ⟨ad507.block, ad507.off + 1, none⟩ = some (.int .i64 (rd t504 1)) ∧ w'.cell? ⟨ad507.block, ad507.off + 2, none⟩ = some (.int .i64 (rd t504 2)) ∧ w'.cell? ⟨ad507.block, ad507.off + 3, none⟩ = some (.int .i64 (rd t504 3))) (ds := []) #[false, false, false, false, false, false, false, false, false, false, false, false, false, false, false] (by kernel_rfl) rfl rfl ⟨hx509_0, hx510_0, hx511_0, hx512_0⟩ (fun hHeld => ?_); refine with_tabW spec_ReadMachine.tab5 spec_ReadMachine.bits5 (fun HT_ HW_ => ?_)
                          generalize w23.drew = w24 at HO506 BK503 BK508 HB hx509_0 hx510_0 hx511_0 hx512_0 hHeld ⊢
                          refine pure_ (i := 0) (N := some 16) (v := ?_) (a' := ?_) #[true, false, false, false, false, false, false, false, false, false, false, false, false, false, false] rfl rfl (any_of HT_.out (by kernel_rfl)) (fun _ _ _ h => h) (Or.inl ⟨by rfl, ?_⟩) ?_ ?_
                          rotate_left
                          · intro w'
                            go_simp
                            with_reducible rfl
                          rotate_left
                          · simp only [Act.put, List.setIfInBounds_toArray, List.set_cons_zero, List.set_cons_succ, i64_w, i32_w]
                            rfl
                          refine pure_ (i := 1) (N := some 17) (v := ?_) (a' := ?_) #[true, true, false, false, false, false, false, false, false, false, false, false, false, false, false] rfl rfl (any_of HT_.out (by kernel_rfl)) (fun _ _ _ h => h) (Or.inl ⟨by rfl, ?_⟩) ?_ ?_
                          rotate_left
                          · intro w'
                            go_simp
                            with_reducible rfl
                          rotate_left
                          · simp only [Act.put, List.setIfInBounds_toArray, List.set_cons_zero, List.set_cons_succ, i64_w, i32_w]
                            rfl
                          refine pure_ (i := 3) (N := some 19) (v := ?_) (a' := ?_) #[true, true, false, true, false, false, false, false, false, false, false, false, false, false, false] rfl rfl (any_of HT_.out (by kernel_rfl)) (fun _ _ _ h => h) (Or.inl ⟨by rfl, ?_⟩) ?_ ?_
                          rotate_left
                          · intro w'
                            go_simp
                            with_reducible rfl
                          rotate_left
                          · simp only [Act.put, List.setIfInBounds_toArray, List.set_cons_zero, List.set_cons_succ, i64_w, i32_w]
                            rfl
                          refine pure_ (i := 4) (N := some 20) (v := ?_) (a' := ?_) #[true, true, false, true, true, false, false, false, false, false, false, false, false, false, false] rfl rfl (any_of HT_.out (by kernel_rfl)) (fun _ _ _ h => h) (Or.inl ⟨by rfl, ?_⟩) ?_ ?_
                          rotate_left
                          · intro w'
                            go_simp
                            with_reducible rfl
                          rotate_left
                          · simp only [Act.put, List.setIfInBounds_toArray, List.set_cons_zero, List.set_cons_succ, i64_w, i32_w]
                            rfl
                          refine pure_ (i := 6) (N := some 22) (v := ?_) (a' := ?_) #[true, true, false, true, true, false, true, false, false, false, false, false, false, false, false] rfl rfl (any_of HT_.out (by kernel_rfl)) (fun _ _ _ h => h) (Or.inl ⟨by rfl, ?_⟩) ?_ ?_
                          rotate_left
                          · intro w'
                            go_simp
                            with_reducible rfl
                          rotate_left
                          · simp only [Act.put, List.setIfInBounds_toArray, List.set_cons_zero, List.set_cons_succ, i64_w, i32_w]
                            rfl
                          refine pure_ (i := 7) (N := some 23) (v := ?_) (a' := ?_) #[true, true, false, true, true, false, true, true, false, false, false, false, false, false, false] rfl rfl (any_of HT_.out (by kernel_rfl)) (fun _ _ _ h => h) (Or.inl ⟨by rfl, ?_⟩) ?_ ?_
                          rotate_left
                          · intro w'
                            go_simp
                            with_reducible rfl
                          rotate_left
                          · simp only [Act.put, List.setIfInBounds_toArray, List.set_cons_zero, List.set_cons_succ, i64_w, i32_w]
                            rfl
                          refine pure_ (i := 9) (N := some 25) (v := ?_) (a' := ?_) #[true, true, false, true, true, false, true, true, false, true, false, false, false, false, false] rfl rfl (any_of HT_.out (by kernel_rfl)) (fun _ _ _ h => h) (Or.inl ⟨by rfl, ?_⟩) ?_ ?_
                          rotate_left
                          · intro w'
                            go_simp
                            with_reducible rfl
                          rotate_left
                          · simp only [Act.put, List.setIfInBounds_toArray, List.set_cons_zero, List.set_cons_succ, i64_w, i32_w]
                            rfl
                          refine pure_ (i := 10) (N := some 26) (v := ?_) (a' := ?_) #[true, true, false, true, true, false, true, true, false, true, true, false, false, false, false] rfl rfl (any_of HT_.out (by kernel_rfl)) (fun _ _ _ h => h) (Or.inl ⟨by rfl, ?_⟩) ?_ ?_
                          rotate_left
                          · intro w'
                            go_simp
                            with_reducible rfl
                          rotate_left
                          · simp only [Act.put, List.setIfInBounds_toArray, List.set_cons_zero, List.set_cons_succ, i64_w, i32_w]
                            rfl
                          refine take_ (i := 2) (N := some 18) (v := ?_) (a' := ?_) #[true, true, true, true, true, false, true, true, false, true, true, false, false, false, false] rfl rfl (take_ofW HT_.out HW_.out (by kernel_rfl)) (fun _ _ _ h => h) (Or.inl ⟨by rfl, ?_⟩) hHeld ?_ ?_
                          rotate_left
                          · rintro w' ⟨s0, s1, s2, s3⟩
                            go_simp
                            with_reducible rfl
                          rotate_left
                          · simp only [Act.put, List.setIfInBounds_toArray, List.set_cons_zero, List.set_cons_succ, i64_w, i32_w]
                            rfl
                          refine take_ (i := 5) (N := some 21) (v := ?_) (a' := ?_) #[true, true, true, true, true, true, true, true, false, true, true, false, false, false, false] rfl rfl (take_ofW HT_.out HW_.out (by kernel_rfl)) (fun _ _ _ h => h) (Or.inl ⟨by rfl, ?_⟩) hHeld ?_ ?_
                          rotate_left
                          · rintro w' ⟨s0, s1, s2, s3⟩
                            go_simp
                            with_reducible rfl
                          rotate_left
                          · simp only [Act.put, List.setIfInBounds_toArray, List.set_cons_zero, List.set_cons_succ, i64_w, i32_w]
                            rfl
                          refine take_ (i := 8) (N := some 24) (v := ?_) (a' := ?_) #[true, true, true, true, true, true, true, true, true, true, true, false, false, false, false] rfl rfl (take_ofW HT_.out HW_.out (by kernel_rfl)) (fun _ _ _ h => h) (Or.inl ⟨by rfl, ?_⟩) hHeld ?_ ?_
                          rotate_left
                          · rintro w' ⟨s0, s1, s2, s3⟩
                            go_simp
                            with_reducible rfl
                          rotate_left
                          · simp only [Act.put, List.setIfInBounds_toArray, List.set_cons_zero, List.set_cons_succ, i64_w, i32_w]
                            rfl
                          refine take_ (i := 11) (N := some 27) (v := ?_) (a' := ?_) #[true, true, true, true, true, true, true, true, true, true, true, true, false, false, false] rfl rfl (take_ofW HT_.out HW_.out (by kernel_rfl)) (fun _ _ _ h => h) (Or.inl ⟨by rfl, ?_⟩) hHeld ?_ ?_
                          rotate_left
                          · rintro w' ⟨s0, s1, s2, s3⟩
                            go_simp
                            with_reducible rfl
                          rotate_left
                          · simp only [Act.put, List.setIfInBounds_toArray, List.set_cons_zero, List.set_cons_succ, i64_w, i32_w]
                            rfl
                          refine pure_ (i := 12) (N := some 28) (v := ?_) (a' := ?_) #[true, true, true, true, true, true, true, true, true, true, true, true, true, false, false] rfl rfl (any_of HT_.out (by kernel_rfl)) (fun _ _ _ h => h) (Or.inl ⟨by rfl, ?_⟩) ?_ ?_
                          rotate_left
                          · intro w'
                            go_simp
                            with_reducible rfl
                          rotate_left
                          · simp only [Act.put, List.setIfInBounds_toArray, List.set_cons_zero, List.set_cons_succ, i64_w, i32_w]
                            rfl
                          refine pure_ (i := 13) (N := some 29) (v := ?_) (a' := ?_) #[true, true, true, true, true, true, true, true, true, true, true, true, true, true, false] rfl rfl (any_of HT_.out (by kernel_rfl)) (fun _ _ _ h => h) (Or.inl ⟨by rfl, ?_⟩) ?_ ?_
                          rotate_left
                          · intro w'
                            go_simp
                            with_reducible rfl
                          rotate_left
                          · simp only [Act.put, List.setIfInBounds_toArray, List.set_cons_zero, List.set_cons_succ, i64_w, i32_w]
                            rfl
                          refine one_ (i := 14) (N := none) #[true, true, true, true, true, true, true, true, true, true, true, true, true, true, true] rfl rfl (one_of HT_.out (by kernel_rfl)) (by decide) (fun K hK => ?_)
                          have hs25 : w24.cell? ⟨gb508, 0, none⟩ = some (.int .i64 0) := (blk_cell BK508.out 0).trans rfl
                          have hfs25 := blk_frozen BK508.out 0
                          have hns25_0 := NB503_508.out
                          have hms25_0 := NB508_503.out
                          have hs26 : w24.cell? ⟨gb508, 1, none⟩ = some (.int .i64 0) := (blk_cell BK508.out 1).trans rfl
                          have hfs26 := blk_frozen BK508.out 1
                          have hns26_0 := NB503_508.out
                          have hms26_0 := NB508_503.out
                          have hs27 : w24.cell? ⟨gb508, 2, none⟩ = some (.int .i64 0) := (blk_cell BK508.out 2).trans rfl
                          have hfs27 := blk_frozen BK508.out 2
                          have hns27_0 := NB503_508.out
                          have hms27_0 := NB508_503.out
                          have hs28 : w24.cell? ⟨gb508, 3, none⟩ = some (.int .i64 0) := (blk_cell BK508.out 3).trans rfl
                          have hfs28 := blk_frozen BK508.out 3
                          have hns28_0 := NB503_508.out
                          have hms28_0 := NB508_503.out
                          refine skip_ (w1 := ?_) (by rfl) rfl ?_ ?_
                          rotate_left
                          · go_simp
                            rfl
                          refine hK.out _ _ ⟨((cell_far (p := ⟨gb508, _, none⟩) (by first | (dsimp only; exact Kd.own_blk (Kd.R_ne HO506.out BK508.out (by decide))) | exact Kd.own_blk (Kd.R_ne HO506.out BK508.out (by decide)) | (rw [add_block]; exact Kd.own_blk (Kd.R_ne HO506.out BK508.out (by decide))) | (show (Addr.add _ _).block ≠ _; rw [add_block]; exact Kd.own_blk (Kd.R_ne HO506.out BK508.out (by decide)))) _).trans (((cell_far (p := ⟨gb508, _, none⟩) (by first | (dsimp only; exact Kd.own_blk (Kd.R_ne HO506.out BK508.out (by decide))) | exact Kd.own_blk (Kd.R_ne HO506.out BK508.out (by decide)) | (rw [add_block]; exact Kd.own_blk (Kd.R_ne HO506.out BK508.out (by decide))) | (show (Addr.add _ _).block ≠ _; rw [add_block]; exact Kd.own_blk (Kd.R_ne HO506.out BK508.out (by decide)))) _).trans (((cell_far (p := ⟨gb508, _, none⟩) (by first | (dsimp only; exact Kd.own_blk (Kd.R_ne HO506.out BK508.out (by decide))) | exact Kd.own_blk (Kd.R_ne HO506.out BK508.out (by decide)) | (rw [add_block]; exact Kd.own_blk (Kd.R_ne HO506.out BK508.out (by decide))) | (show (Addr.add _ _).block ≠ _; rw [add_block]; exact Kd.own_blk (Kd.R_ne HO506.out BK508.out (by decide)))) _).trans (((cell_far (p := ⟨gb508, _, none⟩) (by first | (dsimp only; exact Kd.own_blk (Kd.R_ne HO506.out BK508.out (by decide))) | exact Kd.own_blk (Kd.R_ne HO506.out BK508.out (by decide)) | (rw [add_block]; exact Kd.own_blk (Kd.R_ne HO506.out BK508.out (by decide))) | (show (Addr.add _ _).block ≠ _; rw [add_block]; exact Kd.own_blk (Kd.R_ne HO506.out BK508.out (by decide)))) _).trans (hHeld.1)))))))), ((cell_far (p := ⟨gb508, _, none⟩) (by first | (dsimp only; exact Kd.own_blk (Kd.R_ne HO506.out BK508.out (by decide))) | exact Kd.own_blk (Kd.R_ne HO506.out BK508.out (by decide)) | (rw [add_block]; exact Kd.own_blk (Kd.R_ne HO506.out BK508.out (by decide))) | (show (Addr.add _ _).block ≠ _; rw [add_block]; exact Kd.own_blk (Kd.R_ne HO506.out BK508.out (by decide)))) _).trans (((cell_far (p := ⟨gb508, _, none⟩) (by first | (dsimp only; exact Kd.own_blk (Kd.R_ne HO506.out BK508.out (by decide))) | exact Kd.own_blk (Kd.R_ne HO506.out BK508.out (by decide)) | (rw [add_block]; exact Kd.own_blk (Kd.R_ne HO506.out BK508.out (by decide))) | (show (Addr.add _ _).block ≠ _; rw [add_block]; exact Kd.own_blk (Kd.R_ne HO506.out BK508.out (by decide)))) _).trans (((cell_far (p := ⟨gb508, _, none⟩) (by first | (dsimp only; exact Kd.own_blk (Kd.R_ne HO506.out BK508.out (by decide))) | exact Kd.own_blk (Kd.R_ne HO506.out BK508.out (by decide)) | (rw [add_block]; exact Kd.own_blk (Kd.R_ne HO506.out BK508.out (by decide))) | (show (Addr.add _ _).block ≠ _; rw [add_block]; exact Kd.own_blk (Kd.R_ne HO506.out BK508.out (by decide)))) _).trans (((cell_far (p := ⟨gb508, _, none⟩) (by first | (dsimp only; exact Kd.own_blk (Kd.R_ne HO506.out BK508.out (by decide))) | exact Kd.own_blk (Kd.R_ne HO506.out BK508.out (by decide)) | (rw [add_block]; exact Kd.own_blk (Kd.R_ne HO506.out BK508.out (by decide))) | (show (Addr.add _ _).block ≠ _; rw [add_block]; exact Kd.own_blk (Kd.R_ne HO506.out BK508.out (by decide)))) _).trans (hHeld.2.1)))))))), ((cell_far (p := ⟨gb508, _, none⟩) (by first | (dsimp only; exact Kd.own_blk (Kd.R_ne HO506.out BK508.out (by decide))) | exact Kd.own_blk (Kd.R_ne HO506.out BK508.out (by decide)) | (rw [add_block]; exact Kd.own_blk (Kd.R_ne HO506.out BK508.out (by decide))) | (show (Addr.add _ _).block ≠ _; rw [add_block]; exact Kd.own_blk (Kd.R_ne HO506.out BK508.out (by decide)))) _).trans (((cell_far (p := ⟨gb508, _, none⟩) (by first | (dsimp only; exact Kd.own_blk (Kd.R_ne HO506.out BK508.out (by decide))) | exact Kd.own_blk (Kd.R_ne HO506.out BK508.out (by decide)) | (rw [add_block]; exact Kd.own_blk (Kd.R_ne HO506.out BK508.out (by decide))) | (show (Addr.add _ _).block ≠ _; rw [add_block]; exact Kd.own_blk (Kd.R_ne HO506.out BK508.out (by decide)))) _).trans (((cell_far (p := ⟨gb508, _, none⟩) (by first | (dsimp only; exact Kd.own_blk (Kd.R_ne HO506.out BK508.out (by decide))) | exact Kd.own_blk (Kd.R_ne HO506.out BK508.out (by decide)) | (rw [add_block]; exact Kd.own_blk (Kd.R_ne HO506.out BK508.out (by decide))) | (show (Addr.add _ _).block ≠ _; rw [add_block]; exact Kd.own_blk (Kd.R_ne HO506.out BK508.out (by decide)))) _).trans (((cell_far (p := ⟨gb508, _, none⟩) (by first | (dsimp only; exact Kd.own_blk (Kd.R_ne HO506.out BK508.out (by decide))) | exact Kd.own_blk (Kd.R_ne HO506.out BK508.out (by decide)) | (rw [add_block]; exact Kd.own_blk (Kd.R_ne HO506.out BK508.out (by decide))) | (show (Addr.add _ _).block ≠ _; rw [add_block]; exact Kd.own_blk (Kd.R_ne HO506.out BK508.out (by decide)))) _).trans (hHeld.2.2.1)))))))), ((cell_far (p := ⟨gb508, _, none⟩) (by first | (dsimp only; exact Kd.own_blk (Kd.R_ne HO506.out BK508.out (by decide))) | exact Kd.own_blk (Kd.R_ne HO506.out BK508.out (by decide)) | (rw [add_block]; exact Kd.own_blk (Kd.R_ne HO506.out BK508.out (by decide))) | (show (Addr.add _ _).block ≠ _; rw [add_block]; exact Kd.own_blk (Kd.R_ne HO506.out BK508.out (by decide)))) _).trans (((cell_far (p := ⟨gb508, _, none⟩) (by first | (dsimp only; exact Kd.own_blk (Kd.R_ne HO506.out BK508.out (by decide))) | exact Kd.own_blk (Kd.R_ne HO506.out BK508.out (by decide)) | (rw [add_block]; exact Kd.own_blk (Kd.R_ne HO506.out BK508.out (by decide))) | (show (Addr.add _ _).block ≠ _; rw [add_block]; exact Kd.own_blk (Kd.R_ne HO506.out BK508.out (by decide)))) _).trans (((cell_far (p := ⟨gb508, _, none⟩) (by first | (dsimp only; exact Kd.own_blk (Kd.R_ne HO506.out BK508.out (by decide))) | exact Kd.own_blk (Kd.R_ne HO506.out BK508.out (by decide)) | (rw [add_block]; exact Kd.own_blk (Kd.R_ne HO506.out BK508.out (by decide))) | (show (Addr.add _ _).block ≠ _; rw [add_block]; exact Kd.own_blk (Kd.R_ne HO506.out BK508.out (by decide)))) _).trans (((cell_far (p := ⟨gb508, _, none⟩) (by first | (dsimp only; exact Kd.own_blk (Kd.R_ne HO506.out BK508.out (by decide))) | exact Kd.own_blk (Kd.R_ne HO506.out BK508.out (by decide)) | (rw [add_block]; exact Kd.own_blk (Kd.R_ne HO506.out BK508.out (by decide))) | (show (Addr.add _ _).block ≠ _; rw [add_block]; exact Kd.own_blk (Kd.R_ne HO506.out BK508.out (by decide)))) _).trans (hHeld.2.2.2))))))))⟩ (fun hHeld => ?_)
                          clear hK K
                          refine done_ (done_of HT_.out (by kernel_rfl)) ?_
                          try go_wp2
                          have n0_ : Aside0 (Kd.R (Kd.int .i64) 2 ((((w24.setCell ⟨gb508, 0, none⟩ (.int .i64 (rd t504 0))).setCell ⟨gb508, 1, none⟩ (.int .i64 (rd t504 1))).setCell ⟨gb508, 2, none⟩ (.int .i64 (rd t504 2))).setCell ⟨gb508, 3, none⟩ (.int .i64 (rd t504 3))) w.heap.size (fun _ => True) (.slice (some ad507) t504.length co19) t504) := ⟨by (with_reducible repeat (first | apply Kd.R_alloc | apply Kd.R_drewN | apply Kd.R_drew)); exact Kd.R_mono (Kd.R_far (p := ⟨gb508, 3, none⟩) (Kd.R_far (p := ⟨gb508, 2, none⟩) (Kd.R_far (p := ⟨gb508, 1, none⟩) (Kd.R_far (p := ⟨gb508, 0, none⟩) (Kd.R_types HO506.out BK508.out (by decide)) (fun _ hk => hk.2) (.int .i64 (rd t504 0))) (fun _ hk => hk.2) (.int .i64 (rd t504 1))) (fun _ hk => hk.2) (.int .i64 (rd t504 2))) (fun _ hk => hk.2) (.int .i64 (rd t504 3))) (fun _ hk => trivial)⟩
                          have n1_ : Aside0 (((((w24.setCell ⟨gb508, 0, none⟩ (.int .i64 (rd t504 0))).setCell ⟨gb508, 1, none⟩ (.int .i64 (rd t504 1))).setCell ⟨gb508, 2, none⟩ (.int .i64 (rd t504 2))).setCell ⟨gb508, 3, none⟩ (.int .i64 (rd t504 3))).heap[gb503]? = some (.cells #[.int .i64 0, .int .i64 0, .int .i64 0, .int .i64 0, .int .i64 0, .int .i64 0, .int .i64 0, .int .i64 0, .int .i64 0] 37 (0, 0))) := ⟨by (with_reducible repeat (first | refine blk_drewN ?_ _ | refine blk_drew ?_ | refine blk_alloc ?_ _)); refine blk_far ?_ NB503_508.out _; (with_reducible repeat (first | refine blk_drewN ?_ _ | refine blk_drew ?_ | refine blk_alloc ?_ _)); refine blk_far ?_ NB503_508.out _; (with_reducible repeat (first | refine blk_drewN ?_ _ | refine blk_drew ?_ | refine blk_alloc ?_ _)); refine blk_far ?_ NB503_508.out _; (with_reducible repeat (first | refine blk_drewN ?_ _ | refine blk_drew ?_ | refine blk_alloc ?_ _)); refine blk_far ?_ NB503_508.out _; (with_reducible repeat (first | refine blk_drewN ?_ _ | refine blk_drew ?_ | refine blk_alloc ?_ _)); exact BK503.out⟩
                          have n2_ : Aside0 (((((w24.setCell ⟨gb508, 0, none⟩ (.int .i64 (rd t504 0))).setCell ⟨gb508, 1, none⟩ (.int .i64 (rd t504 1))).setCell ⟨gb508, 2, none⟩ (.int .i64 (rd t504 2))).setCell ⟨gb508, 3, none⟩ (.int .i64 (rd t504 3))).heap[gb508]? = some (.cells #[.int .i64 (rd t504 0), .int .i64 (rd t504 1), .int .i64 (rd t504 2), .int .i64 (rd t504 3), .int .i64 0, .int .i64 0, .int .i64 0, .int .i64 0, .int .i64 (rd t504 8)] 37 (0, 0))) := ⟨by (with_reducible repeat (first | refine blk_drewN ?_ _ | refine blk_drew ?_ | refine blk_alloc ?_ _)); refine blk_put (cs := #[.int .i64 (rd t504 0), .int .i64 (rd t504 1), .int .i64 (rd t504 2), .int .i64 0, .int .i64 0, .int .i64 0, .int .i64 0, .int .i64 0, .int .i64 (rd t504 8)]) ?_ 3 _ rfl; (with_reducible repeat (first | refine blk_drewN ?_ _ | refine blk_drew ?_ | refine blk_alloc ?_ _)); refine blk_put (cs := #[.int .i64 (rd t504 0), .int .i64 (rd t504 1), .int .i64 0, .int .i64 0, .int .i64 0, .int .i64 0, .int .i64 0, .int .i64 0, .int .i64 (rd t504 8)]) ?_ 2 _ rfl; (with_reducible repeat (first | refine blk_drewN ?_ _ | refine blk_drew ?_ | refine blk_alloc ?_ _)); refine blk_put (cs := #[.int .i64 (rd t504 0), .int .i64 0, .int .i64 0, .int .i64 0, .int .i64 0, .int .i64 0, .int .i64 0, .int .i64 0, .int .i64 (rd t504 8)]) ?_ 1 _ rfl; (with_reducible repeat (first | refine blk_drewN ?_ _ | refine blk_drew ?_ | refine blk_alloc ?_ _)); refine blk_put (cs := #[.int .i64 0, .int .i64 0, .int .i64 0, .int .i64 0, .int .i64 0, .int .i64 0, .int .i64 0, .int .i64 0, .int .i64 (rd t504 8)]) ?_ 0 _ rfl; (with_reducible repeat (first | refine blk_drewN ?_ _ | refine blk_drew ?_ | refine blk_alloc ?_ _)); exact BK508.out⟩
                          have n3_ : Aside0 (Below w.heap.size w ((((w24.setCell ⟨gb508, 0, none⟩ (.int .i64 (rd t504 0))).setCell ⟨gb508, 1, none⟩ (.int .i64 (rd t504 1))).setCell ⟨gb508, 2, none⟩ (.int .i64 (rd t504 2))).setCell ⟨gb508, 3, none⟩ (.int .i64 (rd t504 3)))) := ⟨by repeat (first | (with_reducible first | exact HB.out | apply below_alloc | apply pw_below_drewN | apply below_drew1 | refine below_set ?_ GE503.out | refine below_set ?_ GE508.out) | exact HB.out)⟩
                          (try clear HO506)
                          (try clear BK503)
                          (try clear BK508)
                          (try clear HB)
                          generalize ((((w24.setCell ⟨gb508, 0, none⟩ (.int .i64 (rd t504 0))).setCell ⟨gb508, 1, none⟩ (.int .i64 (rd t504 1))).setCell ⟨gb508, 2, none⟩ (.int .i64 (rd t504 2))).setCell ⟨gb508, 3, none⟩ (.int .i64 (rd t504 3))) = w29 at n0_ n1_ n2_ n3_ ⊢
                          have HO506 := n0_
                          have BK503 := n1_
                          have BK508 := n2_
                          have HB := n3_
                          clear n0_ n1_ n2_ n3_
                          have n0_ := Aside0.mk (Kd.R_drew HO506.out)
                          have n1_ := Aside0.mk (blk_drew BK503.out)
                          have n2_ := Aside0.mk (blk_drew BK508.out)
                          have n3_ := Aside0.mk (below_drew1 HB.out)
                          clear HO506
                          clear BK503
                          clear BK508
                          clear HB
                          have HO506 := n0_
                          have BK503 := n1_
                          have BK508 := n2_
                          have HB := n3_
                          clear n0_ n1_ n2_ n3_
                          have p513 : 0 ≤ (4 : Int) := (by omega)
                          have q513 : 4 < (t504.length : Int) := of_decide_eq_true (by first | (with_reducible assumption) | assumption)
                          obtain ⟨ad513, e513, hx513_0⟩ := Kd.at_int (Kd.R_reads' HO506.out).2.2 4 p513 q513
                          obtain rfl : ad507 = ad513 := (by injection e513)
                          (try simp only [show (4 : Int).toNat = 4 from rfl, Nat.reduceMul, Nat.reduceEqDiff, Go.Addr.add, ↓reduceIte] at hx513_0)
                          have qi513 : (4 < t504.length) = True := eq_true (by omega)
                          (try rw [show ((4 : Int)).toNat = 4 from rfl] at hx513_0)
                          replace p513 := eq_true p513
                          replace q513 := eq_true q513
                          have p514 : 0 ≤ (5 : Int) := (by omega)
                          have q514 : 5 < (t504.length : Int) := of_decide_eq_true (by first | (with_reducible assumption) | assumption)
                          obtain ⟨ad514, e514, hx514_0⟩ := Kd.at_int (Kd.R_reads' HO506.out).2.2 5 p514 q514
                          obtain rfl : ad507 = ad514 := (by injection e514)
                          (try simp only [show (5 : Int).toNat = 5 from rfl, Nat.reduceMul, Nat.reduceEqDiff, Go.Addr.add, ↓reduceIte] at hx514_0)
                          have qi514 : (5 < t504.length) = True := eq_true (by omega)
                          (try rw [show ((5 : Int)).toNat = 5 from rfl] at hx514_0)
                          replace p514 := eq_true p514
                          replace q514 := eq_true q514
                          have p515 : 0 ≤ (6 : Int) := (by omega)
                          have q515 : 6 < (t504.length : Int) := of_decide_eq_true (by first | (with_reducible assumption) | assumption)
                          obtain ⟨ad515, e515, hx515_0⟩ := Kd.at_int (Kd.R_reads' HO506.out).2.2 6 p515 q515
                          obtain rfl : ad507 = ad515 := (by injection e515)
                          (try simp only [show (6 : Int).toNat = 6 from rfl, Nat.reduceMul, Nat.reduceEqDiff, Go.Addr.add, ↓reduceIte] at hx515_0)
                          have qi515 : (6 < t504.length) = True := eq_true (by omega)
                          (try rw [show ((6 : Int)).toNat = 6 from rfl] at hx515_0)
                          replace p515 := eq_true p515
                          replace q515 := eq_true q515
                          have p516 : 0 ≤ (7 : Int) := (by omega)
                          have q516 : 7 < (t504.length : Int) := of_decide_eq_true (by first | (with_reducible assumption) | assumption)
                          obtain ⟨ad516, e516, hx516_0⟩ := Kd.at_int (Kd.R_reads' HO506.out).2.2 7 p516 q516
                          obtain rfl : ad507 = ad516 := (by injection e516)
                          (try simp only [show (7 : Int).toNat = 7 from rfl, Nat.reduceMul, Nat.reduceEqDiff, Go.Addr.add, ↓reduceIte] at hx516_0)
                          have qi516 : (7 < t504.length) = True := eq_true (by omega)
                          (try rw [show ((7 : Int)).toNat = 7 from rfl] at hx516_0)
                          replace p516 := eq_true p516
                          replace q516 := eq_true q516
                          refine start_ (n := 15) (S := fun w' => w'.cell? ⟨ad507.block, ad507.off + 4, none⟩ = some (.int .i64 (rd t504 4)) ∧ w'.cell? ⟨ad507.block, ad507.off + 5, none⟩ = some (.int .i64 (rd t504 5)) ∧ w'.cell? ⟨ad507.block, ad507.off + 6, none⟩ = some (.int .i64 (rd t504 6)) ∧ w'.cell? ⟨ad507.block, ad507.off + 7, none⟩ = some (.int .i64 (rd t504 7))) (ds := []) #[false, false, false, false, false, false, false, false, false, false, false, false, false, false, false] (by kernel_rfl) rfl rfl ⟨hx513_0, hx514_0, hx515_0, hx516_0⟩ (fun hHeld => ?_); refine with_tabW spec_ReadMachine.tab6 spec_ReadMachine.bits6 (fun HT_ HW_ => ?_)
                          generalize w29.drew = w30 at HO506 BK503 BK508 HB hx513_0 hx514_0 hx515_0 hx516_0 hHeld ⊢
                          refine pure_ (i := 0) (N := some 30) (v := ?_) (a' := ?_) #[true, false, false, false, false, false, false, false, false, false, false, false, false, false, false] rfl rfl (any_of HT_.out (by kernel_rfl)) (fun _ _ _ h => h) (Or.inl ⟨by rfl, ?_⟩) ?_ ?_
                          rotate_left
                          · intro w'
                            go_simp
                            with_reducible rfl
                          rotate_left
                          · simp only [Act.put, List.setIfInBounds_toArray, List.set_cons_zero, List.set_cons_succ, i64_w, i32_w]
                            rfl
                          refine pure_ (i := 1) (N := some 31) (v := ?_) (a' := ?_) #[true, true, false, false, false, false, false, false, false, false, false, false, false, false, false] rfl rfl (any_of HT_.out (by kernel_rfl)) (fun _ _ _ h => h) (Or.inl ⟨by rfl, ?_⟩) ?_ ?_
                          rotate_left
                          · intro w'
                            go_simp
                            with_reducible rfl
                          rotate_left
                          · simp only [Act.put, List.setIfInBounds_toArray, List.set_cons_zero, List.set_cons_succ, i64_w, i32_w]
                            rfl
                          refine pure_ (i := 3) (N := some 33) (v := ?_) (a' := ?_) #[true, true, false, true, false, false, false, false, false, false, false, false, false, false, false] rfl rfl (any_of HT_.out (by kernel_rfl)) (fun _ _ _ h => h) (Or.inl ⟨by rfl, ?_⟩) ?_ ?_
                          rotate_left
                          · intro w'
                            go_simp
                            with_reducible rfl
                          rotate_left
                          · simp only [Act.put, List.setIfInBounds_toArray, List.set_cons_zero, List.set_cons_succ, i64_w, i32_w]
                            rfl
                          refine pure_ (i := 4) (N := some 34) (v := ?_) (a' := ?_) #[true, true, false, true, true, false, false, false, false, false, false, false, false, false, false] rfl rfl (any_of HT_.out (by kernel_rfl)) (fun _ _ _ h => h) (Or.inl ⟨by rfl, ?_⟩) ?_ ?_
                          rotate_left
                          · intro w'
                            go_simp
                            with_reducible rfl
                          rotate_left
                          · simp only [Act.put, List.setIfInBounds_toArray, List.set_cons_zero, List.set_cons_succ, i64_w, i32_w]
                            rfl
                          refine pure_ (i := 6) (N := some 36) (v := ?_) (a' := ?_) #[true, true, false, true, true, false, true, false, false, false, false, false, false, false, false] rfl rfl (any_of HT_.out (by kernel_rfl)) (fun _ _ _ h => h) (Or.inl ⟨by rfl, ?_⟩) ?_ ?_
                          rotate_left
                          · intro w'
                            go_simp
                            with_reducible rfl
                          rotate_left
                          · simp only [Act.put, List.setIfInBounds_toArray, List.set_cons_zero, List.set_cons_succ, i64_w, i32_w]
                            rfl
                          refine pure_ (i := 7) (N := some 37) (v := ?_) (a' := ?_) #[true, true, false, true, true, false, true, true, false, false, false, false, false, false, false] rfl rfl (any_of HT_.out (by kernel_rfl)) (fun _ _ _ h => h) (Or.inl ⟨by rfl, ?_⟩) ?_ ?_
                          rotate_left
                          · intro w'
                            go_simp
                            with_reducible rfl
                          rotate_left
                          · simp only [Act.put, List.setIfInBounds_toArray, List.set_cons_zero, List.set_cons_succ, i64_w, i32_w]
                            rfl
                          refine pure_ (i := 9) (N := some 39) (v := ?_) (a' := ?_) #[true, true, false, true, true, false, true, true, false, true, false, false, false, false, false] rfl rfl (any_of HT_.out (by kernel_rfl)) (fun _ _ _ h => h) (Or.inl ⟨by rfl, ?_⟩) ?_ ?_
                          rotate_left
                          · intro w'
                            go_simp
                            with_reducible rfl
                          rotate_left
                          · simp only [Act.put, List.setIfInBounds_toArray, List.set_cons_zero, List.set_cons_succ, i64_w, i32_w]
                            rfl
                          refine pure_ (i := 10) (N := some 40) (v := ?_) (a' := ?_) #[true, true, false, true, true, false, true, true, false, true, true, false, false, false, false] rfl rfl (any_of HT_.out (by kernel_rfl)) (fun _ _ _ h => h) (Or.inl ⟨by rfl, ?_⟩) ?_ ?_
                          rotate_left
                          · intro w'
                            go_simp
                            with_reducible rfl
                          rotate_left
                          · simp only [Act.put, List.setIfInBounds_toArray, List.set_cons_zero, List.set_cons_succ, i64_w, i32_w]
                            rfl
                          refine take_ (i := 2) (N := some 32) (v := ?_) (a' := ?_) #[true, true, true, true, true, false, true, true, false, true, true, false, false, false, false] rfl rfl (take_ofW HT_.out HW_.out (by kernel_rfl)) (fun _ _ _ h => h) (Or.inl ⟨by rfl, ?_⟩) hHeld ?_ ?_
                          rotate_left
                          · rintro w' ⟨s0, s1, s2, s3⟩
                            go_simp
                            with_reducible rfl
                          rotate_left
                          · simp only [Act.put, List.setIfInBounds_toArray, List.set_cons_zero, List.set_cons_succ, i64_w, i32_w]
                            rfl
                          refine take_ (i := 5) (N := some 35) (v := ?_) (a' := ?_) #[true, true, true, true, true, true, true, true, false, true, true, false, false, false, false] rfl rfl (take_ofW HT_.out HW_.out (by kernel_rfl)) (fun _ _ _ h => h) (Or.inl ⟨by rfl, ?_⟩) hHeld ?_ ?_
                          rotate_left
                          · rintro w' ⟨s0, s1, s2, s3⟩
                            go_simp
                            with_reducible rfl
                          rotate_left
                          · simp only [Act.put, List.setIfInBounds_toArray, List.set_cons_zero, List.set_cons_succ, i64_w, i32_w]
                            rfl
                          refine take_ (i := 8) (N := some 38) (v := ?_) (a' := ?_) #[true, true, true, true, true, true, true, true, true, true, true, false, false, false, false] rfl rfl (take_ofW HT_.out HW_.out (by kernel_rfl)) (fun _ _ _ h => h) (Or.inl ⟨by rfl, ?_⟩) hHeld ?_ ?_
                          rotate_left
                          · rintro w' ⟨s0, s1, s2, s3⟩
                            go_simp
                            with_reducible rfl
                          rotate_left
                          · simp only [Act.put, List.setIfInBounds_toArray, List.set_cons_zero, List.set_cons_succ, i64_w, i32_w]
                            rfl
                          refine take_ (i := 11) (N := some 41) (v := ?_) (a' := ?_) #[true, true, true, true, true, true, true, true, true, true, true, true, false, false, false] rfl rfl (take_ofW HT_.out HW_.out (by kernel_rfl)) (fun _ _ _ h => h) (Or.inl ⟨by rfl, ?_⟩) hHeld ?_ ?_
                          rotate_left
                          · rintro w' ⟨s0, s1, s2, s3⟩
                            go_simp
                            with_reducible rfl
                          rotate_left
                          · simp only [Act.put, List.setIfInBounds_toArray, List.set_cons_zero, List.set_cons_succ, i64_w, i32_w]
                            rfl
                          refine pure_ (i := 12) (N := some 42) (v := ?_) (a' := ?_) #[true, true, true, true, true, true, true, true, true, true, true, true, true, false, false] rfl rfl (any_of HT_.out (by kernel_rfl)) (fun _ _ _ h => h) (Or.inl ⟨by rfl, ?_⟩) ?_ ?_
                          rotate_left
                          · intro w'
                            go_simp
                            with_reducible rfl
                          rotate_left
                          · simp only [Act.put, List.setIfInBounds_toArray, List.set_cons_zero, List.set_cons_succ, i64_w, i32_w]
                            rfl
                          refine pure_ (i := 13) (N := some 43) (v := ?_) (a' := ?_) #[true, true, true, true, true, true, true, true, true, true, true, true, true, true, false] rfl rfl (any_of HT_.out (by kernel_rfl)) (fun _ _ _ h => h) (Or.inl ⟨by rfl, ?_⟩) ?_ ?_
                          rotate_left
                          · intro w'
                            go_simp
                            with_reducible rfl
                          rotate_left
                          · simp only [Act.put, List.setIfInBounds_toArray, List.set_cons_zero, List.set_cons_succ, i64_w, i32_w]
                            rfl
                          refine one_ (i := 14) (N := none) #[true, true, true, true, true, true, true, true, true, true, true, true, true, true, true] rfl rfl (one_of HT_.out (by kernel_rfl)) (by decide) (fun K hK => ?_)
                          have hs31 : w30.cell? ⟨gb508, 4, none⟩ = some (.int .i64 0) := (blk_cell BK508.out 4).trans rfl
                          have hfs31 := blk_frozen BK508.out 4
                          have hns31_0 := NB503_508.out
                          have hms31_0 := NB508_503.out
                          have hs32 : w30.cell? ⟨gb508, 5, none⟩ = some (.int .i64 0) := (blk_cell BK508.out 5).trans rfl
                          have hfs32 := blk_frozen BK508.out 5
                          have hns32_0 := NB503_508.out
                          have hms32_0 := NB508_503.out
                          have hs33 : w30.cell? ⟨gb508, 6, none⟩ = some (.int .i64 0) := (blk_cell BK508.out 6).trans rfl
                          have hfs33 := blk_frozen BK508.out 6
                          have hns33_0 := NB503_508.out
                          have hms33_0 := NB508_503.out
                          have hs34 : w30.cell? ⟨gb508, 7, none⟩ = some (.int .i64 0) := (blk_cell BK508.out 7).trans rfl
                          have hfs34 := blk_frozen BK508.out 7
                          have hns34_0 := NB503_508.out
                          have hms34_0 := NB508_503.out
                          refine skip_ (w1 := ?_) (by rfl) rfl ?_ ?_
                          rotate_left
                          · go_simp
                            rfl
                          refine hK.out _ _ ⟨((cell_far (p := ⟨gb508, _, none⟩) (by first | (dsimp only; exact Kd.own_blk (Kd.R_ne HO506.out BK508.out (by decide))) | exact Kd.own_blk (Kd.R_ne HO506.out BK508.out (by decide)) | (rw [add_block]; exact Kd.own_blk (Kd.R_ne HO506.out BK508.out (by decide))) | (show (Addr.add _ _).block ≠ _; rw [add_block]; exact Kd.own_blk (Kd.R_ne HO506.out BK508.out (by decide)))) _).trans (((cell_far (p := ⟨gb508, _, none⟩) (by first | (dsimp only; exact Kd.own_blk (Kd.R_ne HO506.out BK508.out (by decide))) | exact Kd.own_blk (Kd.R_ne HO506.out BK508.out (by decide)) | (rw [add_block]; exact Kd.own_blk (Kd.R_ne HO506.out BK508.out (by decide))) | (show (Addr.add _ _).block ≠ _; rw [add_block]; exact Kd.own_blk (Kd.R_ne HO506.out BK508.out (by decide)))) _).trans (((cell_far (p := ⟨gb508, _, none⟩) (by first | (dsimp only; exact Kd.own_blk (Kd.R_ne HO506.out BK508.out (by decide))) | exact Kd.own_blk (Kd.R_ne HO506.out BK508.out (by decide)) | (rw [add_block]; exact Kd.own_blk (Kd.R_ne HO506.out BK508.out (by decide))) | (show (Addr.add _ _).block ≠ _; rw [add_block]; exact Kd.own_blk (Kd.R_ne HO506.out BK508.out (by decide)))) _).trans (((cell_far (p := ⟨gb508, _, none⟩) (by first | (dsimp only; exact Kd.own_blk (Kd.R_ne HO506.out BK508.out (by decide))) | exact Kd.own_blk (Kd.R_ne HO506.out BK508.out (by decide)) | (rw [add_block]; exact Kd.own_blk (Kd.R_ne HO506.out BK508.out (by decide))) | (show (Addr.add _ _).block ≠ _; rw [add_block]; exact Kd.own_blk (Kd.R_ne HO506.out BK508.out (by decide)))) _).trans (hHeld.1)))))))), ((cell_far (p := ⟨gb508, _, none⟩) (by first | (dsimp only; exact Kd.own_blk (Kd.R_ne HO506.out BK508.out (by decide))) | exact Kd.own_blk (Kd.R_ne HO506.out BK508.out (by decide)) | (rw [add_block]; exact Kd.own_blk (Kd.R_ne HO506.out BK508.out (by decide))) | (show (Addr.add _ _).block ≠ _; rw [add_block]; exact Kd.own_blk (Kd.R_ne HO506.out BK508.out (by decide)))) _).trans (((cell_far (p := ⟨gb508, _, none⟩) (by first | (dsimp only; exact Kd.own_blk (Kd.R_ne HO506.out BK508.out (by decide))) | exact Kd.own_blk (Kd.R_ne HO506.out BK508.out (by decide)) | (rw [add_block]; exact Kd.own_blk (Kd.R_ne HO506.out BK508.out (by decide))) | (show (Addr.add _ _).block ≠ _; rw [add_block]; exact Kd.own_blk (Kd.R_ne HO506.out BK508.out (by decide)))) _).trans (((cell_far (p := ⟨gb508, _, none⟩) (by first | (dsimp only; exact Kd.own_blk (Kd.R_ne HO506.out BK508.out (by decide))) | exact Kd.own_blk (Kd.R_ne HO506.out BK508.out (by decide)) | (rw [add_block]; exact Kd.own_blk (Kd.R_ne HO506.out BK508.out (by decide))) | (show (Addr.add _ _).block ≠ _; rw [add_block]; exact Kd.own_blk (Kd.R_ne HO506.out BK508.out (by decide)))) _).trans (((cell_far (p := ⟨gb508, _, none⟩) (by first | (dsimp only; exact Kd.own_blk (Kd.R_ne HO506.out BK508.out (by decide))) | exact Kd.own_blk (Kd.R_ne HO506.out BK508.out (by decide)) | (rw [add_block]; exact Kd.own_blk (Kd.R_ne HO506.out BK508.out (by decide))) | (show (Addr.add _ _).block ≠ _; rw [add_block]; exact Kd.own_blk (Kd.R_ne HO506.out BK508.out (by decide)))) _).trans (hHeld.2.1)))))))), ((cell_far (p := ⟨gb508, _, none⟩) (by first | (dsimp only; exact Kd.own_blk (Kd.R_ne HO506.out BK508.out (by decide))) | exact Kd.own_blk (Kd.R_ne HO506.out BK508.out (by decide)) | (rw [add_block]; exact Kd.own_blk (Kd.R_ne HO506.out BK508.out (by decide))) | (show (Addr.add _ _).block ≠ _; rw [add_block]; exact Kd.own_blk (Kd.R_ne HO506.out BK508.out (by decide)))) _).trans (((cell_far (p := ⟨gb508, _, none⟩) (by first | (dsimp only; exact Kd.own_blk (Kd.R_ne HO506.out BK508.out (by decide))) | exact Kd.own_blk (Kd.R_ne HO506.out BK508.out (by decide)) | (rw [add_block]; exact Kd.own_blk (Kd.R_ne HO506.out BK508.out (by decide))) | (show (Addr.add _ _).block ≠ _; rw [add_block]; exact Kd.own_blk (Kd.R_ne HO506.out BK508.out (by decide)))) _).trans (((cell_far (p := ⟨gb508, _, none⟩) (by first | (dsimp only; exact Kd.own_blk (Kd.R_ne HO506.out BK508.out (by decide))) | exact Kd.own_blk (Kd.R_ne HO506.out BK508.out (by decide)) | (rw [add_block]; exact Kd.own_blk (Kd.R_ne HO506.out BK508.out (by decide))) | (show (Addr.add _ _).block ≠ _; rw [add_block]; exact Kd.own_blk (Kd.R_ne HO506.out BK508.out (by decide)))) _).trans (((cell_far (p := ⟨gb508, _, none⟩) (by first | (dsimp only; exact Kd.own_blk (Kd.R_ne HO506.out BK508.out (by decide))) | exact Kd.own_blk (Kd.R_ne HO506.out BK508.out (by decide)) | (rw [add_block]; exact Kd.own_blk (Kd.R_ne HO506.out BK508.out (by decide))) | (show (Addr.add _ _).block ≠ _; rw [add_block]; exact Kd.own_blk (Kd.R_ne HO506.out BK508.out (by decide)))) _).trans (hHeld.2.2.1)))))))), ((cell_far (p := ⟨gb508, _, none⟩) (by first | (dsimp only; exact Kd.own_blk (Kd.R_ne HO506.out BK508.out (by decide))) | exact Kd.own_blk (Kd.R_ne HO506.out BK508.out (by decide)) | (rw [add_block]; exact Kd.own_blk (Kd.R_ne HO506.out BK508.out (by decide))) | (show (Addr.add _ _).block ≠ _; rw [add_block]; exact Kd.own_blk (Kd.R_ne HO506.out BK508.out (by decide)))) _).trans (((cell_far (p := ⟨gb508, _, none⟩) (by first | (dsimp only; exact Kd.own_blk (Kd.R_ne HO506.out BK508.out (by decide))) | exact Kd.own_blk (Kd.R_ne HO506.out BK508.out (by decide)) | (rw [add_block]; exact Kd.own_blk (Kd.R_ne HO506.out BK508.out (by decide))) | (show (Addr.add _ _).block ≠ _; rw [add_block]; exact Kd.own_blk (Kd.R_ne HO506.out BK508.out (by decide)))) _).trans (((cell_far (p := ⟨gb508, _, none⟩) (by first | (dsimp only; exact Kd.own_blk (Kd.R_ne HO506.out BK508.out (by decide))) | exact Kd.own_blk (Kd.R_ne HO506.out BK508.out (by decide)) | (rw [add_block]; exact Kd.own_blk (Kd.R_ne HO506.out BK508.out (by decide))) | (show (Addr.add _ _).block ≠ _; rw [add_block]; exact Kd.own_blk (Kd.R_ne HO506.out BK508.out (by decide)))) _).trans (((cell_far (p := ⟨gb508, _, none⟩) (by first | (dsimp only; exact Kd.own_blk (Kd.R_ne HO506.out BK508.out (by decide))) | exact Kd.own_blk (Kd.R_ne HO506.out BK508.out (by decide)) | (rw [add_block]; exact Kd.own_blk (Kd.R_ne HO506.out BK508.out (by decide))) | (show (Addr.add _ _).block ≠ _; rw [add_block]; exact Kd.own_blk (Kd.R_ne HO506.out BK508.out (by decide)))) _).trans (hHeld.2.2.2))))))))⟩ (fun hHeld => ?_)
                          clear hK K
                          refine done_ (done_of HT_.out (by kernel_rfl)) ?_
                          try go_wp2_with (first | ((with_reducible refine gate_callee (f := 44) rfl ?_); refine goesL_ (some 44) rfl rfl Tryd.func44 (by kernel_rfl) rfl #[.pointer (some ⟨gb508, 0, none⟩)] rfl (by (try simp only [List.map_toArray, List.map_cons, List.map_nil]); first | done | rfl | (simp only [List.length_drop, List.length_take]; rfl)) ?_; (with_reducible refine (spec_l04Is.calls k gb508 (rd t504 0) (rd t504 1) (rd t504 2) (rd t504 3) (rd t504 4) (rd t504 5) (rd t504 6) (rd t504 7) (rd t504 8) true _ ?side1 A13.out).mono ?_); (case side1 => (with_reducible repeat (first | refine blk_drewN ?_ _ | refine blk_drew ?_ | refine blk_alloc ?_ _)); refine blk_put (cs := #[.int .i64 (rd t504 0), .int .i64 (rd t504 1), .int .i64 (rd t504 2), .int .i64 (rd t504 3), .int .i64 (rd t504 4), .int .i64 (rd t504 5), .int .i64 (rd t504 6), .int .i64 0, .int .i64 (rd t504 8)]) ?_ 7 _ rfl; (with_reducible repeat (first | refine blk_drewN ?_ _ | refine blk_drew ?_ | refine blk_alloc ?_ _)); refine blk_put (cs := #[.int .i64 (rd t504 0), .int .i64 (rd t504 1), .int .i64 (rd t504 2), .int .i64 (rd t504 3), .int .i64 (rd t504 4), .int .i64 (rd t504 5), .int .i64 0, .int .i64 0, .int .i64 (rd t504 8)]) ?_ 6 _ rfl; (with_reducible repeat (first | refine blk_drewN ?_ _ | refine blk_drew ?_ | refine blk_alloc ?_ _)); refine blk_put (cs := #[.int .i64 (rd t504 0), .int .i64 (rd t504 1), .int .i64 (rd t504 2), .int .i64 (rd t504 3), .int .i64 (rd t504 4), .int .i64 0, .int .i64 0, .int .i64 0, .int .i64 (rd t504 8)]) ?_ 5 _ rfl; (with_reducible repeat (first | refine blk_drewN ?_ _ | refine blk_drew ?_ | refine blk_alloc ?_ _)); refine blk_put (cs := #[.int .i64 (rd t504 0), .int .i64 (rd t504 1), .int .i64 (rd t504 2), .int .i64 (rd t504 3), .int .i64 0, .int .i64 0, .int .i64 0, .int .i64 0, .int .i64 (rd t504 8)]) ?_ 4 _ rfl; (with_reducible repeat (first | refine blk_drewN ?_ _ | refine blk_drew ?_ | refine blk_alloc ?_ _)); exact BK508.out); rintro e w35 ⟨rfl, hb⟩; refine ⟨_, rfl, ?_⟩; have n0_ := Aside0.mk (Kd.R_below (by (with_reducible repeat (first | apply Kd.R_alloc | apply Kd.R_drewN | apply Kd.R_drew)); exact (Kd.R_mono (Kd.R_far (p := ⟨gb508, 7, none⟩) (Kd.R_far (p := ⟨gb508, 6, none⟩) (Kd.R_far (p := ⟨gb508, 5, none⟩) (Kd.R_far (p := ⟨gb508, 4, none⟩) (Kd.R_types HO506.out BK508.out (by decide)) (fun _ hk => hk.2) (.int .i64 (rd t504 4))) (fun _ hk => hk.2) (.int .i64 (rd t504 5))) (fun _ hk => hk.2) (.int .i64 (rd t504 6))) (fun _ hk => hk.2) (.int .i64 (rd t504 7))) (fun _ h_ => h_.1))) hb); have n1_ := Aside0.mk (blk_below (g := gb503) (o := .cells #[.int .i64 0, .int .i64 0, .int .i64 0, .int .i64 0, .int .i64 0, .int .i64 0, .int .i64 0, .int .i64 0, .int .i64 0] 37 (0, 0)) (by (with_reducible repeat (first | refine blk_drewN ?_ _ | refine blk_drew ?_ | refine blk_alloc ?_ _)); refine blk_far ?_ NB503_508.out _; (with_reducible repeat (first | refine blk_drewN ?_ _ | refine blk_drew ?_ | refine blk_alloc ?_ _)); refine blk_far ?_ NB503_508.out _; (with_reducible repeat (first | refine blk_drewN ?_ _ | refine blk_drew ?_ | refine blk_alloc ?_ _)); refine blk_far ?_ NB503_508.out _; (with_reducible repeat (first | refine blk_drewN ?_ _ | refine blk_drew ?_ | refine blk_alloc ?_ _)); refine blk_far ?_ NB503_508.out _; (with_reducible repeat (first | refine blk_drewN ?_ _ | refine blk_drew ?_ | refine blk_alloc ?_ _)); exact BK503.out) hb); have n2_ := Aside0.mk (blk_below (g := gb508) (o := .cells #[.int .i64 (rd t504 0), .int .i64 (rd t504 1), .int .i64 (rd t504 2), .int .i64 (rd t504 3), .int .i64 (rd t504 4), .int .i64 (rd t504 5), .int .i64 (rd t504 6), .int .i64 (rd t504 7), .int .i64 (rd t504 8)] 37 (0, 0)) (by (with_reducible repeat (first | refine blk_drewN ?_ _ | refine blk_drew ?_ | refine blk_alloc ?_ _)); refine blk_put (cs := #[.int .i64 (rd t504 0), .int .i64 (rd t504 1), .int .i64 (rd t504 2), .int .i64 (rd t504 3), .int .i64 (rd t504 4), .int .i64 (rd t504 5), .int .i64 (rd t504 6), .int .i64 0, .int .i64 (rd t504 8)]) ?_ 7 _ rfl; (with_reducible repeat (first | refine blk_drewN ?_ _ | refine blk_drew ?_ | refine blk_alloc ?_ _)); refine blk_put (cs := #[.int .i64 (rd t504 0), .int .i64 (rd t504 1), .int .i64 (rd t504 2), .int .i64 (rd t504 3), .int .i64 (rd t504 4), .int .i64 (rd t504 5), .int .i64 0, .int .i64 0, .int .i64 (rd t504 8)]) ?_ 6 _ rfl; (with_reducible repeat (first | refine blk_drewN ?_ _ | refine blk_drew ?_ | refine blk_alloc ?_ _)); refine blk_put (cs := #[.int .i64 (rd t504 0), .int .i64 (rd t504 1), .int .i64 (rd t504 2), .int .i64 (rd t504 3), .int .i64 (rd t504 4), .int .i64 0, .int .i64 0, .int .i64 0, .int .i64 (rd t504 8)]) ?_ 5 _ rfl; (with_reducible repeat (first | refine blk_drewN ?_ _ | refine blk_drew ?_ | refine blk_alloc ?_ _)); refine blk_put (cs := #[.int .i64 (rd t504 0), .int .i64 (rd t504 1), .int .i64 (rd t504 2), .int .i64 (rd t504 3), .int .i64 0, .int .i64 0, .int .i64 0, .int .i64 0, .int .i64 (rd t504 8)]) ?_ 4 _ rfl; (with_reducible repeat (first | refine blk_drewN ?_ _ | refine blk_drew ?_ | refine blk_alloc ?_ _)); exact BK508.out) hb); have n3_ := Aside0.mk (below_step (by repeat (first | (with_reducible first | exact HB.out | apply below_alloc | apply pw_below_drewN | apply below_drew1 | refine below_set ?_ GE503.out | refine below_set ?_ GE508.out) | exact HB.out)) hb); clear HO506; clear BK503; clear BK508; clear HB; have HO506 := n0_; have BK503 := n1_; have BK508 := n2_; have HB := n3_; clear n0_ n1_ n2_ n3_; (try clear hb); (try clear hb2); (try clear hk); (try clear hi)) | (go_at_call 45; (with_reducible refine (spec_l04Text.calls k gb508 (rd t504 0) (rd t504 1) (rd t504 2) (rd t504 3) (rd t504 4) (rd t504 5) (rd t504 6) (rd t504 7) (rd t504 8) t518 _ ?side1 A15.out).mono ?_); (case side1 => (with_reducible repeat (first | refine blk_drewN ?_ _ | refine blk_drew ?_ | refine blk_alloc ?_ _)); exact BK508.out); rintro e w36 ⟨rfl, hb⟩; have n0_ := Aside0.mk (Kd.R_below (by (with_reducible repeat (first | apply Kd.R_alloc | apply Kd.R_drewN | apply Kd.R_drew)); exact HO506.out) hb); have n1_ := Aside0.mk (blk_below (g := gb503) (o := .cells #[.int .i64 0, .int .i64 0, .int .i64 0, .int .i64 0, .int .i64 0, .int .i64 0, .int .i64 0, .int .i64 0, .int .i64 0] 37 (0, 0)) (by (with_reducible repeat (first | refine blk_drewN ?_ _ | refine blk_drew ?_ | refine blk_alloc ?_ _)); exact BK503.out) hb); have n2_ := Aside0.mk (blk_below (g := gb508) (o := .cells #[.int .i64 (rd t504 0), .int .i64 (rd t504 1), .int .i64 (rd t504 2), .int .i64 (rd t504 3), .int .i64 (rd t504 4), .int .i64 (rd t504 5), .int .i64 (rd t504 6), .int .i64 (rd t504 7), .int .i64 (rd t504 8)] 37 (0, 0)) (by (with_reducible repeat (first | refine blk_drewN ?_ _ | refine blk_drew ?_ | refine blk_alloc ?_ _)); exact BK508.out) hb); have n3_ := Aside0.mk (below_step (by repeat (first | (with_reducible first | exact HB.out | apply below_alloc | apply pw_below_drewN | apply below_drew1 | refine below_set ?_ GE503.out | refine below_set ?_ GE508.out) | exact HB.out)) hb); clear HO506; clear BK503; clear BK508; clear HB; have HO506 := n0_; have BK503 := n1_; have BK508 := n2_; have HB := n3_; clear n0_ n1_ n2_ n3_; (try clear hb); (try clear hb2); (try clear hk); (try clear hi); have hcz37_0 : w36.cell? ⟨gb508, 0, none⟩ = some (.int .i64 (rd t504 0)) := (blk_cell BK508.out 0).trans rfl; have hcz37_1 : w36.cell? ⟨gb508, 1, none⟩ = some (.int .i64 (rd t504 1)) := (blk_cell BK508.out 1).trans rfl; have hcz37_2 : w36.cell? ⟨gb508, 2, none⟩ = some (.int .i64 (rd t504 2)) := (blk_cell BK508.out 2).trans rfl; have hcz37_3 : w36.cell? ⟨gb508, 3, none⟩ = some (.int .i64 (rd t504 3)) := (blk_cell BK508.out 3).trans rfl; have hcz37_4 : w36.cell? ⟨gb508, 4, none⟩ = some (.int .i64 (rd t504 4)) := (blk_cell BK508.out 4).trans rfl; have hcz37_5 : w36.cell? ⟨gb508, 5, none⟩ = some (.int .i64 (rd t504 5)) := (blk_cell BK508.out 5).trans rfl; have hcz37_6 : w36.cell? ⟨gb508, 6, none⟩ = some (.int .i64 (rd t504 6)) := (blk_cell BK508.out 6).trans rfl; have hcz37_7 : w36.cell? ⟨gb508, 7, none⟩ = some (.int .i64 (rd t504 7)) := (blk_cell BK508.out 7).trans rfl; have hcz37_8 : w36.cell? ⟨gb508, 8, none⟩ = some (.int .i64 (rd t504 8)) := (blk_cell BK508.out 8).trans rfl; have hfz37_0 := blk_frozen BK508.out 0; have hfz37_1 := blk_frozen BK508.out 1; have hfz37_2 := blk_frozen BK508.out 2; have hfz37_3 := blk_frozen BK508.out 3; have hfz37_4 := blk_frozen BK508.out 4; have hfz37_5 := blk_frozen BK508.out 5; have hfz37_6 := blk_frozen BK508.out 6; have hfz37_7 := blk_frozen BK508.out 7; have hfz37_8 := blk_frozen BK508.out 8; have hcz38_0 : w36.cell? ⟨gb503, 0, none⟩ = some (.int .i64 0) := (blk_cell BK503.out 0).trans rfl; have hcz38_1 : w36.cell? ⟨gb503, 1, none⟩ = some (.int .i64 0) := (blk_cell BK503.out 1).trans rfl; have hcz38_2 : w36.cell? ⟨gb503, 2, none⟩ = some (.int .i64 0) := (blk_cell BK503.out 2).trans rfl; have hcz38_3 : w36.cell? ⟨gb503, 3, none⟩ = some (.int .i64 0) := (blk_cell BK503.out 3).trans rfl; have hcz38_4 : w36.cell? ⟨gb503, 4, none⟩ = some (.int .i64 0) := (blk_cell BK503.out 4).trans rfl; have hcz38_5 : w36.cell? ⟨gb503, 5, none⟩ = some (.int .i64 0) := (blk_cell BK503.out 5).trans rfl; have hcz38_6 : w36.cell? ⟨gb503, 6, none⟩ = some (.int .i64 0) := (blk_cell BK503.out 6).trans rfl; have hcz38_7 : w36.cell? ⟨gb503, 7, none⟩ = some (.int .i64 0) := (blk_cell BK503.out 7).trans rfl; have hcz38_8 : w36.cell? ⟨gb503, 8, none⟩ = some (.int .i64 0) := (blk_cell BK503.out 8).trans rfl; have hfz38_0 := blk_frozen BK503.out 0; have hfz38_1 := blk_frozen BK503.out 1; have hfz38_2 := blk_frozen BK503.out 2; have hfz38_3 := blk_frozen BK503.out 3; have hfz38_4 := blk_frozen BK503.out 4; have hfz38_5 := blk_frozen BK503.out 5; have hfz38_6 := blk_frozen BK503.out 6; have hfz38_7 := blk_frozen BK503.out 7; have hfz38_8 := blk_frozen BK503.out 8))
                          refine bodyPost_ret (results_ct rfl _ _ gb503 37 #[.int .i64 (rd t504 0), .int .i64 (rd t504 1), .int .i64 (rd t504 2), .int .i64 (rd t504 3), .int .i64 (rd t504 4), .int .i64 (rd t504 5), .int .i64 (rd t504 6), .int .i64 (rd t504 7), .int .i64 (rd t504 8)] (0, 0) _ rfl (by (with_reducible repeat (first | refine blk_drewN ?_ _ | refine blk_drew ?_ | refine blk_alloc ?_ _)); refine blk_put (cs := #[.int .i64 (rd t504 0), .int .i64 (rd t504 1), .int .i64 (rd t504 2), .int .i64 (rd t504 3), .int .i64 (rd t504 4), .int .i64 (rd t504 5), .int .i64 (rd t504 6), .int .i64 (rd t504 7), .int .i64 0]) ?_ 8 _ rfl; (with_reducible repeat (first | refine blk_drewN ?_ _ | refine blk_drew ?_ | refine blk_alloc ?_ _)); refine blk_put (cs := #[.int .i64 (rd t504 0), .int .i64 (rd t504 1), .int .i64 (rd t504 2), .int .i64 (rd t504 3), .int .i64 (rd t504 4), .int .i64 (rd t504 5), .int .i64 (rd t504 6), .int .i64 0, .int .i64 0]) ?_ 7 _ rfl; (with_reducible repeat (first | refine blk_drewN ?_ _ | refine blk_drew ?_ | refine blk_alloc ?_ _)); refine blk_put (cs := #[.int .i64 (rd t504 0), .int .i64 (rd t504 1), .int .i64 (rd t504 2), .int .i64 (rd t504 3), .int .i64 (rd t504 4), .int .i64 (rd t504 5), .int .i64 0, .int .i64 0, .int .i64 0]) ?_ 6 _ rfl; (with_reducible repeat (first | refine blk_drewN ?_ _ | refine blk_drew ?_ | refine blk_alloc ?_ _)); refine blk_put (cs := #[.int .i64 (rd t504 0), .int .i64 (rd t504 1), .int .i64 (rd t504 2), .int .i64 (rd t504 3), .int .i64 (rd t504 4), .int .i64 0, .int .i64 0, .int .i64 0, .int .i64 0]) ?_ 5 _ rfl; (with_reducible repeat (first | refine blk_drewN ?_ _ | refine blk_drew ?_ | refine blk_alloc ?_ _)); refine blk_put (cs := #[.int .i64 (rd t504 0), .int .i64 (rd t504 1), .int .i64 (rd t504 2), .int .i64 (rd t504 3), .int .i64 0, .int .i64 0, .int .i64 0, .int .i64 0, .int .i64 0]) ?_ 4 _ rfl; (with_reducible repeat (first | refine blk_drewN ?_ _ | refine blk_drew ?_ | refine blk_alloc ?_ _)); refine blk_put (cs := #[.int .i64 (rd t504 0), .int .i64 (rd t504 1), .int .i64 (rd t504 2), .int .i64 0, .int .i64 0, .int .i64 0, .int .i64 0, .int .i64 0, .int .i64 0]) ?_ 3 _ rfl; (with_reducible repeat (first | refine blk_drewN ?_ _ | refine blk_drew ?_ | refine blk_alloc ?_ _)); refine blk_put (cs := #[.int .i64 (rd t504 0), .int .i64 (rd t504 1), .int .i64 0, .int .i64 0, .int .i64 0, .int .i64 0, .int .i64 0, .int .i64 0, .int .i64 0]) ?_ 2 _ rfl; (with_reducible repeat (first | refine blk_drewN ?_ _ | refine blk_drew ?_ | refine blk_alloc ?_ _)); refine blk_put (cs := #[.int .i64 (rd t504 0), .int .i64 0, .int .i64 0, .int .i64 0, .int .i64 0, .int .i64 0, .int .i64 0, .int .i64 0, .int .i64 0]) ?_ 1 _ rfl; (with_reducible repeat (first | refine blk_drewN ?_ _ | refine blk_drew ?_ | refine blk_alloc ?_ _)); refine blk_put (cs := #[.int .i64 0, .int .i64 0, .int .i64 0, .int .i64 0, .int .i64 0, .int .i64 0, .int .i64 0, .int .i64 0, .int .i64 0]) ?_ 0 _ rfl; (with_reducible repeat (first | refine blk_drewN ?_ _ | refine blk_drew ?_ | refine blk_alloc ?_ _)); exact BK503.out) Tryd.underlying37 rfl (by kernel_rfl)) rfl ?_
                          exact ⟨by first | rfl | (simp [errW_none, errW_some] <;> rfl) | (simp [*, errW_none, errW_some] <;> rfl), by repeat (first | (with_reducible first | exact HB.out | apply below_alloc | apply pw_below_drewN | apply below_drew1 | refine below_set ?_ GE503.out | refine below_set ?_ GE508.out) | exact HB.out)⟩
                        · rw [if_neg c16] at H
                          have c16b0 : (t518.toList == a0.toList) = false := beq_eq_false_iff_ne.mpr c16
                          have c16b1 : (t518.toList != a0.toList) = true := bne_iff_ne.mpr c16
                          simp only [Option.some.injEq, Prod.mk.injEq] at H
                          obtain ⟨rfl, rfl, rfl, rfl, rfl, rfl, rfl, rfl, rfl, rfl⟩ := H
                          go_enter Tryd.func31, Tryd.ntmps31
                          try go_wp2_with (first | ((with_reducible refine gate_dst (N := 2) rfl ?_); refine box_event ?hg (N := 2) ?hd (cs := #[.int .i64 0, .int .i64 0, .int .i64 0, .int .i64 0, .int .i64 0, .int .i64 0, .int .i64 0, .int .i64 0, .int .i64 0]) (t := 37) ?hr ?_; (case hd => rfl); (case hg => rfl); (case hr => first | (go_simp; done) | (go_simp; rfl)); intro gb503 hg w39 hbox hb; have n0_ := Aside0.mk (below_step (by repeat (first | (with_reducible first | exact HB.out | apply below_alloc | apply pw_below_drewN | apply below_drew1) | exact HB.out)) hb); have n1_ := Aside0.mk (hbox); have n2_ := Aside0.mk ((by rw [hg]; exact (below_size (by repeat (first | (with_reducible first | exact HB.out | apply below_alloc | apply pw_below_drewN | apply below_drew1) | exact HB.out))) : w.heap.size ≤ gb503)); have n3_ := Aside0.mk ((by rw [hg]; exact (below_size (by repeat (first | (with_reducible first | exact HB.out | apply below_alloc | apply pw_below_drewN | apply below_drew1) | exact HB.out))) : w.heap.size ≤ gb503)); clear HB; have HB := n0_; have BK503 := n1_; have GW503 := n2_; have GE503 := n3_; clear n0_ n1_ n2_ n3_; clear hb hbox hg) | ((with_reducible refine gate_callee (f := 60) rfl ?_); refine goesL_ (some 7) rfl rfl Tryd.func60 (by kernel_rfl) rfl #[.string a0] rfl (by (try simp only [List.map_toArray, List.map_cons, List.map_nil]); first | done | rfl | (simp only [List.length_drop, List.length_take]; rfl)) ?_; (with_reducible refine (spec_l02Numbers.calls k a0 t504 _ A2.out).mono ?_); rintro e w40 ⟨v505, rfl, ho0, hb⟩; refine ⟨_, rfl, ?_⟩; have n0_ := Aside0.mk (Kd.R_lower ho0 (below_size (by repeat (first | (with_reducible first | exact HB.out | apply below_alloc | apply pw_below_drewN | apply below_drew1 | refine below_set ?_ GE503.out) | exact HB.out)))); have n1_ := Aside0.mk (blk_below (g := gb503) (o := .cells #[.int .i64 0, .int .i64 0, .int .i64 0, .int .i64 0, .int .i64 0, .int .i64 0, .int .i64 0, .int .i64 0, .int .i64 0] 37 (0, 0)) (by (with_reducible repeat (first | refine blk_drewN ?_ _ | refine blk_drew ?_ | refine blk_alloc ?_ _)); exact BK503.out) hb); have n2_ := Aside0.mk (below_step (by repeat (first | (with_reducible first | exact HB.out | apply below_alloc | apply pw_below_drewN | apply below_drew1 | refine below_set ?_ GE503.out) | exact HB.out)) hb); clear BK503; clear HB; have HO506 := n0_; have BK503 := n1_; have HB := n2_; clear n0_ n1_ n2_; (try clear hb); (try clear hb2); (try clear hk); (try clear hi); (try clear ho0); obtain ⟨Ao41, co41, eo41⟩ := Kd.R_slice HO506.out; subst eo41; have p507 : 0 ≤ (8 : Int) := (by omega); have q507 : 8 < (t504.length : Int) := of_decide_eq_true (by first | (with_reducible assumption) | assumption); obtain ⟨ad507, e507, hx507_0⟩ := Kd.at_int (Kd.R_reads' HO506.out).2.2 8 p507 q507; cases e507; (try simp only [show (8 : Int).toNat = 8 from rfl, Nat.reduceMul, Nat.reduceEqDiff, Go.Addr.add, ↓reduceIte] at hx507_0); have qi507 : (8 < t504.length) = True := eq_true (by omega); (try rw [show ((8 : Int)).toNat = 8 from rfl] at hx507_0); replace p507 := eq_true p507; replace q507 := eq_true q507) | ((with_reducible refine gate_dst (N := 5) rfl ?_); refine box_event ?hg (N := 5) ?hd (cs := #[.int .i64 0, .int .i64 0, .int .i64 0, .int .i64 0, .int .i64 0, .int .i64 0, .int .i64 0, .int .i64 0, .int .i64 0]) (t := 37) ?hr ?_; (case hd => rfl); (case hg => rfl); (case hr => first | (go_simp; done) | (go_simp; rfl)); intro gb508 hg w42 hbox hb; have n0_ := Aside0.mk (Kd.R_below (by (with_reducible repeat (first | apply Kd.R_alloc | apply Kd.R_drewN | apply Kd.R_drew)); exact HO506.out) hb); have n1_ := Aside0.mk (blk_below (g := gb503) (o := .cells #[.int .i64 0, .int .i64 0, .int .i64 0, .int .i64 0, .int .i64 0, .int .i64 0, .int .i64 0, .int .i64 0, .int .i64 0] 37 (0, 0)) (by (with_reducible repeat (first | refine blk_drewN ?_ _ | refine blk_drew ?_ | refine blk_alloc ?_ _)); exact BK503.out) hb); have n2_ := Aside0.mk (below_step (by repeat (first | (with_reducible first | exact HB.out | apply below_alloc | apply pw_below_drewN | apply below_drew1 | refine below_set ?_ GE503.out) | exact HB.out)) hb); have n3_ := Aside0.mk (hbox); have n4_ := Aside0.mk ((by rw [hg]; exact (below_size (by repeat (first | (with_reducible first | exact HB.out | apply below_alloc | apply pw_below_drewN | apply below_drew1 | refine below_set ?_ GE503.out) | exact HB.out))) : w.heap.size ≤ gb508)); have n5_ := Aside0.mk ((by rw [hg]; exact (below_size (by repeat (first | (with_reducible first | exact HB.out | apply below_alloc | apply pw_below_drewN | apply below_drew1 | refine below_set ?_ GE503.out) | exact HB.out))) : w.heap.size ≤ gb508)); have n6_ := Aside0.mk ((by rw [hg]; exact Nat.ne_of_lt (blk_lt (g := gb503) (o := .cells #[.int .i64 0, .int .i64 0, .int .i64 0, .int .i64 0, .int .i64 0, .int .i64 0, .int .i64 0, .int .i64 0, .int .i64 0] 37 (0, 0)) (by (with_reducible repeat (first | refine blk_drewN ?_ _ | refine blk_drew ?_ | refine blk_alloc ?_ _)); exact BK503.out)) : gb503 ≠ gb508)); have n7_ := Aside0.mk ((by rw [hg]; exact Nat.ne_of_gt (blk_lt (g := gb503) (o := .cells #[.int .i64 0, .int .i64 0, .int .i64 0, .int .i64 0, .int .i64 0, .int .i64 0, .int .i64 0, .int .i64 0, .int .i64 0] 37 (0, 0)) (by (with_reducible repeat (first | refine blk_drewN ?_ _ | refine blk_drew ?_ | refine blk_alloc ?_ _)); exact BK503.out)) : gb508 ≠ gb503)); clear HO506; clear BK503; clear HB; have HO506 := n0_; have BK503 := n1_; have HB := n2_; have BK508 := n3_; have GW508 := n4_; have GE508 := n5_; have NB503_508 := n6_; have NB508_503 := n7_; clear n0_ n1_ n2_ n3_ n4_ n5_ n6_ n7_; clear hb hbox hg; have hnb43 := NB508_503.out; have hnc43 := NB503_508.out; have hcz44_0 : w42.cell? ⟨gb508, 0, none⟩ = some (.int .i64 0) := (blk_cell BK508.out 0).trans rfl; have hcz44_1 : w42.cell? ⟨gb508, 1, none⟩ = some (.int .i64 0) := (blk_cell BK508.out 1).trans rfl; have hcz44_2 : w42.cell? ⟨gb508, 2, none⟩ = some (.int .i64 0) := (blk_cell BK508.out 2).trans rfl; have hcz44_3 : w42.cell? ⟨gb508, 3, none⟩ = some (.int .i64 0) := (blk_cell BK508.out 3).trans rfl; have hcz44_4 : w42.cell? ⟨gb508, 4, none⟩ = some (.int .i64 0) := (blk_cell BK508.out 4).trans rfl; have hcz44_5 : w42.cell? ⟨gb508, 5, none⟩ = some (.int .i64 0) := (blk_cell BK508.out 5).trans rfl; have hcz44_6 : w42.cell? ⟨gb508, 6, none⟩ = some (.int .i64 0) := (blk_cell BK508.out 6).trans rfl; have hcz44_7 : w42.cell? ⟨gb508, 7, none⟩ = some (.int .i64 0) := (blk_cell BK508.out 7).trans rfl; have hcz44_8 : w42.cell? ⟨gb508, 8, none⟩ = some (.int .i64 0) := (blk_cell BK508.out 8).trans rfl; have hfz44_0 := blk_frozen BK508.out 0; have hfz44_1 := blk_frozen BK508.out 1; have hfz44_2 := blk_frozen BK508.out 2; have hfz44_3 := blk_frozen BK508.out 3; have hfz44_4 := blk_frozen BK508.out 4; have hfz44_5 := blk_frozen BK508.out 5; have hfz44_6 := blk_frozen BK508.out 6; have hfz44_7 := blk_frozen BK508.out 7; have hfz44_8 := blk_frozen BK508.out 8))
                          have n0_ : Aside0 (Kd.R (Kd.int .i64) 2 (((((((((w42.setCell ⟨gb508, 0, none⟩ (.int .i64 0)).setCell ⟨gb508, 1, none⟩ (.int .i64 0)).setCell ⟨gb508, 2, none⟩ (.int .i64 0)).setCell ⟨gb508, 3, none⟩ (.int .i64 0)).setCell ⟨gb508, 4, none⟩ (.int .i64 0)).setCell ⟨gb508, 5, none⟩ (.int .i64 0)).setCell ⟨gb508, 6, none⟩ (.int .i64 0)).setCell ⟨gb508, 7, none⟩ (.int .i64 0)).setCell ⟨gb508, 8, none⟩ (.int .i64 (rd t504 8))) w.heap.size (fun _ => True) (.slice (some ad507) t504.length co41) t504) := ⟨by (with_reducible repeat (first | apply Kd.R_alloc | apply Kd.R_drewN | apply Kd.R_drew)); exact Kd.R_mono (Kd.R_far (p := ⟨gb508, 8, none⟩) (Kd.R_far (p := ⟨gb508, 7, none⟩) (Kd.R_far (p := ⟨gb508, 6, none⟩) (Kd.R_far (p := ⟨gb508, 5, none⟩) (Kd.R_far (p := ⟨gb508, 4, none⟩) (Kd.R_far (p := ⟨gb508, 3, none⟩) (Kd.R_far (p := ⟨gb508, 2, none⟩) (Kd.R_far (p := ⟨gb508, 1, none⟩) (Kd.R_far (p := ⟨gb508, 0, none⟩) (Kd.R_types HO506.out BK508.out (by decide)) (fun _ hk => hk.2) (.int .i64 0)) (fun _ hk => hk.2) (.int .i64 0)) (fun _ hk => hk.2) (.int .i64 0)) (fun _ hk => hk.2) (.int .i64 0)) (fun _ hk => hk.2) (.int .i64 0)) (fun _ hk => hk.2) (.int .i64 0)) (fun _ hk => hk.2) (.int .i64 0)) (fun _ hk => hk.2) (.int .i64 0)) (fun _ hk => hk.2) (.int .i64 (rd t504 8))) (fun _ hk => trivial)⟩
                          have n1_ : Aside0 ((((((((((w42.setCell ⟨gb508, 0, none⟩ (.int .i64 0)).setCell ⟨gb508, 1, none⟩ (.int .i64 0)).setCell ⟨gb508, 2, none⟩ (.int .i64 0)).setCell ⟨gb508, 3, none⟩ (.int .i64 0)).setCell ⟨gb508, 4, none⟩ (.int .i64 0)).setCell ⟨gb508, 5, none⟩ (.int .i64 0)).setCell ⟨gb508, 6, none⟩ (.int .i64 0)).setCell ⟨gb508, 7, none⟩ (.int .i64 0)).setCell ⟨gb508, 8, none⟩ (.int .i64 (rd t504 8))).heap[gb503]? = some (.cells #[.int .i64 0, .int .i64 0, .int .i64 0, .int .i64 0, .int .i64 0, .int .i64 0, .int .i64 0, .int .i64 0, .int .i64 0] 37 (0, 0))) := ⟨by (with_reducible repeat (first | refine blk_drewN ?_ _ | refine blk_drew ?_ | refine blk_alloc ?_ _)); refine blk_far ?_ NB503_508.out _; (with_reducible repeat (first | refine blk_drewN ?_ _ | refine blk_drew ?_ | refine blk_alloc ?_ _)); refine blk_far ?_ NB503_508.out _; (with_reducible repeat (first | refine blk_drewN ?_ _ | refine blk_drew ?_ | refine blk_alloc ?_ _)); refine blk_far ?_ NB503_508.out _; (with_reducible repeat (first | refine blk_drewN ?_ _ | refine blk_drew ?_ | refine blk_alloc ?_ _)); refine blk_far ?_ NB503_508.out _; (with_reducible repeat (first | refine blk_drewN ?_ _ | refine blk_drew ?_ | refine blk_alloc ?_ _)); refine blk_far ?_ NB503_508.out _; (with_reducible repeat (first | refine blk_drewN ?_ _ | refine blk_drew ?_ | refine blk_alloc ?_ _)); refine blk_far ?_ NB503_508.out _; (with_reducible repeat (first | refine blk_drewN ?_ _ | refine blk_drew ?_ | refine blk_alloc ?_ _)); refine blk_far ?_ NB503_508.out _; (with_reducible repeat (first | refine blk_drewN ?_ _ | refine blk_drew ?_ | refine blk_alloc ?_ _)); refine blk_far ?_ NB503_508.out _; (with_reducible repeat (first | refine blk_drewN ?_ _ | refine blk_drew ?_ | refine blk_alloc ?_ _)); refine blk_far ?_ NB503_508.out _; (with_reducible repeat (first | refine blk_drewN ?_ _ | refine blk_drew ?_ | refine blk_alloc ?_ _)); exact BK503.out⟩
                          have n2_ : Aside0 ((((((((((w42.setCell ⟨gb508, 0, none⟩ (.int .i64 0)).setCell ⟨gb508, 1, none⟩ (.int .i64 0)).setCell ⟨gb508, 2, none⟩ (.int .i64 0)).setCell ⟨gb508, 3, none⟩ (.int .i64 0)).setCell ⟨gb508, 4, none⟩ (.int .i64 0)).setCell ⟨gb508, 5, none⟩ (.int .i64 0)).setCell ⟨gb508, 6, none⟩ (.int .i64 0)).setCell ⟨gb508, 7, none⟩ (.int .i64 0)).setCell ⟨gb508, 8, none⟩ (.int .i64 (rd t504 8))).heap[gb508]? = some (.cells #[.int .i64 0, .int .i64 0, .int .i64 0, .int .i64 0, .int .i64 0, .int .i64 0, .int .i64 0, .int .i64 0, .int .i64 (rd t504 8)] 37 (0, 0))) := ⟨by (with_reducible repeat (first | refine blk_drewN ?_ _ | refine blk_drew ?_ | refine blk_alloc ?_ _)); refine blk_put (cs := #[.int .i64 0, .int .i64 0, .int .i64 0, .int .i64 0, .int .i64 0, .int .i64 0, .int .i64 0, .int .i64 0, .int .i64 0]) ?_ 8 _ rfl; (with_reducible repeat (first | refine blk_drewN ?_ _ | refine blk_drew ?_ | refine blk_alloc ?_ _)); refine blk_put (cs := #[.int .i64 0, .int .i64 0, .int .i64 0, .int .i64 0, .int .i64 0, .int .i64 0, .int .i64 0, .int .i64 0, .int .i64 0]) ?_ 7 _ rfl; (with_reducible repeat (first | refine blk_drewN ?_ _ | refine blk_drew ?_ | refine blk_alloc ?_ _)); refine blk_put (cs := #[.int .i64 0, .int .i64 0, .int .i64 0, .int .i64 0, .int .i64 0, .int .i64 0, .int .i64 0, .int .i64 0, .int .i64 0]) ?_ 6 _ rfl; (with_reducible repeat (first | refine blk_drewN ?_ _ | refine blk_drew ?_ | refine blk_alloc ?_ _)); refine blk_put (cs := #[.int .i64 0, .int .i64 0, .int .i64 0, .int .i64 0, .int .i64 0, .int .i64 0, .int .i64 0, .int .i64 0, .int .i64 0]) ?_ 5 _ rfl; (with_reducible repeat (first | refine blk_drewN ?_ _ | refine blk_drew ?_ | refine blk_alloc ?_ _)); refine blk_put (cs := #[.int .i64 0, .int .i64 0, .int .i64 0, .int .i64 0, .int .i64 0, .int .i64 0, .int .i64 0, .int .i64 0, .int .i64 0]) ?_ 4 _ rfl; (with_reducible repeat (first | refine blk_drewN ?_ _ | refine blk_drew ?_ | refine blk_alloc ?_ _)); refine blk_put (cs := #[.int .i64 0, .int .i64 0, .int .i64 0, .int .i64 0, .int .i64 0, .int .i64 0, .int .i64 0, .int .i64 0, .int .i64 0]) ?_ 3 _ rfl; (with_reducible repeat (first | refine blk_drewN ?_ _ | refine blk_drew ?_ | refine blk_alloc ?_ _)); refine blk_put (cs := #[.int .i64 0, .int .i64 0, .int .i64 0, .int .i64 0, .int .i64 0, .int .i64 0, .int .i64 0, .int .i64 0, .int .i64 0]) ?_ 2 _ rfl; (with_reducible repeat (first | refine blk_drewN ?_ _ | refine blk_drew ?_ | refine blk_alloc ?_ _)); refine blk_put (cs := #[.int .i64 0, .int .i64 0, .int .i64 0, .int .i64 0, .int .i64 0, .int .i64 0, .int .i64 0, .int .i64 0, .int .i64 0]) ?_ 1 _ rfl; (with_reducible repeat (first | refine blk_drewN ?_ _ | refine blk_drew ?_ | refine blk_alloc ?_ _)); refine blk_put (cs := #[.int .i64 0, .int .i64 0, .int .i64 0, .int .i64 0, .int .i64 0, .int .i64 0, .int .i64 0, .int .i64 0, .int .i64 0]) ?_ 0 _ rfl; (with_reducible repeat (first | refine blk_drewN ?_ _ | refine blk_drew ?_ | refine blk_alloc ?_ _)); exact BK508.out⟩
                          have n3_ : Aside0 (Below w.heap.size w (((((((((w42.setCell ⟨gb508, 0, none⟩ (.int .i64 0)).setCell ⟨gb508, 1, none⟩ (.int .i64 0)).setCell ⟨gb508, 2, none⟩ (.int .i64 0)).setCell ⟨gb508, 3, none⟩ (.int .i64 0)).setCell ⟨gb508, 4, none⟩ (.int .i64 0)).setCell ⟨gb508, 5, none⟩ (.int .i64 0)).setCell ⟨gb508, 6, none⟩ (.int .i64 0)).setCell ⟨gb508, 7, none⟩ (.int .i64 0)).setCell ⟨gb508, 8, none⟩ (.int .i64 (rd t504 8)))) := ⟨by repeat (first | (with_reducible first | exact HB.out | apply below_alloc | apply pw_below_drewN | apply below_drew1 | refine below_set ?_ GE503.out | refine below_set ?_ GE508.out) | exact HB.out)⟩
                          (try clear HO506)
                          (try clear BK503)
                          (try clear BK508)
                          (try clear HB)
                          generalize (((((((((w42.setCell ⟨gb508, 0, none⟩ (.int .i64 0)).setCell ⟨gb508, 1, none⟩ (.int .i64 0)).setCell ⟨gb508, 2, none⟩ (.int .i64 0)).setCell ⟨gb508, 3, none⟩ (.int .i64 0)).setCell ⟨gb508, 4, none⟩ (.int .i64 0)).setCell ⟨gb508, 5, none⟩ (.int .i64 0)).setCell ⟨gb508, 6, none⟩ (.int .i64 0)).setCell ⟨gb508, 7, none⟩ (.int .i64 0)).setCell ⟨gb508, 8, none⟩ (.int .i64 (rd t504 8))) = w45 at n0_ n1_ n2_ n3_ ⊢
                          have HO506 := n0_
                          have BK503 := n1_
                          have BK508 := n2_
                          have HB := n3_
                          clear n0_ n1_ n2_ n3_
                          have n0_ := Aside0.mk (Kd.R_drew HO506.out)
                          have n1_ := Aside0.mk (blk_drew BK503.out)
                          have n2_ := Aside0.mk (blk_drew BK508.out)
                          have n3_ := Aside0.mk (below_drew1 HB.out)
                          clear HO506
                          clear BK503
                          clear BK508
                          clear HB
                          have HO506 := n0_
                          have BK503 := n1_
                          have BK508 := n2_
                          have HB := n3_
                          clear n0_ n1_ n2_ n3_
                          have p509 : 0 ≤ (0 : Int) := (by omega)
                          have q509 : 0 < (t504.length : Int) := of_decide_eq_true (by first | (with_reducible assumption) | assumption)
                          obtain ⟨ad509, e509, hx509_0⟩ := Kd.at_int (Kd.R_reads' HO506.out).2.2 0 p509 q509
                          obtain rfl : ad507 = ad509 := (by injection e509)
                          have qi509 : (0 < t504.length) = True := eq_true (by omega)
                          (try rw [show ((0 : Int)).toNat = 0 from rfl] at hx509_0)
                          (try rw [Addr.add_zero'] at hx509_0)
                          replace p509 := eq_true p509
                          replace q509 := eq_true q509
                          have p510 : 0 ≤ (1 : Int) := (by omega)
                          have q510 : 1 < (t504.length : Int) := of_decide_eq_true (by first | (with_reducible assumption) | assumption)
                          obtain ⟨ad510, e510, hx510_0⟩ := Kd.at_int (Kd.R_reads' HO506.out).2.2 1 p510 q510
                          obtain rfl : ad507 = ad510 := (by injection e510)
                          (try simp only [show (1 : Int).toNat = 1 from rfl, Nat.reduceMul, Nat.reduceEqDiff, Go.Addr.add, ↓reduceIte] at hx510_0)
                          have qi510 : (1 < t504.length) = True := eq_true (by omega)
                          (try rw [show ((1 : Int)).toNat = 1 from rfl] at hx510_0)
                          replace p510 := eq_true p510
                          replace q510 := eq_true q510
                          have p511 : 0 ≤ (2 : Int) := (by omega)
                          have q511 : 2 < (t504.length : Int) := of_decide_eq_true (by first | (with_reducible assumption) | assumption)
                          obtain ⟨ad511, e511, hx511_0⟩ := Kd.at_int (Kd.R_reads' HO506.out).2.2 2 p511 q511
                          obtain rfl : ad507 = ad511 := (by injection e511)
                          (try simp only [show (2 : Int).toNat = 2 from rfl, Nat.reduceMul, Nat.reduceEqDiff, Go.Addr.add, ↓reduceIte] at hx511_0)
                          have qi511 : (2 < t504.length) = True := eq_true (by omega)
                          (try rw [show ((2 : Int)).toNat = 2 from rfl] at hx511_0)
                          replace p511 := eq_true p511
                          replace q511 := eq_true q511
                          have p512 : 0 ≤ (3 : Int) := (by omega)
                          have q512 : 3 < (t504.length : Int) := of_decide_eq_true (by first | (with_reducible assumption) | assumption)
                          obtain ⟨ad512, e512, hx512_0⟩ := Kd.at_int (Kd.R_reads' HO506.out).2.2 3 p512 q512
                          obtain rfl : ad507 = ad512 := (by injection e512)
                          (try simp only [show (3 : Int).toNat = 3 from rfl, Nat.reduceMul, Nat.reduceEqDiff, Go.Addr.add, ↓reduceIte] at hx512_0)
                          have qi512 : (3 < t504.length) = True := eq_true (by omega)
                          (try rw [show ((3 : Int)).toNat = 3 from rfl] at hx512_0)
                          replace p512 := eq_true p512
                          replace q512 := eq_true q512
                          refine start_ (n := 15) (S := fun w' => w'.cell? ad507 = some (.int .i64 (rd t504 0)) ∧ w'.cell? ⟨ad507.block, ad507.off + 1, none⟩ = some (.int .i64 (rd t504 1)) ∧ w'.cell? ⟨ad507.block, ad507.off + 2, none⟩ = some (.int .i64 (rd t504 2)) ∧ w'.cell? ⟨ad507.block, ad507.off + 3, none⟩ = some (.int .i64 (rd t504 3))) (ds := []) #[false, false, false, false, false, false, false, false, false, false, false, false, false, false, false] (by kernel_rfl) rfl rfl ⟨hx509_0, hx510_0, hx511_0, hx512_0⟩ (fun hHeld => ?_); refine with_tabW spec_ReadMachine.tab5 spec_ReadMachine.bits5 (fun HT_ HW_ => ?_)
                          generalize w45.drew = w46 at HO506 BK503 BK508 HB hx509_0 hx510_0 hx511_0 hx512_0 hHeld ⊢
                          refine pure_ (i := 0) (N := some 16) (v := ?_) (a' := ?_) #[true, false, false, false, false, false, false, false, false, false, false, false, false, false, false] rfl rfl (any_of HT_.out (by kernel_rfl)) (fun _ _ _ h => h) (Or.inl ⟨by rfl, ?_⟩) ?_ ?_
                          rotate_left
                          · intro w'
                            go_simp
                            with_reducible rfl
                          rotate_left
                          · simp only [Act.put, List.setIfInBounds_toArray, List.set_cons_zero, List.set_cons_succ, i64_w, i32_w]
                            rfl
                          refine pure_ (i := 1) (N := some 17) (v := ?_) (a' := ?_) #[true, true, false, false, false, false, false, false, false, false, false, false, false, false, false] rfl rfl (any_of HT_.out (by kernel_rfl)) (fun _ _ _ h => h) (Or.inl ⟨by rfl, ?_⟩) ?_ ?_
                          rotate_left
                          · intro w'
                            go_simp
                            with_reducible rfl
                          rotate_left
                          · simp only [Act.put, List.setIfInBounds_toArray, List.set_cons_zero, List.set_cons_succ, i64_w, i32_w]
                            rfl
                          refine pure_ (i := 3) (N := some 19) (v := ?_) (a' := ?_) #[true, true, false, true, false, false, false, false, false, false, false, false, false, false, false] rfl rfl (any_of HT_.out (by kernel_rfl)) (fun _ _ _ h => h) (Or.inl ⟨by rfl, ?_⟩) ?_ ?_
                          rotate_left
                          · intro w'
                            go_simp
                            with_reducible rfl
                          rotate_left
                          · simp only [Act.put, List.setIfInBounds_toArray, List.set_cons_zero, List.set_cons_succ, i64_w, i32_w]
                            rfl
                          refine pure_ (i := 4) (N := some 20) (v := ?_) (a' := ?_) #[true, true, false, true, true, false, false, false, false, false, false, false, false, false, false] rfl rfl (any_of HT_.out (by kernel_rfl)) (fun _ _ _ h => h) (Or.inl ⟨by rfl, ?_⟩) ?_ ?_
                          rotate_left
                          · intro w'
                            go_simp
                            with_reducible rfl
                          rotate_left
                          · simp only [Act.put, List.setIfInBounds_toArray, List.set_cons_zero, List.set_cons_succ, i64_w, i32_w]
                            rfl
                          refine pure_ (i := 6) (N := some 22) (v := ?_) (a' := ?_) #[true, true, false, true, true, false, true, false, false, false, false, false, false, false, false] rfl rfl (any_of HT_.out (by kernel_rfl)) (fun _ _ _ h => h) (Or.inl ⟨by rfl, ?_⟩) ?_ ?_
                          rotate_left
                          · intro w'
                            go_simp
                            with_reducible rfl
                          rotate_left
                          · simp only [Act.put, List.setIfInBounds_toArray, List.set_cons_zero, List.set_cons_succ, i64_w, i32_w]
                            rfl
                          refine pure_ (i := 7) (N := some 23) (v := ?_) (a' := ?_) #[true, true, false, true, true, false, true, true, false, false, false, false, false, false, false] rfl rfl (any_of HT_.out (by kernel_rfl)) (fun _ _ _ h => h) (Or.inl ⟨by rfl, ?_⟩) ?_ ?_
                          rotate_left
                          · intro w'
                            go_simp
                            with_reducible rfl
                          rotate_left
                          · simp only [Act.put, List.setIfInBounds_toArray, List.set_cons_zero, List.set_cons_succ, i64_w, i32_w]
                            rfl
                          refine pure_ (i := 9) (N := some 25) (v := ?_) (a' := ?_) #[true, true, false, true, true, false, true, true, false, true, false, false, false, false, false] rfl rfl (any_of HT_.out (by kernel_rfl)) (fun _ _ _ h => h) (Or.inl ⟨by rfl, ?_⟩) ?_ ?_
                          rotate_left
                          · intro w'
                            go_simp
                            with_reducible rfl
                          rotate_left
                          · simp only [Act.put, List.setIfInBounds_toArray, List.set_cons_zero, List.set_cons_succ, i64_w, i32_w]
                            rfl
                          refine pure_ (i := 10) (N := some 26) (v := ?_) (a' := ?_) #[true, true, false, true, true, false, true, true, false, true, true, false, false, false, false] rfl rfl (any_of HT_.out (by kernel_rfl)) (fun _ _ _ h => h) (Or.inl ⟨by rfl, ?_⟩) ?_ ?_
                          rotate_left
                          · intro w'
                            go_simp
                            with_reducible rfl
                          rotate_left
                          · simp only [Act.put, List.setIfInBounds_toArray, List.set_cons_zero, List.set_cons_succ, i64_w, i32_w]
                            rfl
                          refine take_ (i := 2) (N := some 18) (v := ?_) (a' := ?_) #[true, true, true, true, true, false, true, true, false, true, true, false, false, false, false] rfl rfl (take_ofW HT_.out HW_.out (by kernel_rfl)) (fun _ _ _ h => h) (Or.inl ⟨by rfl, ?_⟩) hHeld ?_ ?_
                          rotate_left
                          · rintro w' ⟨s0, s1, s2, s3⟩
                            go_simp
                            with_reducible rfl
                          rotate_left
                          · simp only [Act.put, List.setIfInBounds_toArray, List.set_cons_zero, List.set_cons_succ, i64_w, i32_w]
                            rfl
                          refine take_ (i := 5) (N := some 21) (v := ?_) (a' := ?_) #[true, true, true, true, true, true, true, true, false, true, true, false, false, false, false] rfl rfl (take_ofW HT_.out HW_.out (by kernel_rfl)) (fun _ _ _ h => h) (Or.inl ⟨by rfl, ?_⟩) hHeld ?_ ?_
                          rotate_left
                          · rintro w' ⟨s0, s1, s2, s3⟩
                            go_simp
                            with_reducible rfl
                          rotate_left
                          · simp only [Act.put, List.setIfInBounds_toArray, List.set_cons_zero, List.set_cons_succ, i64_w, i32_w]
                            rfl
                          refine take_ (i := 8) (N := some 24) (v := ?_) (a' := ?_) #[true, true, true, true, true, true, true, true, true, true, true, false, false, false, false] rfl rfl (take_ofW HT_.out HW_.out (by kernel_rfl)) (fun _ _ _ h => h) (Or.inl ⟨by rfl, ?_⟩) hHeld ?_ ?_
                          rotate_left
                          · rintro w' ⟨s0, s1, s2, s3⟩
                            go_simp
                            with_reducible rfl
                          rotate_left
                          · simp only [Act.put, List.setIfInBounds_toArray, List.set_cons_zero, List.set_cons_succ, i64_w, i32_w]
                            rfl
                          refine take_ (i := 11) (N := some 27) (v := ?_) (a' := ?_) #[true, true, true, true, true, true, true, true, true, true, true, true, false, false, false] rfl rfl (take_ofW HT_.out HW_.out (by kernel_rfl)) (fun _ _ _ h => h) (Or.inl ⟨by rfl, ?_⟩) hHeld ?_ ?_
                          rotate_left
                          · rintro w' ⟨s0, s1, s2, s3⟩
                            go_simp
                            with_reducible rfl
                          rotate_left
                          · simp only [Act.put, List.setIfInBounds_toArray, List.set_cons_zero, List.set_cons_succ, i64_w, i32_w]
                            rfl
                          refine pure_ (i := 12) (N := some 28) (v := ?_) (a' := ?_) #[true, true, true, true, true, true, true, true, true, true, true, true, true, false, false] rfl rfl (any_of HT_.out (by kernel_rfl)) (fun _ _ _ h => h) (Or.inl ⟨by rfl, ?_⟩) ?_ ?_
                          rotate_left
                          · intro w'
                            go_simp
                            with_reducible rfl
                          rotate_left
                          · simp only [Act.put, List.setIfInBounds_toArray, List.set_cons_zero, List.set_cons_succ, i64_w, i32_w]
                            rfl
                          refine pure_ (i := 13) (N := some 29) (v := ?_) (a' := ?_) #[true, true, true, true, true, true, true, true, true, true, true, true, true, true, false] rfl rfl (any_of HT_.out (by kernel_rfl)) (fun _ _ _ h => h) (Or.inl ⟨by rfl, ?_⟩) ?_ ?_
                          rotate_left
                          · intro w'
                            go_simp
                            with_reducible rfl
                          rotate_left
                          · simp only [Act.put, List.setIfInBounds_toArray, List.set_cons_zero, List.set_cons_succ, i64_w, i32_w]
                            rfl
                          refine one_ (i := 14) (N := none) #[true, true, true, true, true, true, true, true, true, true, true, true, true, true, true] rfl rfl (one_of HT_.out (by kernel_rfl)) (by decide) (fun K hK => ?_)
                          have hs47 : w46.cell? ⟨gb508, 0, none⟩ = some (.int .i64 0) := (blk_cell BK508.out 0).trans rfl
                          have hfs47 := blk_frozen BK508.out 0
                          have hns47_0 := NB503_508.out
                          have hms47_0 := NB508_503.out
                          have hs48 : w46.cell? ⟨gb508, 1, none⟩ = some (.int .i64 0) := (blk_cell BK508.out 1).trans rfl
                          have hfs48 := blk_frozen BK508.out 1
                          have hns48_0 := NB503_508.out
                          have hms48_0 := NB508_503.out
                          have hs49 : w46.cell? ⟨gb508, 2, none⟩ = some (.int .i64 0) := (blk_cell BK508.out 2).trans rfl
                          have hfs49 := blk_frozen BK508.out 2
                          have hns49_0 := NB503_508.out
                          have hms49_0 := NB508_503.out
                          have hs50 : w46.cell? ⟨gb508, 3, none⟩ = some (.int .i64 0) := (blk_cell BK508.out 3).trans rfl
                          have hfs50 := blk_frozen BK508.out 3
                          have hns50_0 := NB503_508.out
                          have hms50_0 := NB508_503.out
                          refine skip_ (w1 := ?_) (by rfl) rfl ?_ ?_
                          rotate_left
                          · go_simp
                            rfl
                          refine hK.out _ _ ⟨((cell_far (p := ⟨gb508, _, none⟩) (by first | (dsimp only; exact Kd.own_blk (Kd.R_ne HO506.out BK508.out (by decide))) | exact Kd.own_blk (Kd.R_ne HO506.out BK508.out (by decide)) | (rw [add_block]; exact Kd.own_blk (Kd.R_ne HO506.out BK508.out (by decide))) | (show (Addr.add _ _).block ≠ _; rw [add_block]; exact Kd.own_blk (Kd.R_ne HO506.out BK508.out (by decide)))) _).trans (((cell_far (p := ⟨gb508, _, none⟩) (by first | (dsimp only; exact Kd.own_blk (Kd.R_ne HO506.out BK508.out (by decide))) | exact Kd.own_blk (Kd.R_ne HO506.out BK508.out (by decide)) | (rw [add_block]; exact Kd.own_blk (Kd.R_ne HO506.out BK508.out (by decide))) | (show (Addr.add _ _).block ≠ _; rw [add_block]; exact Kd.own_blk (Kd.R_ne HO506.out BK508.out (by decide)))) _).trans (((cell_far (p := ⟨gb508, _, none⟩) (by first | (dsimp only; exact Kd.own_blk (Kd.R_ne HO506.out BK508.out (by decide))) | exact Kd.own_blk (Kd.R_ne HO506.out BK508.out (by decide)) | (rw [add_block]; exact Kd.own_blk (Kd.R_ne HO506.out BK508.out (by decide))) | (show (Addr.add _ _).block ≠ _; rw [add_block]; exact Kd.own_blk (Kd.R_ne HO506.out BK508.out (by decide)))) _).trans (((cell_far (p := ⟨gb508, _, none⟩) (by first | (dsimp only; exact Kd.own_blk (Kd.R_ne HO506.out BK508.out (by decide))) | exact Kd.own_blk (Kd.R_ne HO506.out BK508.out (by decide)) | (rw [add_block]; exact Kd.own_blk (Kd.R_ne HO506.out BK508.out (by decide))) | (show (Addr.add _ _).block ≠ _; rw [add_block]; exact Kd.own_blk (Kd.R_ne HO506.out BK508.out (by decide)))) _).trans (hHeld.1)))))))), ((cell_far (p := ⟨gb508, _, none⟩) (by first | (dsimp only; exact Kd.own_blk (Kd.R_ne HO506.out BK508.out (by decide))) | exact Kd.own_blk (Kd.R_ne HO506.out BK508.out (by decide)) | (rw [add_block]; exact Kd.own_blk (Kd.R_ne HO506.out BK508.out (by decide))) | (show (Addr.add _ _).block ≠ _; rw [add_block]; exact Kd.own_blk (Kd.R_ne HO506.out BK508.out (by decide)))) _).trans (((cell_far (p := ⟨gb508, _, none⟩) (by first | (dsimp only; exact Kd.own_blk (Kd.R_ne HO506.out BK508.out (by decide))) | exact Kd.own_blk (Kd.R_ne HO506.out BK508.out (by decide)) | (rw [add_block]; exact Kd.own_blk (Kd.R_ne HO506.out BK508.out (by decide))) | (show (Addr.add _ _).block ≠ _; rw [add_block]; exact Kd.own_blk (Kd.R_ne HO506.out BK508.out (by decide)))) _).trans (((cell_far (p := ⟨gb508, _, none⟩) (by first | (dsimp only; exact Kd.own_blk (Kd.R_ne HO506.out BK508.out (by decide))) | exact Kd.own_blk (Kd.R_ne HO506.out BK508.out (by decide)) | (rw [add_block]; exact Kd.own_blk (Kd.R_ne HO506.out BK508.out (by decide))) | (show (Addr.add _ _).block ≠ _; rw [add_block]; exact Kd.own_blk (Kd.R_ne HO506.out BK508.out (by decide)))) _).trans (((cell_far (p := ⟨gb508, _, none⟩) (by first | (dsimp only; exact Kd.own_blk (Kd.R_ne HO506.out BK508.out (by decide))) | exact Kd.own_blk (Kd.R_ne HO506.out BK508.out (by decide)) | (rw [add_block]; exact Kd.own_blk (Kd.R_ne HO506.out BK508.out (by decide))) | (show (Addr.add _ _).block ≠ _; rw [add_block]; exact Kd.own_blk (Kd.R_ne HO506.out BK508.out (by decide)))) _).trans (hHeld.2.1)))))))), ((cell_far (p := ⟨gb508, _, none⟩) (by first | (dsimp only; exact Kd.own_blk (Kd.R_ne HO506.out BK508.out (by decide))) | exact Kd.own_blk (Kd.R_ne HO506.out BK508.out (by decide)) | (rw [add_block]; exact Kd.own_blk (Kd.R_ne HO506.out BK508.out (by decide))) | (show (Addr.add _ _).block ≠ _; rw [add_block]; exact Kd.own_blk (Kd.R_ne HO506.out BK508.out (by decide)))) _).trans (((cell_far (p := ⟨gb508, _, none⟩) (by first | (dsimp only; exact Kd.own_blk (Kd.R_ne HO506.out BK508.out (by decide))) | exact Kd.own_blk (Kd.R_ne HO506.out BK508.out (by decide)) | (rw [add_block]; exact Kd.own_blk (Kd.R_ne HO506.out BK508.out (by decide))) | (show (Addr.add _ _).block ≠ _; rw [add_block]; exact Kd.own_blk (Kd.R_ne HO506.out BK508.out (by decide)))) _).trans (((cell_far (p := ⟨gb508, _, none⟩) (by first | (dsimp only; exact Kd.own_blk (Kd.R_ne HO506.out BK508.out (by decide))) | exact Kd.own_blk (Kd.R_ne HO506.out BK508.out (by decide)) | (rw [add_block]; exact Kd.own_blk (Kd.R_ne HO506.out BK508.out (by decide))) | (show (Addr.add _ _).block ≠ _; rw [add_block]; exact Kd.own_blk (Kd.R_ne HO506.out BK508.out (by decide)))) _).trans (((cell_far (p := ⟨gb508, _, none⟩) (by first | (dsimp only; exact Kd.own_blk (Kd.R_ne HO506.out BK508.out (by decide))) | exact Kd.own_blk (Kd.R_ne HO506.out BK508.out (by decide)) | (rw [add_block]; exact Kd.own_blk (Kd.R_ne HO506.out BK508.out (by decide))) | (show (Addr.add _ _).block ≠ _; rw [add_block]; exact Kd.own_blk (Kd.R_ne HO506.out BK508.out (by decide)))) _).trans (hHeld.2.2.1)))))))), ((cell_far (p := ⟨gb508, _, none⟩) (by first | (dsimp only; exact Kd.own_blk (Kd.R_ne HO506.out BK508.out (by decide))) | exact Kd.own_blk (Kd.R_ne HO506.out BK508.out (by decide)) | (rw [add_block]; exact Kd.own_blk (Kd.R_ne HO506.out BK508.out (by decide))) | (show (Addr.add _ _).block ≠ _; rw [add_block]; exact Kd.own_blk (Kd.R_ne HO506.out BK508.out (by decide)))) _).trans (((cell_far (p := ⟨gb508, _, none⟩) (by first | (dsimp only; exact Kd.own_blk (Kd.R_ne HO506.out BK508.out (by decide))) | exact Kd.own_blk (Kd.R_ne HO506.out BK508.out (by decide)) | (rw [add_block]; exact Kd.own_blk (Kd.R_ne HO506.out BK508.out (by decide))) | (show (Addr.add _ _).block ≠ _; rw [add_block]; exact Kd.own_blk (Kd.R_ne HO506.out BK508.out (by decide)))) _).trans (((cell_far (p := ⟨gb508, _, none⟩) (by first | (dsimp only; exact Kd.own_blk (Kd.R_ne HO506.out BK508.out (by decide))) | exact Kd.own_blk (Kd.R_ne HO506.out BK508.out (by decide)) | (rw [add_block]; exact Kd.own_blk (Kd.R_ne HO506.out BK508.out (by decide))) | (show (Addr.add _ _).block ≠ _; rw [add_block]; exact Kd.own_blk (Kd.R_ne HO506.out BK508.out (by decide)))) _).trans (((cell_far (p := ⟨gb508, _, none⟩) (by first | (dsimp only; exact Kd.own_blk (Kd.R_ne HO506.out BK508.out (by decide))) | exact Kd.own_blk (Kd.R_ne HO506.out BK508.out (by decide)) | (rw [add_block]; exact Kd.own_blk (Kd.R_ne HO506.out BK508.out (by decide))) | (show (Addr.add _ _).block ≠ _; rw [add_block]; exact Kd.own_blk (Kd.R_ne HO506.out BK508.out (by decide)))) _).trans (hHeld.2.2.2))))))))⟩ (fun hHeld => ?_)
                          clear hK K
                          refine done_ (done_of HT_.out (by kernel_rfl)) ?_
                          try go_wp2
                          have n0_ : Aside0 (Kd.R (Kd.int .i64) 2 ((((w46.setCell ⟨gb508, 0, none⟩ (.int .i64 (rd t504 0))).setCell ⟨gb508, 1, none⟩ (.int .i64 (rd t504 1))).setCell ⟨gb508, 2, none⟩ (.int .i64 (rd t504 2))).setCell ⟨gb508, 3, none⟩ (.int .i64 (rd t504 3))) w.heap.size (fun _ => True) (.slice (some ad507) t504.length co41) t504) := ⟨by (with_reducible repeat (first | apply Kd.R_alloc | apply Kd.R_drewN | apply Kd.R_drew)); exact Kd.R_mono (Kd.R_far (p := ⟨gb508, 3, none⟩) (Kd.R_far (p := ⟨gb508, 2, none⟩) (Kd.R_far (p := ⟨gb508, 1, none⟩) (Kd.R_far (p := ⟨gb508, 0, none⟩) (Kd.R_types HO506.out BK508.out (by decide)) (fun _ hk => hk.2) (.int .i64 (rd t504 0))) (fun _ hk => hk.2) (.int .i64 (rd t504 1))) (fun _ hk => hk.2) (.int .i64 (rd t504 2))) (fun _ hk => hk.2) (.int .i64 (rd t504 3))) (fun _ hk => trivial)⟩
                          have n1_ : Aside0 (((((w46.setCell ⟨gb508, 0, none⟩ (.int .i64 (rd t504 0))).setCell ⟨gb508, 1, none⟩ (.int .i64 (rd t504 1))).setCell ⟨gb508, 2, none⟩ (.int .i64 (rd t504 2))).setCell ⟨gb508, 3, none⟩ (.int .i64 (rd t504 3))).heap[gb503]? = some (.cells #[.int .i64 0, .int .i64 0, .int .i64 0, .int .i64 0, .int .i64 0, .int .i64 0, .int .i64 0, .int .i64 0, .int .i64 0] 37 (0, 0))) := ⟨by (with_reducible repeat (first | refine blk_drewN ?_ _ | refine blk_drew ?_ | refine blk_alloc ?_ _)); refine blk_far ?_ NB503_508.out _; (with_reducible repeat (first | refine blk_drewN ?_ _ | refine blk_drew ?_ | refine blk_alloc ?_ _)); refine blk_far ?_ NB503_508.out _; (with_reducible repeat (first | refine blk_drewN ?_ _ | refine blk_drew ?_ | refine blk_alloc ?_ _)); refine blk_far ?_ NB503_508.out _; (with_reducible repeat (first | refine blk_drewN ?_ _ | refine blk_drew ?_ | refine blk_alloc ?_ _)); refine blk_far ?_ NB503_508.out _; (with_reducible repeat (first | refine blk_drewN ?_ _ | refine blk_drew ?_ | refine blk_alloc ?_ _)); exact BK503.out⟩
                          have n2_ : Aside0 (((((w46.setCell ⟨gb508, 0, none⟩ (.int .i64 (rd t504 0))).setCell ⟨gb508, 1, none⟩ (.int .i64 (rd t504 1))).setCell ⟨gb508, 2, none⟩ (.int .i64 (rd t504 2))).setCell ⟨gb508, 3, none⟩ (.int .i64 (rd t504 3))).heap[gb508]? = some (.cells #[.int .i64 (rd t504 0), .int .i64 (rd t504 1), .int .i64 (rd t504 2), .int .i64 (rd t504 3), .int .i64 0, .int .i64 0, .int .i64 0, .int .i64 0, .int .i64 (rd t504 8)] 37 (0, 0))) := ⟨by (with_reducible repeat (first | refine blk_drewN ?_ _ | refine blk_drew ?_ | refine blk_alloc ?_ _)); refine blk_put (cs := #[.int .i64 (rd t504 0), .int .i64 (rd t504 1), .int .i64 (rd t504 2), .int .i64 0, .int .i64 0, .int .i64 0, .int .i64 0, .int .i64 0, .int .i64 (rd t504 8)]) ?_ 3 _ rfl; (with_reducible repeat (first | refine blk_drewN ?_ _ | refine blk_drew ?_ | refine blk_alloc ?_ _)); refine blk_put (cs := #[.int .i64 (rd t504 0), .int .i64 (rd t504 1), .int .i64 0, .int .i64 0, .int .i64 0, .int .i64 0, .int .i64 0, .int .i64 0, .int .i64 (rd t504 8)]) ?_ 2 _ rfl; (with_reducible repeat (first | refine blk_drewN ?_ _ | refine blk_drew ?_ | refine blk_alloc ?_ _)); refine blk_put (cs := #[.int .i64 (rd t504 0), .int .i64 0, .int .i64 0, .int .i64 0, .int .i64 0, .int .i64 0, .int .i64 0, .int .i64 0, .int .i64 (rd t504 8)]) ?_ 1 _ rfl; (with_reducible repeat (first | refine blk_drewN ?_ _ | refine blk_drew ?_ | refine blk_alloc ?_ _)); refine blk_put (cs := #[.int .i64 0, .int .i64 0, .int .i64 0, .int .i64 0, .int .i64 0, .int .i64 0, .int .i64 0, .int .i64 0, .int .i64 (rd t504 8)]) ?_ 0 _ rfl; (with_reducible repeat (first | refine blk_drewN ?_ _ | refine blk_drew ?_ | refine blk_alloc ?_ _)); exact BK508.out⟩
                          have n3_ : Aside0 (Below w.heap.size w ((((w46.setCell ⟨gb508, 0, none⟩ (.int .i64 (rd t504 0))).setCell ⟨gb508, 1, none⟩ (.int .i64 (rd t504 1))).setCell ⟨gb508, 2, none⟩ (.int .i64 (rd t504 2))).setCell ⟨gb508, 3, none⟩ (.int .i64 (rd t504 3)))) := ⟨by repeat (first | (with_reducible first | exact HB.out | apply below_alloc | apply pw_below_drewN | apply below_drew1 | refine below_set ?_ GE503.out | refine below_set ?_ GE508.out) | exact HB.out)⟩
                          (try clear HO506)
                          (try clear BK503)
                          (try clear BK508)
                          (try clear HB)
                          generalize ((((w46.setCell ⟨gb508, 0, none⟩ (.int .i64 (rd t504 0))).setCell ⟨gb508, 1, none⟩ (.int .i64 (rd t504 1))).setCell ⟨gb508, 2, none⟩ (.int .i64 (rd t504 2))).setCell ⟨gb508, 3, none⟩ (.int .i64 (rd t504 3))) = w51 at n0_ n1_ n2_ n3_ ⊢
                          have HO506 := n0_
                          have BK503 := n1_
                          have BK508 := n2_
                          have HB := n3_
                          clear n0_ n1_ n2_ n3_
                          have n0_ := Aside0.mk (Kd.R_drew HO506.out)
                          have n1_ := Aside0.mk (blk_drew BK503.out)
                          have n2_ := Aside0.mk (blk_drew BK508.out)
                          have n3_ := Aside0.mk (below_drew1 HB.out)
                          clear HO506
                          clear BK503
                          clear BK508
                          clear HB
                          have HO506 := n0_
                          have BK503 := n1_
                          have BK508 := n2_
                          have HB := n3_
                          clear n0_ n1_ n2_ n3_
                          have p513 : 0 ≤ (4 : Int) := (by omega)
                          have q513 : 4 < (t504.length : Int) := of_decide_eq_true (by first | (with_reducible assumption) | assumption)
                          obtain ⟨ad513, e513, hx513_0⟩ := Kd.at_int (Kd.R_reads' HO506.out).2.2 4 p513 q513
                          obtain rfl : ad507 = ad513 := (by injection e513)
                          (try simp only [show (4 : Int).toNat = 4 from rfl, Nat.reduceMul, Nat.reduceEqDiff, Go.Addr.add, ↓reduceIte] at hx513_0)
                          have qi513 : (4 < t504.length) = True := eq_true (by omega)
                          (try rw [show ((4 : Int)).toNat = 4 from rfl] at hx513_0)
                          replace p513 := eq_true p513
                          replace q513 := eq_true q513
                          have p514 : 0 ≤ (5 : Int) := (by omega)
                          have q514 : 5 < (t504.length : Int) := of_decide_eq_true (by first | (with_reducible assumption) | assumption)
                          obtain ⟨ad514, e514, hx514_0⟩ := Kd.at_int (Kd.R_reads' HO506.out).2.2 5 p514 q514
                          obtain rfl : ad507 = ad514 := (by injection e514)
                          (try simp only [show (5 : Int).toNat = 5 from rfl, Nat.reduceMul, Nat.reduceEqDiff, Go.Addr.add, ↓reduceIte] at hx514_0)
                          have qi514 : (5 < t504.length) = True := eq_true (by omega)
                          (try rw [show ((5 : Int)).toNat = 5 from rfl] at hx514_0)
                          replace p514 := eq_true p514
                          replace q514 := eq_true q514
                          have p515 : 0 ≤ (6 : Int) := (by omega)
                          have q515 : 6 < (t504.length : Int) := of_decide_eq_true (by first | (with_reducible assumption) | assumption)
                          obtain ⟨ad515, e515, hx515_0⟩ := Kd.at_int (Kd.R_reads' HO506.out).2.2 6 p515 q515
                          obtain rfl : ad507 = ad515 := (by injection e515)
                          (try simp only [show (6 : Int).toNat = 6 from rfl, Nat.reduceMul, Nat.reduceEqDiff, Go.Addr.add, ↓reduceIte] at hx515_0)
                          have qi515 : (6 < t504.length) = True := eq_true (by omega)
                          (try rw [show ((6 : Int)).toNat = 6 from rfl] at hx515_0)
                          replace p515 := eq_true p515
                          replace q515 := eq_true q515
                          have p516 : 0 ≤ (7 : Int) := (by omega)
                          have q516 : 7 < (t504.length : Int) := of_decide_eq_true (by first | (with_reducible assumption) | assumption)
                          obtain ⟨ad516, e516, hx516_0⟩ := Kd.at_int (Kd.R_reads' HO506.out).2.2 7 p516 q516
                          obtain rfl : ad507 = ad516 := (by injection e516)
                          (try simp only [show (7 : Int).toNat = 7 from rfl, Nat.reduceMul, Nat.reduceEqDiff, Go.Addr.add, ↓reduceIte] at hx516_0)
                          have qi516 : (7 < t504.length) = True := eq_true (by omega)
                          (try rw [show ((7 : Int)).toNat = 7 from rfl] at hx516_0)
                          replace p516 := eq_true p516
                          replace q516 := eq_true q516
                          refine start_ (n := 15) (S := fun w' => w'.cell? ⟨ad507.block, ad507.off + 4, none⟩ = some (.int .i64 (rd t504 4)) ∧ w'.cell? ⟨ad507.block, ad507.off + 5, none⟩ = some (.int .i64 (rd t504 5)) ∧ w'.cell? ⟨ad507.block, ad507.off + 6, none⟩ = some (.int .i64 (rd t504 6)) ∧ w'.cell? ⟨ad507.block, ad507.off + 7, none⟩ = some (.int .i64 (rd t504 7))) (ds := []) #[false, false, false, false, false, false, false, false, false, false, false, false, false, false, false] (by kernel_rfl) rfl rfl ⟨hx513_0, hx514_0, hx515_0, hx516_0⟩ (fun hHeld => ?_); refine with_tabW spec_ReadMachine.tab6 spec_ReadMachine.bits6 (fun HT_ HW_ => ?_)
                          generalize w51.drew = w52 at HO506 BK503 BK508 HB hx513_0 hx514_0 hx515_0 hx516_0 hHeld ⊢
                          refine pure_ (i := 0) (N := some 30) (v := ?_) (a' := ?_) #[true, false, false, false, false, false, false, false, false, false, false, false, false, false, false] rfl rfl (any_of HT_.out (by kernel_rfl)) (fun _ _ _ h => h) (Or.inl ⟨by rfl, ?_⟩) ?_ ?_
                          rotate_left
                          · intro w'
                            go_simp
                            with_reducible rfl
                          rotate_left
                          · simp only [Act.put, List.setIfInBounds_toArray, List.set_cons_zero, List.set_cons_succ, i64_w, i32_w]
                            rfl
                          refine pure_ (i := 1) (N := some 31) (v := ?_) (a' := ?_) #[true, true, false, false, false, false, false, false, false, false, false, false, false, false, false] rfl rfl (any_of HT_.out (by kernel_rfl)) (fun _ _ _ h => h) (Or.inl ⟨by rfl, ?_⟩) ?_ ?_
                          rotate_left
                          · intro w'
                            go_simp
                            with_reducible rfl
                          rotate_left
                          · simp only [Act.put, List.setIfInBounds_toArray, List.set_cons_zero, List.set_cons_succ, i64_w, i32_w]
                            rfl
                          refine pure_ (i := 3) (N := some 33) (v := ?_) (a' := ?_) #[true, true, false, true, false, false, false, false, false, false, false, false, false, false, false] rfl rfl (any_of HT_.out (by kernel_rfl)) (fun _ _ _ h => h) (Or.inl ⟨by rfl, ?_⟩) ?_ ?_
                          rotate_left
                          · intro w'
                            go_simp
                            with_reducible rfl
                          rotate_left
                          · simp only [Act.put, List.setIfInBounds_toArray, List.set_cons_zero, List.set_cons_succ, i64_w, i32_w]
                            rfl
                          refine pure_ (i := 4) (N := some 34) (v := ?_) (a' := ?_) #[true, true, false, true, true, false, false, false, false, false, false, false, false, false, false] rfl rfl (any_of HT_.out (by kernel_rfl)) (fun _ _ _ h => h) (Or.inl ⟨by rfl, ?_⟩) ?_ ?_
                          rotate_left
                          · intro w'
                            go_simp
                            with_reducible rfl
                          rotate_left
                          · simp only [Act.put, List.setIfInBounds_toArray, List.set_cons_zero, List.set_cons_succ, i64_w, i32_w]
                            rfl
                          refine pure_ (i := 6) (N := some 36) (v := ?_) (a' := ?_) #[true, true, false, true, true, false, true, false, false, false, false, false, false, false, false] rfl rfl (any_of HT_.out (by kernel_rfl)) (fun _ _ _ h => h) (Or.inl ⟨by rfl, ?_⟩) ?_ ?_
                          rotate_left
                          · intro w'
                            go_simp
                            with_reducible rfl
                          rotate_left
                          · simp only [Act.put, List.setIfInBounds_toArray, List.set_cons_zero, List.set_cons_succ, i64_w, i32_w]
                            rfl
                          refine pure_ (i := 7) (N := some 37) (v := ?_) (a' := ?_) #[true, true, false, true, true, false, true, true, false, false, false, false, false, false, false] rfl rfl (any_of HT_.out (by kernel_rfl)) (fun _ _ _ h => h) (Or.inl ⟨by rfl, ?_⟩) ?_ ?_
                          rotate_left
                          · intro w'
                            go_simp
                            with_reducible rfl
                          rotate_left
                          · simp only [Act.put, List.setIfInBounds_toArray, List.set_cons_zero, List.set_cons_succ, i64_w, i32_w]
                            rfl
                          refine pure_ (i := 9) (N := some 39) (v := ?_) (a' := ?_) #[true, true, false, true, true, false, true, true, false, true, false, false, false, false, false] rfl rfl (any_of HT_.out (by kernel_rfl)) (fun _ _ _ h => h) (Or.inl ⟨by rfl, ?_⟩) ?_ ?_
                          rotate_left
                          · intro w'
                            go_simp
                            with_reducible rfl
                          rotate_left
                          · simp only [Act.put, List.setIfInBounds_toArray, List.set_cons_zero, List.set_cons_succ, i64_w, i32_w]
                            rfl
                          refine pure_ (i := 10) (N := some 40) (v := ?_) (a' := ?_) #[true, true, false, true, true, false, true, true, false, true, true, false, false, false, false] rfl rfl (any_of HT_.out (by kernel_rfl)) (fun _ _ _ h => h) (Or.inl ⟨by rfl, ?_⟩) ?_ ?_
                          rotate_left
                          · intro w'
                            go_simp
                            with_reducible rfl
                          rotate_left
                          · simp only [Act.put, List.setIfInBounds_toArray, List.set_cons_zero, List.set_cons_succ, i64_w, i32_w]
                            rfl
                          refine take_ (i := 2) (N := some 32) (v := ?_) (a' := ?_) #[true, true, true, true, true, false, true, true, false, true, true, false, false, false, false] rfl rfl (take_ofW HT_.out HW_.out (by kernel_rfl)) (fun _ _ _ h => h) (Or.inl ⟨by rfl, ?_⟩) hHeld ?_ ?_
                          rotate_left
                          · rintro w' ⟨s0, s1, s2, s3⟩
                            go_simp
                            with_reducible rfl
                          rotate_left
                          · simp only [Act.put, List.setIfInBounds_toArray, List.set_cons_zero, List.set_cons_succ, i64_w, i32_w]
                            rfl
                          refine take_ (i := 5) (N := some 35) (v := ?_) (a' := ?_) #[true, true, true, true, true, true, true, true, false, true, true, false, false, false, false] rfl rfl (take_ofW HT_.out HW_.out (by kernel_rfl)) (fun _ _ _ h => h) (Or.inl ⟨by rfl, ?_⟩) hHeld ?_ ?_
                          rotate_left
                          · rintro w' ⟨s0, s1, s2, s3⟩
                            go_simp
                            with_reducible rfl
                          rotate_left
                          · simp only [Act.put, List.setIfInBounds_toArray, List.set_cons_zero, List.set_cons_succ, i64_w, i32_w]
                            rfl
                          refine take_ (i := 8) (N := some 38) (v := ?_) (a' := ?_) #[true, true, true, true, true, true, true, true, true, true, true, false, false, false, false] rfl rfl (take_ofW HT_.out HW_.out (by kernel_rfl)) (fun _ _ _ h => h) (Or.inl ⟨by rfl, ?_⟩) hHeld ?_ ?_
                          rotate_left
                          · rintro w' ⟨s0, s1, s2, s3⟩
                            go_simp
                            with_reducible rfl
                          rotate_left
                          · simp only [Act.put, List.setIfInBounds_toArray, List.set_cons_zero, List.set_cons_succ, i64_w, i32_w]
                            rfl
                          refine take_ (i := 11) (N := some 41) (v := ?_) (a' := ?_) #[true, true, true, true, true, true, true, true, true, true, true, true, false, false, false] rfl rfl (take_ofW HT_.out HW_.out (by kernel_rfl)) (fun _ _ _ h => h) (Or.inl ⟨by rfl, ?_⟩) hHeld ?_ ?_
                          rotate_left
                          · rintro w' ⟨s0, s1, s2, s3⟩
                            go_simp
                            with_reducible rfl
                          rotate_left
                          · simp only [Act.put, List.setIfInBounds_toArray, List.set_cons_zero, List.set_cons_succ, i64_w, i32_w]
                            rfl
                          refine pure_ (i := 12) (N := some 42) (v := ?_) (a' := ?_) #[true, true, true, true, true, true, true, true, true, true, true, true, true, false, false] rfl rfl (any_of HT_.out (by kernel_rfl)) (fun _ _ _ h => h) (Or.inl ⟨by rfl, ?_⟩) ?_ ?_
                          rotate_left
                          · intro w'
                            go_simp
                            with_reducible rfl
                          rotate_left
                          · simp only [Act.put, List.setIfInBounds_toArray, List.set_cons_zero, List.set_cons_succ, i64_w, i32_w]
                            rfl
                          refine pure_ (i := 13) (N := some 43) (v := ?_) (a' := ?_) #[true, true, true, true, true, true, true, true, true, true, true, true, true, true, false] rfl rfl (any_of HT_.out (by kernel_rfl)) (fun _ _ _ h => h) (Or.inl ⟨by rfl, ?_⟩) ?_ ?_
                          rotate_left
                          · intro w'
                            go_simp
                            with_reducible rfl
                          rotate_left
                          · simp only [Act.put, List.setIfInBounds_toArray, List.set_cons_zero, List.set_cons_succ, i64_w, i32_w]
                            rfl
                          refine one_ (i := 14) (N := none) #[true, true, true, true, true, true, true, true, true, true, true, true, true, true, true] rfl rfl (one_of HT_.out (by kernel_rfl)) (by decide) (fun K hK => ?_)
                          have hs53 : w52.cell? ⟨gb508, 4, none⟩ = some (.int .i64 0) := (blk_cell BK508.out 4).trans rfl
                          have hfs53 := blk_frozen BK508.out 4
                          have hns53_0 := NB503_508.out
                          have hms53_0 := NB508_503.out
                          have hs54 : w52.cell? ⟨gb508, 5, none⟩ = some (.int .i64 0) := (blk_cell BK508.out 5).trans rfl
                          have hfs54 := blk_frozen BK508.out 5
                          have hns54_0 := NB503_508.out
                          have hms54_0 := NB508_503.out
                          have hs55 : w52.cell? ⟨gb508, 6, none⟩ = some (.int .i64 0) := (blk_cell BK508.out 6).trans rfl
                          have hfs55 := blk_frozen BK508.out 6
                          have hns55_0 := NB503_508.out
                          have hms55_0 := NB508_503.out
                          have hs56 : w52.cell? ⟨gb508, 7, none⟩ = some (.int .i64 0) := (blk_cell BK508.out 7).trans rfl
                          have hfs56 := blk_frozen BK508.out 7
                          have hns56_0 := NB503_508.out
                          have hms56_0 := NB508_503.out
                          refine skip_ (w1 := ?_) (by rfl) rfl ?_ ?_
                          rotate_left
                          · go_simp
                            rfl
                          refine hK.out _ _ ⟨((cell_far (p := ⟨gb508, _, none⟩) (by first | (dsimp only; exact Kd.own_blk (Kd.R_ne HO506.out BK508.out (by decide))) | exact Kd.own_blk (Kd.R_ne HO506.out BK508.out (by decide)) | (rw [add_block]; exact Kd.own_blk (Kd.R_ne HO506.out BK508.out (by decide))) | (show (Addr.add _ _).block ≠ _; rw [add_block]; exact Kd.own_blk (Kd.R_ne HO506.out BK508.out (by decide)))) _).trans (((cell_far (p := ⟨gb508, _, none⟩) (by first | (dsimp only; exact Kd.own_blk (Kd.R_ne HO506.out BK508.out (by decide))) | exact Kd.own_blk (Kd.R_ne HO506.out BK508.out (by decide)) | (rw [add_block]; exact Kd.own_blk (Kd.R_ne HO506.out BK508.out (by decide))) | (show (Addr.add _ _).block ≠ _; rw [add_block]; exact Kd.own_blk (Kd.R_ne HO506.out BK508.out (by decide)))) _).trans (((cell_far (p := ⟨gb508, _, none⟩) (by first | (dsimp only; exact Kd.own_blk (Kd.R_ne HO506.out BK508.out (by decide))) | exact Kd.own_blk (Kd.R_ne HO506.out BK508.out (by decide)) | (rw [add_block]; exact Kd.own_blk (Kd.R_ne HO506.out BK508.out (by decide))) | (show (Addr.add _ _).block ≠ _; rw [add_block]; exact Kd.own_blk (Kd.R_ne HO506.out BK508.out (by decide)))) _).trans (((cell_far (p := ⟨gb508, _, none⟩) (by first | (dsimp only; exact Kd.own_blk (Kd.R_ne HO506.out BK508.out (by decide))) | exact Kd.own_blk (Kd.R_ne HO506.out BK508.out (by decide)) | (rw [add_block]; exact Kd.own_blk (Kd.R_ne HO506.out BK508.out (by decide))) | (show (Addr.add _ _).block ≠ _; rw [add_block]; exact Kd.own_blk (Kd.R_ne HO506.out BK508.out (by decide)))) _).trans (hHeld.1)))))))), ((cell_far (p := ⟨gb508, _, none⟩) (by first | (dsimp only; exact Kd.own_blk (Kd.R_ne HO506.out BK508.out (by decide))) | exact Kd.own_blk (Kd.R_ne HO506.out BK508.out (by decide)) | (rw [add_block]; exact Kd.own_blk (Kd.R_ne HO506.out BK508.out (by decide))) | (show (Addr.add _ _).block ≠ _; rw [add_block]; exact Kd.own_blk (Kd.R_ne HO506.out BK508.out (by decide)))) _).trans (((cell_far (p := ⟨gb508, _, none⟩) (by first | (dsimp only; exact Kd.own_blk (Kd.R_ne HO506.out BK508.out (by decide))) | exact Kd.own_blk (Kd.R_ne HO506.out BK508.out (by decide)) | (rw [add_block]; exact Kd.own_blk (Kd.R_ne HO506.out BK508.out (by decide))) | (show (Addr.add _ _).block ≠ _; rw [add_block]; exact Kd.own_blk (Kd.R_ne HO506.out BK508.out (by decide)))) _).trans (((cell_far (p := ⟨gb508, _, none⟩) (by first | (dsimp only; exact Kd.own_blk (Kd.R_ne HO506.out BK508.out (by decide))) | exact Kd.own_blk (Kd.R_ne HO506.out BK508.out (by decide)) | (rw [add_block]; exact Kd.own_blk (Kd.R_ne HO506.out BK508.out (by decide))) | (show (Addr.add _ _).block ≠ _; rw [add_block]; exact Kd.own_blk (Kd.R_ne HO506.out BK508.out (by decide)))) _).trans (((cell_far (p := ⟨gb508, _, none⟩) (by first | (dsimp only; exact Kd.own_blk (Kd.R_ne HO506.out BK508.out (by decide))) | exact Kd.own_blk (Kd.R_ne HO506.out BK508.out (by decide)) | (rw [add_block]; exact Kd.own_blk (Kd.R_ne HO506.out BK508.out (by decide))) | (show (Addr.add _ _).block ≠ _; rw [add_block]; exact Kd.own_blk (Kd.R_ne HO506.out BK508.out (by decide)))) _).trans (hHeld.2.1)))))))), ((cell_far (p := ⟨gb508, _, none⟩) (by first | (dsimp only; exact Kd.own_blk (Kd.R_ne HO506.out BK508.out (by decide))) | exact Kd.own_blk (Kd.R_ne HO506.out BK508.out (by decide)) | (rw [add_block]; exact Kd.own_blk (Kd.R_ne HO506.out BK508.out (by decide))) | (show (Addr.add _ _).block ≠ _; rw [add_block]; exact Kd.own_blk (Kd.R_ne HO506.out BK508.out (by decide)))) _).trans (((cell_far (p := ⟨gb508, _, none⟩) (by first | (dsimp only; exact Kd.own_blk (Kd.R_ne HO506.out BK508.out (by decide))) | exact Kd.own_blk (Kd.R_ne HO506.out BK508.out (by decide)) | (rw [add_block]; exact Kd.own_blk (Kd.R_ne HO506.out BK508.out (by decide))) | (show (Addr.add _ _).block ≠ _; rw [add_block]; exact Kd.own_blk (Kd.R_ne HO506.out BK508.out (by decide)))) _).trans (((cell_far (p := ⟨gb508, _, none⟩) (by first | (dsimp only; exact Kd.own_blk (Kd.R_ne HO506.out BK508.out (by decide))) | exact Kd.own_blk (Kd.R_ne HO506.out BK508.out (by decide)) | (rw [add_block]; exact Kd.own_blk (Kd.R_ne HO506.out BK508.out (by decide))) | (show (Addr.add _ _).block ≠ _; rw [add_block]; exact Kd.own_blk (Kd.R_ne HO506.out BK508.out (by decide)))) _).trans (((cell_far (p := ⟨gb508, _, none⟩) (by first | (dsimp only; exact Kd.own_blk (Kd.R_ne HO506.out BK508.out (by decide))) | exact Kd.own_blk (Kd.R_ne HO506.out BK508.out (by decide)) | (rw [add_block]; exact Kd.own_blk (Kd.R_ne HO506.out BK508.out (by decide))) | (show (Addr.add _ _).block ≠ _; rw [add_block]; exact Kd.own_blk (Kd.R_ne HO506.out BK508.out (by decide)))) _).trans (hHeld.2.2.1)))))))), ((cell_far (p := ⟨gb508, _, none⟩) (by first | (dsimp only; exact Kd.own_blk (Kd.R_ne HO506.out BK508.out (by decide))) | exact Kd.own_blk (Kd.R_ne HO506.out BK508.out (by decide)) | (rw [add_block]; exact Kd.own_blk (Kd.R_ne HO506.out BK508.out (by decide))) | (show (Addr.add _ _).block ≠ _; rw [add_block]; exact Kd.own_blk (Kd.R_ne HO506.out BK508.out (by decide)))) _).trans (((cell_far (p := ⟨gb508, _, none⟩) (by first | (dsimp only; exact Kd.own_blk (Kd.R_ne HO506.out BK508.out (by decide))) | exact Kd.own_blk (Kd.R_ne HO506.out BK508.out (by decide)) | (rw [add_block]; exact Kd.own_blk (Kd.R_ne HO506.out BK508.out (by decide))) | (show (Addr.add _ _).block ≠ _; rw [add_block]; exact Kd.own_blk (Kd.R_ne HO506.out BK508.out (by decide)))) _).trans (((cell_far (p := ⟨gb508, _, none⟩) (by first | (dsimp only; exact Kd.own_blk (Kd.R_ne HO506.out BK508.out (by decide))) | exact Kd.own_blk (Kd.R_ne HO506.out BK508.out (by decide)) | (rw [add_block]; exact Kd.own_blk (Kd.R_ne HO506.out BK508.out (by decide))) | (show (Addr.add _ _).block ≠ _; rw [add_block]; exact Kd.own_blk (Kd.R_ne HO506.out BK508.out (by decide)))) _).trans (((cell_far (p := ⟨gb508, _, none⟩) (by first | (dsimp only; exact Kd.own_blk (Kd.R_ne HO506.out BK508.out (by decide))) | exact Kd.own_blk (Kd.R_ne HO506.out BK508.out (by decide)) | (rw [add_block]; exact Kd.own_blk (Kd.R_ne HO506.out BK508.out (by decide))) | (show (Addr.add _ _).block ≠ _; rw [add_block]; exact Kd.own_blk (Kd.R_ne HO506.out BK508.out (by decide)))) _).trans (hHeld.2.2.2))))))))⟩ (fun hHeld => ?_)
                          clear hK K
                          refine done_ (done_of HT_.out (by kernel_rfl)) ?_
                          try go_wp2_with (first | ((with_reducible refine gate_callee (f := 44) rfl ?_); refine goesL_ (some 44) rfl rfl Tryd.func44 (by kernel_rfl) rfl #[.pointer (some ⟨gb508, 0, none⟩)] rfl (by (try simp only [List.map_toArray, List.map_cons, List.map_nil]); first | done | rfl | (simp only [List.length_drop, List.length_take]; rfl)) ?_; (with_reducible refine (spec_l04Is.calls k gb508 (rd t504 0) (rd t504 1) (rd t504 2) (rd t504 3) (rd t504 4) (rd t504 5) (rd t504 6) (rd t504 7) (rd t504 8) true _ ?side1 A13.out).mono ?_); (case side1 => (with_reducible repeat (first | refine blk_drewN ?_ _ | refine blk_drew ?_ | refine blk_alloc ?_ _)); refine blk_put (cs := #[.int .i64 (rd t504 0), .int .i64 (rd t504 1), .int .i64 (rd t504 2), .int .i64 (rd t504 3), .int .i64 (rd t504 4), .int .i64 (rd t504 5), .int .i64 (rd t504 6), .int .i64 0, .int .i64 (rd t504 8)]) ?_ 7 _ rfl; (with_reducible repeat (first | refine blk_drewN ?_ _ | refine blk_drew ?_ | refine blk_alloc ?_ _)); refine blk_put (cs := #[.int .i64 (rd t504 0), .int .i64 (rd t504 1), .int .i64 (rd t504 2), .int .i64 (rd t504 3), .int .i64 (rd t504 4), .int .i64 (rd t504 5), .int .i64 0, .int .i64 0, .int .i64 (rd t504 8)]) ?_ 6 _ rfl; (with_reducible repeat (first | refine blk_drewN ?_ _ | refine blk_drew ?_ | refine blk_alloc ?_ _)); refine blk_put (cs := #[.int .i64 (rd t504 0), .int .i64 (rd t504 1), .int .i64 (rd t504 2), .int .i64 (rd t504 3), .int .i64 (rd t504 4), .int .i64 0, .int .i64 0, .int .i64 0, .int .i64 (rd t504 8)]) ?_ 5 _ rfl; (with_reducible repeat (first | refine blk_drewN ?_ _ | refine blk_drew ?_ | refine blk_alloc ?_ _)); refine blk_put (cs := #[.int .i64 (rd t504 0), .int .i64 (rd t504 1), .int .i64 (rd t504 2), .int .i64 (rd t504 3), .int .i64 0, .int .i64 0, .int .i64 0, .int .i64 0, .int .i64 (rd t504 8)]) ?_ 4 _ rfl; (with_reducible repeat (first | refine blk_drewN ?_ _ | refine blk_drew ?_ | refine blk_alloc ?_ _)); exact BK508.out); rintro e w57 ⟨rfl, hb⟩; refine ⟨_, rfl, ?_⟩; have n0_ := Aside0.mk (Kd.R_below (by (with_reducible repeat (first | apply Kd.R_alloc | apply Kd.R_drewN | apply Kd.R_drew)); exact (Kd.R_mono (Kd.R_far (p := ⟨gb508, 7, none⟩) (Kd.R_far (p := ⟨gb508, 6, none⟩) (Kd.R_far (p := ⟨gb508, 5, none⟩) (Kd.R_far (p := ⟨gb508, 4, none⟩) (Kd.R_types HO506.out BK508.out (by decide)) (fun _ hk => hk.2) (.int .i64 (rd t504 4))) (fun _ hk => hk.2) (.int .i64 (rd t504 5))) (fun _ hk => hk.2) (.int .i64 (rd t504 6))) (fun _ hk => hk.2) (.int .i64 (rd t504 7))) (fun _ h_ => h_.1))) hb); have n1_ := Aside0.mk (blk_below (g := gb503) (o := .cells #[.int .i64 0, .int .i64 0, .int .i64 0, .int .i64 0, .int .i64 0, .int .i64 0, .int .i64 0, .int .i64 0, .int .i64 0] 37 (0, 0)) (by (with_reducible repeat (first | refine blk_drewN ?_ _ | refine blk_drew ?_ | refine blk_alloc ?_ _)); refine blk_far ?_ NB503_508.out _; (with_reducible repeat (first | refine blk_drewN ?_ _ | refine blk_drew ?_ | refine blk_alloc ?_ _)); refine blk_far ?_ NB503_508.out _; (with_reducible repeat (first | refine blk_drewN ?_ _ | refine blk_drew ?_ | refine blk_alloc ?_ _)); refine blk_far ?_ NB503_508.out _; (with_reducible repeat (first | refine blk_drewN ?_ _ | refine blk_drew ?_ | refine blk_alloc ?_ _)); refine blk_far ?_ NB503_508.out _; (with_reducible repeat (first | refine blk_drewN ?_ _ | refine blk_drew ?_ | refine blk_alloc ?_ _)); exact BK503.out) hb); have n2_ := Aside0.mk (blk_below (g := gb508) (o := .cells #[.int .i64 (rd t504 0), .int .i64 (rd t504 1), .int .i64 (rd t504 2), .int .i64 (rd t504 3), .int .i64 (rd t504 4), .int .i64 (rd t504 5), .int .i64 (rd t504 6), .int .i64 (rd t504 7), .int .i64 (rd t504 8)] 37 (0, 0)) (by (with_reducible repeat (first | refine blk_drewN ?_ _ | refine blk_drew ?_ | refine blk_alloc ?_ _)); refine blk_put (cs := #[.int .i64 (rd t504 0), .int .i64 (rd t504 1), .int .i64 (rd t504 2), .int .i64 (rd t504 3), .int .i64 (rd t504 4), .int .i64 (rd t504 5), .int .i64 (rd t504 6), .int .i64 0, .int .i64 (rd t504 8)]) ?_ 7 _ rfl; (with_reducible repeat (first | refine blk_drewN ?_ _ | refine blk_drew ?_ | refine blk_alloc ?_ _)); refine blk_put (cs := #[.int .i64 (rd t504 0), .int .i64 (rd t504 1), .int .i64 (rd t504 2), .int .i64 (rd t504 3), .int .i64 (rd t504 4), .int .i64 (rd t504 5), .int .i64 0, .int .i64 0, .int .i64 (rd t504 8)]) ?_ 6 _ rfl; (with_reducible repeat (first | refine blk_drewN ?_ _ | refine blk_drew ?_ | refine blk_alloc ?_ _)); refine blk_put (cs := #[.int .i64 (rd t504 0), .int .i64 (rd t504 1), .int .i64 (rd t504 2), .int .i64 (rd t504 3), .int .i64 (rd t504 4), .int .i64 0, .int .i64 0, .int .i64 0, .int .i64 (rd t504 8)]) ?_ 5 _ rfl; (with_reducible repeat (first | refine blk_drewN ?_ _ | refine blk_drew ?_ | refine blk_alloc ?_ _)); refine blk_put (cs := #[.int .i64 (rd t504 0), .int .i64 (rd t504 1), .int .i64 (rd t504 2), .int .i64 (rd t504 3), .int .i64 0, .int .i64 0, .int .i64 0, .int .i64 0, .int .i64 (rd t504 8)]) ?_ 4 _ rfl; (with_reducible repeat (first | refine blk_drewN ?_ _ | refine blk_drew ?_ | refine blk_alloc ?_ _)); exact BK508.out) hb); have n3_ := Aside0.mk (below_step (by repeat (first | (with_reducible first | exact HB.out | apply below_alloc | apply pw_below_drewN | apply below_drew1 | refine below_set ?_ GE503.out | refine below_set ?_ GE508.out) | exact HB.out)) hb); clear HO506; clear BK503; clear BK508; clear HB; have HO506 := n0_; have BK503 := n1_; have BK508 := n2_; have HB := n3_; clear n0_ n1_ n2_ n3_; (try clear hb); (try clear hb2); (try clear hk); (try clear hi)) | (go_at_call 45; (with_reducible refine (spec_l04Text.calls k gb508 (rd t504 0) (rd t504 1) (rd t504 2) (rd t504 3) (rd t504 4) (rd t504 5) (rd t504 6) (rd t504 7) (rd t504 8) t518 _ ?side1 A15.out).mono ?_); (case side1 => (with_reducible repeat (first | refine blk_drewN ?_ _ | refine blk_drew ?_ | refine blk_alloc ?_ _)); exact BK508.out); rintro e w58 ⟨rfl, hb⟩; have n0_ := Aside0.mk (Kd.R_below (by (with_reducible repeat (first | apply Kd.R_alloc | apply Kd.R_drewN | apply Kd.R_drew)); exact HO506.out) hb); have n1_ := Aside0.mk (blk_below (g := gb503) (o := .cells #[.int .i64 0, .int .i64 0, .int .i64 0, .int .i64 0, .int .i64 0, .int .i64 0, .int .i64 0, .int .i64 0, .int .i64 0] 37 (0, 0)) (by (with_reducible repeat (first | refine blk_drewN ?_ _ | refine blk_drew ?_ | refine blk_alloc ?_ _)); exact BK503.out) hb); have n2_ := Aside0.mk (blk_below (g := gb508) (o := .cells #[.int .i64 (rd t504 0), .int .i64 (rd t504 1), .int .i64 (rd t504 2), .int .i64 (rd t504 3), .int .i64 (rd t504 4), .int .i64 (rd t504 5), .int .i64 (rd t504 6), .int .i64 (rd t504 7), .int .i64 (rd t504 8)] 37 (0, 0)) (by (with_reducible repeat (first | refine blk_drewN ?_ _ | refine blk_drew ?_ | refine blk_alloc ?_ _)); exact BK508.out) hb); have n3_ := Aside0.mk (below_step (by repeat (first | (with_reducible first | exact HB.out | apply below_alloc | apply pw_below_drewN | apply below_drew1 | refine below_set ?_ GE503.out | refine below_set ?_ GE508.out) | exact HB.out)) hb); clear HO506; clear BK503; clear BK508; clear HB; have HO506 := n0_; have BK503 := n1_; have BK508 := n2_; have HB := n3_; clear n0_ n1_ n2_ n3_; (try clear hb); (try clear hb2); (try clear hk); (try clear hi); have hcz59_0 : w58.cell? ⟨gb503, 0, none⟩ = some (.int .i64 0) := (blk_cell BK503.out 0).trans rfl; have hcz59_1 : w58.cell? ⟨gb503, 1, none⟩ = some (.int .i64 0) := (blk_cell BK503.out 1).trans rfl; have hcz59_2 : w58.cell? ⟨gb503, 2, none⟩ = some (.int .i64 0) := (blk_cell BK503.out 2).trans rfl; have hcz59_3 : w58.cell? ⟨gb503, 3, none⟩ = some (.int .i64 0) := (blk_cell BK503.out 3).trans rfl; have hcz59_4 : w58.cell? ⟨gb503, 4, none⟩ = some (.int .i64 0) := (blk_cell BK503.out 4).trans rfl; have hcz59_5 : w58.cell? ⟨gb503, 5, none⟩ = some (.int .i64 0) := (blk_cell BK503.out 5).trans rfl; have hcz59_6 : w58.cell? ⟨gb503, 6, none⟩ = some (.int .i64 0) := (blk_cell BK503.out 6).trans rfl; have hcz59_7 : w58.cell? ⟨gb503, 7, none⟩ = some (.int .i64 0) := (blk_cell BK503.out 7).trans rfl; have hcz59_8 : w58.cell? ⟨gb503, 8, none⟩ = some (.int .i64 0) := (blk_cell BK503.out 8).trans rfl; have hfz59_0 := blk_frozen BK503.out 0; have hfz59_1 := blk_frozen BK503.out 1; have hfz59_2 := blk_frozen BK503.out 2; have hfz59_3 := blk_frozen BK503.out 3; have hfz59_4 := blk_frozen BK503.out 4; have hfz59_5 := blk_frozen BK503.out 5; have hfz59_6 := blk_frozen BK503.out 6; have hfz59_7 := blk_frozen BK503.out 7; have hfz59_8 := blk_frozen BK503.out 8))
                          refine bodyPost_ret (results_ct rfl _ _ gb503 37 #[.int .i64 0, .int .i64 0, .int .i64 0, .int .i64 0, .int .i64 0, .int .i64 0, .int .i64 0, .int .i64 0, .int .i64 0] (0, 0) _ rfl (by (with_reducible repeat (first | refine blk_drewN ?_ _ | refine blk_drew ?_ | refine blk_alloc ?_ _)); refine blk_put (cs := #[.int .i64 0, .int .i64 0, .int .i64 0, .int .i64 0, .int .i64 0, .int .i64 0, .int .i64 0, .int .i64 0, .int .i64 0]) ?_ 8 _ rfl; (with_reducible repeat (first | refine blk_drewN ?_ _ | refine blk_drew ?_ | refine blk_alloc ?_ _)); refine blk_put (cs := #[.int .i64 0, .int .i64 0, .int .i64 0, .int .i64 0, .int .i64 0, .int .i64 0, .int .i64 0, .int .i64 0, .int .i64 0]) ?_ 7 _ rfl; (with_reducible repeat (first | refine blk_drewN ?_ _ | refine blk_drew ?_ | refine blk_alloc ?_ _)); refine blk_put (cs := #[.int .i64 0, .int .i64 0, .int .i64 0, .int .i64 0, .int .i64 0, .int .i64 0, .int .i64 0, .int .i64 0, .int .i64 0]) ?_ 6 _ rfl; (with_reducible repeat (first | refine blk_drewN ?_ _ | refine blk_drew ?_ | refine blk_alloc ?_ _)); refine blk_put (cs := #[.int .i64 0, .int .i64 0, .int .i64 0, .int .i64 0, .int .i64 0, .int .i64 0, .int .i64 0, .int .i64 0, .int .i64 0]) ?_ 5 _ rfl; (with_reducible repeat (first | refine blk_drewN ?_ _ | refine blk_drew ?_ | refine blk_alloc ?_ _)); refine blk_put (cs := #[.int .i64 0, .int .i64 0, .int .i64 0, .int .i64 0, .int .i64 0, .int .i64 0, .int .i64 0, .int .i64 0, .int .i64 0]) ?_ 4 _ rfl; (with_reducible repeat (first | refine blk_drewN ?_ _ | refine blk_drew ?_ | refine blk_alloc ?_ _)); refine blk_put (cs := #[.int .i64 0, .int .i64 0, .int .i64 0, .int .i64 0, .int .i64 0, .int .i64 0, .int .i64 0, .int .i64 0, .int .i64 0]) ?_ 3 _ rfl; (with_reducible repeat (first | refine blk_drewN ?_ _ | refine blk_drew ?_ | refine blk_alloc ?_ _)); refine blk_put (cs := #[.int .i64 0, .int .i64 0, .int .i64 0, .int .i64 0, .int .i64 0, .int .i64 0, .int .i64 0, .int .i64 0, .int .i64 0]) ?_ 2 _ rfl; (with_reducible repeat (first | refine blk_drewN ?_ _ | refine blk_drew ?_ | refine blk_alloc ?_ _)); refine blk_put (cs := #[.int .i64 0, .int .i64 0, .int .i64 0, .int .i64 0, .int .i64 0, .int .i64 0, .int .i64 0, .int .i64 0, .int .i64 0]) ?_ 1 _ rfl; (with_reducible repeat (first | refine blk_drewN ?_ _ | refine blk_drew ?_ | refine blk_alloc ?_ _)); refine blk_put (cs := #[.int .i64 0, .int .i64 0, .int .i64 0, .int .i64 0, .int .i64 0, .int .i64 0, .int .i64 0, .int .i64 0, .int .i64 0]) ?_ 0 _ rfl; (with_reducible repeat (first | refine blk_drewN ?_ _ | refine blk_drew ?_ | refine blk_alloc ?_ _)); exact BK503.out) Tryd.underlying37 rfl (by kernel_rfl)) rfl ?_
                          exact ⟨by first | rfl | (simp [errW_none, errW_some] <;> rfl) | (simp [*, errW_none, errW_some] <;> rfl), by repeat (first | (with_reducible first | exact HB.out | apply below_alloc | apply pw_below_drewN | apply below_drew1 | refine below_set ?_ GE503.out | refine below_set ?_ GE508.out) | exact HB.out)⟩
                      · replace c14 := Bool.eq_false_iff.mpr c14
                        subst c14
                        have H1 : (some (0, 0, 0, 0, 0, 0, 0, 0, 0, false)) = some (r1, r2, r3, r4, r5, r6, r7, r8, r9, r10) := by rw [if_neg (show ¬ (false = true) by decide)] at H; exact H
                        clear H
                        have H := H1
                        clear H1
                        simp only [Option.some.injEq, Prod.mk.injEq] at H
                        obtain ⟨rfl, rfl, rfl, rfl, rfl, rfl, rfl, rfl, rfl, rfl⟩ := H
                        go_enter Tryd.func31, Tryd.ntmps31
                        try go_wp2_with (first | ((with_reducible refine gate_dst (N := 2) rfl ?_); refine box_event ?hg (N := 2) ?hd (cs := #[.int .i64 0, .int .i64 0, .int .i64 0, .int .i64 0, .int .i64 0, .int .i64 0, .int .i64 0, .int .i64 0, .int .i64 0]) (t := 37) ?hr ?_; (case hd => rfl); (case hg => rfl); (case hr => first | (go_simp; done) | (go_simp; rfl)); intro gb503 hg w60 hbox hb; have n0_ := Aside0.mk (below_step (by repeat (first | (with_reducible first | exact HB.out | apply below_alloc | apply pw_below_drewN | apply below_drew1) | exact HB.out)) hb); have n1_ := Aside0.mk (hbox); have n2_ := Aside0.mk ((by rw [hg]; exact (below_size (by repeat (first | (with_reducible first | exact HB.out | apply below_alloc | apply pw_below_drewN | apply below_drew1) | exact HB.out))) : w.heap.size ≤ gb503)); have n3_ := Aside0.mk ((by rw [hg]; exact (below_size (by repeat (first | (with_reducible first | exact HB.out | apply below_alloc | apply pw_below_drewN | apply below_drew1) | exact HB.out))) : w.heap.size ≤ gb503)); clear HB; have HB := n0_; have BK503 := n1_; have GW503 := n2_; have GE503 := n3_; clear n0_ n1_ n2_ n3_; clear hb hbox hg) | ((with_reducible refine gate_callee (f := 60) rfl ?_); refine goesL_ (some 7) rfl rfl Tryd.func60 (by kernel_rfl) rfl #[.string a0] rfl (by (try simp only [List.map_toArray, List.map_cons, List.map_nil]); first | done | rfl | (simp only [List.length_drop, List.length_take]; rfl)) ?_; (with_reducible refine (spec_l02Numbers.calls k a0 t504 _ A2.out).mono ?_); rintro e w61 ⟨v505, rfl, ho0, hb⟩; refine ⟨_, rfl, ?_⟩; have n0_ := Aside0.mk (Kd.R_lower ho0 (below_size (by repeat (first | (with_reducible first | exact HB.out | apply below_alloc | apply pw_below_drewN | apply below_drew1 | refine below_set ?_ GE503.out) | exact HB.out)))); have n1_ := Aside0.mk (blk_below (g := gb503) (o := .cells #[.int .i64 0, .int .i64 0, .int .i64 0, .int .i64 0, .int .i64 0, .int .i64 0, .int .i64 0, .int .i64 0, .int .i64 0] 37 (0, 0)) (by (with_reducible repeat (first | refine blk_drewN ?_ _ | refine blk_drew ?_ | refine blk_alloc ?_ _)); exact BK503.out) hb); have n2_ := Aside0.mk (below_step (by repeat (first | (with_reducible first | exact HB.out | apply below_alloc | apply pw_below_drewN | apply below_drew1 | refine below_set ?_ GE503.out) | exact HB.out)) hb); clear BK503; clear HB; have HO506 := n0_; have BK503 := n1_; have HB := n2_; clear n0_ n1_ n2_; (try clear hb); (try clear hb2); (try clear hk); (try clear hi); (try clear ho0); obtain ⟨Ao62, co62, eo62⟩ := Kd.R_slice HO506.out; subst eo62; have p507 : 0 ≤ (8 : Int) := (by omega); have q507 : 8 < (t504.length : Int) := of_decide_eq_true (by first | (with_reducible assumption) | assumption); obtain ⟨ad507, e507, hx507_0⟩ := Kd.at_int (Kd.R_reads' HO506.out).2.2 8 p507 q507; cases e507; (try simp only [show (8 : Int).toNat = 8 from rfl, Nat.reduceMul, Nat.reduceEqDiff, Go.Addr.add, ↓reduceIte] at hx507_0); have qi507 : (8 < t504.length) = True := eq_true (by omega); (try rw [show ((8 : Int)).toNat = 8 from rfl] at hx507_0); replace p507 := eq_true p507; replace q507 := eq_true q507) | ((with_reducible refine gate_dst (N := 5) rfl ?_); refine box_event ?hg (N := 5) ?hd (cs := #[.int .i64 0, .int .i64 0, .int .i64 0, .int .i64 0, .int .i64 0, .int .i64 0, .int .i64 0, .int .i64 0, .int .i64 0]) (t := 37) ?hr ?_; (case hd => rfl); (case hg => rfl); (case hr => first | (go_simp; done) | (go_simp; rfl)); intro gb508 hg w63 hbox hb; have n0_ := Aside0.mk (Kd.R_below (by (with_reducible repeat (first | apply Kd.R_alloc | apply Kd.R_drewN | apply Kd.R_drew)); exact HO506.out) hb); have n1_ := Aside0.mk (blk_below (g := gb503) (o := .cells #[.int .i64 0, .int .i64 0, .int .i64 0, .int .i64 0, .int .i64 0, .int .i64 0, .int .i64 0, .int .i64 0, .int .i64 0] 37 (0, 0)) (by (with_reducible repeat (first | refine blk_drewN ?_ _ | refine blk_drew ?_ | refine blk_alloc ?_ _)); exact BK503.out) hb); have n2_ := Aside0.mk (below_step (by repeat (first | (with_reducible first | exact HB.out | apply below_alloc | apply pw_below_drewN | apply below_drew1 | refine below_set ?_ GE503.out) | exact HB.out)) hb); have n3_ := Aside0.mk (hbox); have n4_ := Aside0.mk ((by rw [hg]; exact (below_size (by repeat (first | (with_reducible first | exact HB.out | apply below_alloc | apply pw_below_drewN | apply below_drew1 | refine below_set ?_ GE503.out) | exact HB.out))) : w.heap.size ≤ gb508)); have n5_ := Aside0.mk ((by rw [hg]; exact (below_size (by repeat (first | (with_reducible first | exact HB.out | apply below_alloc | apply pw_below_drewN | apply below_drew1 | refine below_set ?_ GE503.out) | exact HB.out))) : w.heap.size ≤ gb508)); have n6_ := Aside0.mk ((by rw [hg]; exact Nat.ne_of_lt (blk_lt (g := gb503) (o := .cells #[.int .i64 0, .int .i64 0, .int .i64 0, .int .i64 0, .int .i64 0, .int .i64 0, .int .i64 0, .int .i64 0, .int .i64 0] 37 (0, 0)) (by (with_reducible repeat (first | refine blk_drewN ?_ _ | refine blk_drew ?_ | refine blk_alloc ?_ _)); exact BK503.out)) : gb503 ≠ gb508)); have n7_ := Aside0.mk ((by rw [hg]; exact Nat.ne_of_gt (blk_lt (g := gb503) (o := .cells #[.int .i64 0, .int .i64 0, .int .i64 0, .int .i64 0, .int .i64 0, .int .i64 0, .int .i64 0, .int .i64 0, .int .i64 0] 37 (0, 0)) (by (with_reducible repeat (first | refine blk_drewN ?_ _ | refine blk_drew ?_ | refine blk_alloc ?_ _)); exact BK503.out)) : gb508 ≠ gb503)); clear HO506; clear BK503; clear HB; have HO506 := n0_; have BK503 := n1_; have HB := n2_; have BK508 := n3_; have GW508 := n4_; have GE508 := n5_; have NB503_508 := n6_; have NB508_503 := n7_; clear n0_ n1_ n2_ n3_ n4_ n5_ n6_ n7_; clear hb hbox hg; have hnb64 := NB508_503.out; have hnc64 := NB503_508.out; have hcz65_0 : w63.cell? ⟨gb508, 0, none⟩ = some (.int .i64 0) := (blk_cell BK508.out 0).trans rfl; have hcz65_1 : w63.cell? ⟨gb508, 1, none⟩ = some (.int .i64 0) := (blk_cell BK508.out 1).trans rfl; have hcz65_2 : w63.cell? ⟨gb508, 2, none⟩ = some (.int .i64 0) := (blk_cell BK508.out 2).trans rfl; have hcz65_3 : w63.cell? ⟨gb508, 3, none⟩ = some (.int .i64 0) := (blk_cell BK508.out 3).trans rfl; have hcz65_4 : w63.cell? ⟨gb508, 4, none⟩ = some (.int .i64 0) := (blk_cell BK508.out 4).trans rfl; have hcz65_5 : w63.cell? ⟨gb508, 5, none⟩ = some (.int .i64 0) := (blk_cell BK508.out 5).trans rfl; have hcz65_6 : w63.cell? ⟨gb508, 6, none⟩ = some (.int .i64 0) := (blk_cell BK508.out 6).trans rfl; have hcz65_7 : w63.cell? ⟨gb508, 7, none⟩ = some (.int .i64 0) := (blk_cell BK508.out 7).trans rfl; have hcz65_8 : w63.cell? ⟨gb508, 8, none⟩ = some (.int .i64 0) := (blk_cell BK508.out 8).trans rfl; have hfz65_0 := blk_frozen BK508.out 0; have hfz65_1 := blk_frozen BK508.out 1; have hfz65_2 := blk_frozen BK508.out 2; have hfz65_3 := blk_frozen BK508.out 3; have hfz65_4 := blk_frozen BK508.out 4; have hfz65_5 := blk_frozen BK508.out 5; have hfz65_6 := blk_frozen BK508.out 6; have hfz65_7 := blk_frozen BK508.out 7; have hfz65_8 := blk_frozen BK508.out 8))
                        have n0_ : Aside0 (Kd.R (Kd.int .i64) 2 (((((((((w63.setCell ⟨gb508, 0, none⟩ (.int .i64 0)).setCell ⟨gb508, 1, none⟩ (.int .i64 0)).setCell ⟨gb508, 2, none⟩ (.int .i64 0)).setCell ⟨gb508, 3, none⟩ (.int .i64 0)).setCell ⟨gb508, 4, none⟩ (.int .i64 0)).setCell ⟨gb508, 5, none⟩ (.int .i64 0)).setCell ⟨gb508, 6, none⟩ (.int .i64 0)).setCell ⟨gb508, 7, none⟩ (.int .i64 0)).setCell ⟨gb508, 8, none⟩ (.int .i64 (rd t504 8))) w.heap.size (fun _ => True) (.slice (some ad507) t504.length co62) t504) := ⟨by (with_reducible repeat (first | apply Kd.R_alloc | apply Kd.R_drewN | apply Kd.R_drew)); exact Kd.R_mono (Kd.R_far (p := ⟨gb508, 8, none⟩) (Kd.R_far (p := ⟨gb508, 7, none⟩) (Kd.R_far (p := ⟨gb508, 6, none⟩) (Kd.R_far (p := ⟨gb508, 5, none⟩) (Kd.R_far (p := ⟨gb508, 4, none⟩) (Kd.R_far (p := ⟨gb508, 3, none⟩) (Kd.R_far (p := ⟨gb508, 2, none⟩) (Kd.R_far (p := ⟨gb508, 1, none⟩) (Kd.R_far (p := ⟨gb508, 0, none⟩) (Kd.R_types HO506.out BK508.out (by decide)) (fun _ hk => hk.2) (.int .i64 0)) (fun _ hk => hk.2) (.int .i64 0)) (fun _ hk => hk.2) (.int .i64 0)) (fun _ hk => hk.2) (.int .i64 0)) (fun _ hk => hk.2) (.int .i64 0)) (fun _ hk => hk.2) (.int .i64 0)) (fun _ hk => hk.2) (.int .i64 0)) (fun _ hk => hk.2) (.int .i64 0)) (fun _ hk => hk.2) (.int .i64 (rd t504 8))) (fun _ hk => trivial)⟩
                        have n1_ : Aside0 ((((((((((w63.setCell ⟨gb508, 0, none⟩ (.int .i64 0)).setCell ⟨gb508, 1, none⟩ (.int .i64 0)).setCell ⟨gb508, 2, none⟩ (.int .i64 0)).setCell ⟨gb508, 3, none⟩ (.int .i64 0)).setCell ⟨gb508, 4, none⟩ (.int .i64 0)).setCell ⟨gb508, 5, none⟩ (.int .i64 0)).setCell ⟨gb508, 6, none⟩ (.int .i64 0)).setCell ⟨gb508, 7, none⟩ (.int .i64 0)).setCell ⟨gb508, 8, none⟩ (.int .i64 (rd t504 8))).heap[gb503]? = some (.cells #[.int .i64 0, .int .i64 0, .int .i64 0, .int .i64 0, .int .i64 0, .int .i64 0, .int .i64 0, .int .i64 0, .int .i64 0] 37 (0, 0))) := ⟨by (with_reducible repeat (first | refine blk_drewN ?_ _ | refine blk_drew ?_ | refine blk_alloc ?_ _)); refine blk_far ?_ NB503_508.out _; (with_reducible repeat (first | refine blk_drewN ?_ _ | refine blk_drew ?_ | refine blk_alloc ?_ _)); refine blk_far ?_ NB503_508.out _; (with_reducible repeat (first | refine blk_drewN ?_ _ | refine blk_drew ?_ | refine blk_alloc ?_ _)); refine blk_far ?_ NB503_508.out _; (with_reducible repeat (first | refine blk_drewN ?_ _ | refine blk_drew ?_ | refine blk_alloc ?_ _)); refine blk_far ?_ NB503_508.out _; (with_reducible repeat (first | refine blk_drewN ?_ _ | refine blk_drew ?_ | refine blk_alloc ?_ _)); refine blk_far ?_ NB503_508.out _; (with_reducible repeat (first | refine blk_drewN ?_ _ | refine blk_drew ?_ | refine blk_alloc ?_ _)); refine blk_far ?_ NB503_508.out _; (with_reducible repeat (first | refine blk_drewN ?_ _ | refine blk_drew ?_ | refine blk_alloc ?_ _)); refine blk_far ?_ NB503_508.out _; (with_reducible repeat (first | refine blk_drewN ?_ _ | refine blk_drew ?_ | refine blk_alloc ?_ _)); refine blk_far ?_ NB503_508.out _; (with_reducible repeat (first | refine blk_drewN ?_ _ | refine blk_drew ?_ | refine blk_alloc ?_ _)); refine blk_far ?_ NB503_508.out _; (with_reducible repeat (first | refine blk_drewN ?_ _ | refine blk_drew ?_ | refine blk_alloc ?_ _)); exact BK503.out⟩
                        have n2_ : Aside0 ((((((((((w63.setCell ⟨gb508, 0, none⟩ (.int .i64 0)).setCell ⟨gb508, 1, none⟩ (.int .i64 0)).setCell ⟨gb508, 2, none⟩ (.int .i64 0)).setCell ⟨gb508, 3, none⟩ (.int .i64 0)).setCell ⟨gb508, 4, none⟩ (.int .i64 0)).setCell ⟨gb508, 5, none⟩ (.int .i64 0)).setCell ⟨gb508, 6, none⟩ (.int .i64 0)).setCell ⟨gb508, 7, none⟩ (.int .i64 0)).setCell ⟨gb508, 8, none⟩ (.int .i64 (rd t504 8))).heap[gb508]? = some (.cells #[.int .i64 0, .int .i64 0, .int .i64 0, .int .i64 0, .int .i64 0, .int .i64 0, .int .i64 0, .int .i64 0, .int .i64 (rd t504 8)] 37 (0, 0))) := ⟨by (with_reducible repeat (first | refine blk_drewN ?_ _ | refine blk_drew ?_ | refine blk_alloc ?_ _)); refine blk_put (cs := #[.int .i64 0, .int .i64 0, .int .i64 0, .int .i64 0, .int .i64 0, .int .i64 0, .int .i64 0, .int .i64 0, .int .i64 0]) ?_ 8 _ rfl; (with_reducible repeat (first | refine blk_drewN ?_ _ | refine blk_drew ?_ | refine blk_alloc ?_ _)); refine blk_put (cs := #[.int .i64 0, .int .i64 0, .int .i64 0, .int .i64 0, .int .i64 0, .int .i64 0, .int .i64 0, .int .i64 0, .int .i64 0]) ?_ 7 _ rfl; (with_reducible repeat (first | refine blk_drewN ?_ _ | refine blk_drew ?_ | refine blk_alloc ?_ _)); refine blk_put (cs := #[.int .i64 0, .int .i64 0, .int .i64 0, .int .i64 0, .int .i64 0, .int .i64 0, .int .i64 0, .int .i64 0, .int .i64 0]) ?_ 6 _ rfl; (with_reducible repeat (first | refine blk_drewN ?_ _ | refine blk_drew ?_ | refine blk_alloc ?_ _)); refine blk_put (cs := #[.int .i64 0, .int .i64 0, .int .i64 0, .int .i64 0, .int .i64 0, .int .i64 0, .int .i64 0, .int .i64 0, .int .i64 0]) ?_ 5 _ rfl; (with_reducible repeat (first | refine blk_drewN ?_ _ | refine blk_drew ?_ | refine blk_alloc ?_ _)); refine blk_put (cs := #[.int .i64 0, .int .i64 0, .int .i64 0, .int .i64 0, .int .i64 0, .int .i64 0, .int .i64 0, .int .i64 0, .int .i64 0]) ?_ 4 _ rfl; (with_reducible repeat (first | refine blk_drewN ?_ _ | refine blk_drew ?_ | refine blk_alloc ?_ _)); refine blk_put (cs := #[.int .i64 0, .int .i64 0, .int .i64 0, .int .i64 0, .int .i64 0, .int .i64 0, .int .i64 0, .int .i64 0, .int .i64 0]) ?_ 3 _ rfl; (with_reducible repeat (first | refine blk_drewN ?_ _ | refine blk_drew ?_ | refine blk_alloc ?_ _)); refine blk_put (cs := #[.int .i64 0, .int .i64 0, .int .i64 0, .int .i64 0, .int .i64 0, .int .i64 0, .int .i64 0, .int .i64 0, .int .i64 0]) ?_ 2 _ rfl; (with_reducible repeat (first | refine blk_drewN ?_ _ | refine blk_drew ?_ | refine blk_alloc ?_ _)); refine blk_put (cs := #[.int .i64 0, .int .i64 0, .int .i64 0, .int .i64 0, .int .i64 0, .int .i64 0, .int .i64 0, .int .i64 0, .int .i64 0]) ?_ 1 _ rfl; (with_reducible repeat (first | refine blk_drewN ?_ _ | refine blk_drew ?_ | refine blk_alloc ?_ _)); refine blk_put (cs := #[.int .i64 0, .int .i64 0, .int .i64 0, .int .i64 0, .int .i64 0, .int .i64 0, .int .i64 0, .int .i64 0, .int .i64 0]) ?_ 0 _ rfl; (with_reducible repeat (first | refine blk_drewN ?_ _ | refine blk_drew ?_ | refine blk_alloc ?_ _)); exact BK508.out⟩
                        have n3_ : Aside0 (Below w.heap.size w (((((((((w63.setCell ⟨gb508, 0, none⟩ (.int .i64 0)).setCell ⟨gb508, 1, none⟩ (.int .i64 0)).setCell ⟨gb508, 2, none⟩ (.int .i64 0)).setCell ⟨gb508, 3, none⟩ (.int .i64 0)).setCell ⟨gb508, 4, none⟩ (.int .i64 0)).setCell ⟨gb508, 5, none⟩ (.int .i64 0)).setCell ⟨gb508, 6, none⟩ (.int .i64 0)).setCell ⟨gb508, 7, none⟩ (.int .i64 0)).setCell ⟨gb508, 8, none⟩ (.int .i64 (rd t504 8)))) := ⟨by repeat (first | (with_reducible first | exact HB.out | apply below_alloc | apply pw_below_drewN | apply below_drew1 | refine below_set ?_ GE503.out | refine below_set ?_ GE508.out) | exact HB.out)⟩
                        (try clear HO506)
                        (try clear BK503)
                        (try clear BK508)
                        (try clear HB)
                        generalize (((((((((w63.setCell ⟨gb508, 0, none⟩ (.int .i64 0)).setCell ⟨gb508, 1, none⟩ (.int .i64 0)).setCell ⟨gb508, 2, none⟩ (.int .i64 0)).setCell ⟨gb508, 3, none⟩ (.int .i64 0)).setCell ⟨gb508, 4, none⟩ (.int .i64 0)).setCell ⟨gb508, 5, none⟩ (.int .i64 0)).setCell ⟨gb508, 6, none⟩ (.int .i64 0)).setCell ⟨gb508, 7, none⟩ (.int .i64 0)).setCell ⟨gb508, 8, none⟩ (.int .i64 (rd t504 8))) = w66 at n0_ n1_ n2_ n3_ ⊢
                        have HO506 := n0_
                        have BK503 := n1_
                        have BK508 := n2_
                        have HB := n3_
                        clear n0_ n1_ n2_ n3_
                        have n0_ := Aside0.mk (Kd.R_drew HO506.out)
                        have n1_ := Aside0.mk (blk_drew BK503.out)
                        have n2_ := Aside0.mk (blk_drew BK508.out)
                        have n3_ := Aside0.mk (below_drew1 HB.out)
                        clear HO506
                        clear BK503
                        clear BK508
                        clear HB
                        have HO506 := n0_
                        have BK503 := n1_
                        have BK508 := n2_
                        have HB := n3_
                        clear n0_ n1_ n2_ n3_
                        have p509 : 0 ≤ (0 : Int) := (by omega)
                        have q509 : 0 < (t504.length : Int) := of_decide_eq_true (by first | (with_reducible assumption) | assumption)
                        obtain ⟨ad509, e509, hx509_0⟩ := Kd.at_int (Kd.R_reads' HO506.out).2.2 0 p509 q509
                        obtain rfl : ad507 = ad509 := (by injection e509)
                        have qi509 : (0 < t504.length) = True := eq_true (by omega)
                        (try rw [show ((0 : Int)).toNat = 0 from rfl] at hx509_0)
                        (try rw [Addr.add_zero'] at hx509_0)
                        replace p509 := eq_true p509
                        replace q509 := eq_true q509
                        have p510 : 0 ≤ (1 : Int) := (by omega)
                        have q510 : 1 < (t504.length : Int) := of_decide_eq_true (by first | (with_reducible assumption) | assumption)
                        obtain ⟨ad510, e510, hx510_0⟩ := Kd.at_int (Kd.R_reads' HO506.out).2.2 1 p510 q510
                        obtain rfl : ad507 = ad510 := (by injection e510)
                        (try simp only [show (1 : Int).toNat = 1 from rfl, Nat.reduceMul, Nat.reduceEqDiff, Go.Addr.add, ↓reduceIte] at hx510_0)
                        have qi510 : (1 < t504.length) = True := eq_true (by omega)
                        (try rw [show ((1 : Int)).toNat = 1 from rfl] at hx510_0)
                        replace p510 := eq_true p510
                        replace q510 := eq_true q510
                        have p511 : 0 ≤ (2 : Int) := (by omega)
                        have q511 : 2 < (t504.length : Int) := of_decide_eq_true (by first | (with_reducible assumption) | assumption)
                        obtain ⟨ad511, e511, hx511_0⟩ := Kd.at_int (Kd.R_reads' HO506.out).2.2 2 p511 q511
                        obtain rfl : ad507 = ad511 := (by injection e511)
                        (try simp only [show (2 : Int).toNat = 2 from rfl, Nat.reduceMul, Nat.reduceEqDiff, Go.Addr.add, ↓reduceIte] at hx511_0)
                        have qi511 : (2 < t504.length) = True := eq_true (by omega)
                        (try rw [show ((2 : Int)).toNat = 2 from rfl] at hx511_0)
                        replace p511 := eq_true p511
                        replace q511 := eq_true q511
                        have p512 : 0 ≤ (3 : Int) := (by omega)
                        have q512 : 3 < (t504.length : Int) := of_decide_eq_true (by first | (with_reducible assumption) | assumption)
                        obtain ⟨ad512, e512, hx512_0⟩ := Kd.at_int (Kd.R_reads' HO506.out).2.2 3 p512 q512
                        obtain rfl : ad507 = ad512 := (by injection e512)
                        (try simp only [show (3 : Int).toNat = 3 from rfl, Nat.reduceMul, Nat.reduceEqDiff, Go.Addr.add, ↓reduceIte] at hx512_0)
                        have qi512 : (3 < t504.length) = True := eq_true (by omega)
                        (try rw [show ((3 : Int)).toNat = 3 from rfl] at hx512_0)
                        replace p512 := eq_true p512
                        replace q512 := eq_true q512
                        refine start_ (n := 15) (S := fun w' => w'.cell? ad507 = some (.int .i64 (rd t504 0)) ∧ w'.cell? ⟨ad507.block, ad507.off + 1, none⟩ = some (.int .i64 (rd t504 1)) ∧ w'.cell? ⟨ad507.block, ad507.off + 2, none⟩ = some (.int .i64 (rd t504 2)) ∧ w'.cell? ⟨ad507.block, ad507.off + 3, none⟩ = some (.int .i64 (rd t504 3))) (ds := []) #[false, false, false, false, false, false, false, false, false, false, false, false, false, false, false] (by kernel_rfl) rfl rfl ⟨hx509_0, hx510_0, hx511_0, hx512_0⟩ (fun hHeld => ?_); refine with_tabW spec_ReadMachine.tab5 spec_ReadMachine.bits5 (fun HT_ HW_ => ?_)
                        generalize w66.drew = w67 at HO506 BK503 BK508 HB hx509_0 hx510_0 hx511_0 hx512_0 hHeld ⊢
                        refine pure_ (i := 0) (N := some 16) (v := ?_) (a' := ?_) #[true, false, false, false, false, false, false, false, false, false, false, false, false, false, false] rfl rfl (any_of HT_.out (by kernel_rfl)) (fun _ _ _ h => h) (Or.inl ⟨by rfl, ?_⟩) ?_ ?_
                        rotate_left
                        · intro w'
                          go_simp
                          with_reducible rfl
                        rotate_left
                        · simp only [Act.put, List.setIfInBounds_toArray, List.set_cons_zero, List.set_cons_succ, i64_w, i32_w]
                          rfl
                        refine pure_ (i := 1) (N := some 17) (v := ?_) (a' := ?_) #[true, true, false, false, false, false, false, false, false, false, false, false, false, false, false] rfl rfl (any_of HT_.out (by kernel_rfl)) (fun _ _ _ h => h) (Or.inl ⟨by rfl, ?_⟩) ?_ ?_
                        rotate_left
                        · intro w'
                          go_simp
                          with_reducible rfl
                        rotate_left
                        · simp only [Act.put, List.setIfInBounds_toArray, List.set_cons_zero, List.set_cons_succ, i64_w, i32_w]
                          rfl
                        refine pure_ (i := 3) (N := some 19) (v := ?_) (a' := ?_) #[true, true, false, true, false, false, false, false, false, false, false, false, false, false, false] rfl rfl (any_of HT_.out (by kernel_rfl)) (fun _ _ _ h => h) (Or.inl ⟨by rfl, ?_⟩) ?_ ?_
                        rotate_left
                        · intro w'
                          go_simp
                          with_reducible rfl
                        rotate_left
                        · simp only [Act.put, List.setIfInBounds_toArray, List.set_cons_zero, List.set_cons_succ, i64_w, i32_w]
                          rfl
                        refine pure_ (i := 4) (N := some 20) (v := ?_) (a' := ?_) #[true, true, false, true, true, false, false, false, false, false, false, false, false, false, false] rfl rfl (any_of HT_.out (by kernel_rfl)) (fun _ _ _ h => h) (Or.inl ⟨by rfl, ?_⟩) ?_ ?_
                        rotate_left
                        · intro w'
                          go_simp
                          with_reducible rfl
                        rotate_left
                        · simp only [Act.put, List.setIfInBounds_toArray, List.set_cons_zero, List.set_cons_succ, i64_w, i32_w]
                          rfl
                        refine pure_ (i := 6) (N := some 22) (v := ?_) (a' := ?_) #[true, true, false, true, true, false, true, false, false, false, false, false, false, false, false] rfl rfl (any_of HT_.out (by kernel_rfl)) (fun _ _ _ h => h) (Or.inl ⟨by rfl, ?_⟩) ?_ ?_
                        rotate_left
                        · intro w'
                          go_simp
                          with_reducible rfl
                        rotate_left
                        · simp only [Act.put, List.setIfInBounds_toArray, List.set_cons_zero, List.set_cons_succ, i64_w, i32_w]
                          rfl
                        refine pure_ (i := 7) (N := some 23) (v := ?_) (a' := ?_) #[true, true, false, true, true, false, true, true, false, false, false, false, false, false, false] rfl rfl (any_of HT_.out (by kernel_rfl)) (fun _ _ _ h => h) (Or.inl ⟨by rfl, ?_⟩) ?_ ?_
                        rotate_left
                        · intro w'
                          go_simp
                          with_reducible rfl
                        rotate_left
                        · simp only [Act.put, List.setIfInBounds_toArray, List.set_cons_zero, List.set_cons_succ, i64_w, i32_w]
                          rfl
                        refine pure_ (i := 9) (N := some 25) (v := ?_) (a' := ?_) #[true, true, false, true, true, false, true, true, false, true, false, false, false, false, false] rfl rfl (any_of HT_.out (by kernel_rfl)) (fun _ _ _ h => h) (Or.inl ⟨by rfl, ?_⟩) ?_ ?_
                        rotate_left
                        · intro w'
                          go_simp
                          with_reducible rfl
                        rotate_left
                        · simp only [Act.put, List.setIfInBounds_toArray, List.set_cons_zero, List.set_cons_succ, i64_w, i32_w]
                          rfl
                        refine pure_ (i := 10) (N := some 26) (v := ?_) (a' := ?_) #[true, true, false, true, true, false, true, true, false, true, true, false, false, false, false] rfl rfl (any_of HT_.out (by kernel_rfl)) (fun _ _ _ h => h) (Or.inl ⟨by rfl, ?_⟩) ?_ ?_
                        rotate_left
                        · intro w'
                          go_simp
                          with_reducible rfl
                        rotate_left
                        · simp only [Act.put, List.setIfInBounds_toArray, List.set_cons_zero, List.set_cons_succ, i64_w, i32_w]
                          rfl
                        refine take_ (i := 2) (N := some 18) (v := ?_) (a' := ?_) #[true, true, true, true, true, false, true, true, false, true, true, false, false, false, false] rfl rfl (take_ofW HT_.out HW_.out (by kernel_rfl)) (fun _ _ _ h => h) (Or.inl ⟨by rfl, ?_⟩) hHeld ?_ ?_
                        rotate_left
                        · rintro w' ⟨s0, s1, s2, s3⟩
                          go_simp
                          with_reducible rfl
                        rotate_left
                        · simp only [Act.put, List.setIfInBounds_toArray, List.set_cons_zero, List.set_cons_succ, i64_w, i32_w]
                          rfl
                        refine take_ (i := 5) (N := some 21) (v := ?_) (a' := ?_) #[true, true, true, true, true, true, true, true, false, true, true, false, false, false, false] rfl rfl (take_ofW HT_.out HW_.out (by kernel_rfl)) (fun _ _ _ h => h) (Or.inl ⟨by rfl, ?_⟩) hHeld ?_ ?_
                        rotate_left
                        · rintro w' ⟨s0, s1, s2, s3⟩
                          go_simp
                          with_reducible rfl
                        rotate_left
                        · simp only [Act.put, List.setIfInBounds_toArray, List.set_cons_zero, List.set_cons_succ, i64_w, i32_w]
                          rfl
                        refine take_ (i := 8) (N := some 24) (v := ?_) (a' := ?_) #[true, true, true, true, true, true, true, true, true, true, true, false, false, false, false] rfl rfl (take_ofW HT_.out HW_.out (by kernel_rfl)) (fun _ _ _ h => h) (Or.inl ⟨by rfl, ?_⟩) hHeld ?_ ?_
                        rotate_left
                        · rintro w' ⟨s0, s1, s2, s3⟩
                          go_simp
                          with_reducible rfl
                        rotate_left
                        · simp only [Act.put, List.setIfInBounds_toArray, List.set_cons_zero, List.set_cons_succ, i64_w, i32_w]
                          rfl
                        refine take_ (i := 11) (N := some 27) (v := ?_) (a' := ?_) #[true, true, true, true, true, true, true, true, true, true, true, true, false, false, false] rfl rfl (take_ofW HT_.out HW_.out (by kernel_rfl)) (fun _ _ _ h => h) (Or.inl ⟨by rfl, ?_⟩) hHeld ?_ ?_
                        rotate_left
                        · rintro w' ⟨s0, s1, s2, s3⟩
                          go_simp
                          with_reducible rfl
                        rotate_left
                        · simp only [Act.put, List.setIfInBounds_toArray, List.set_cons_zero, List.set_cons_succ, i64_w, i32_w]
                          rfl
                        refine pure_ (i := 12) (N := some 28) (v := ?_) (a' := ?_) #[true, true, true, true, true, true, true, true, true, true, true, true, true, false, false] rfl rfl (any_of HT_.out (by kernel_rfl)) (fun _ _ _ h => h) (Or.inl ⟨by rfl, ?_⟩) ?_ ?_
                        rotate_left
                        · intro w'
                          go_simp
                          with_reducible rfl
                        rotate_left
                        · simp only [Act.put, List.setIfInBounds_toArray, List.set_cons_zero, List.set_cons_succ, i64_w, i32_w]
                          rfl
                        refine pure_ (i := 13) (N := some 29) (v := ?_) (a' := ?_) #[true, true, true, true, true, true, true, true, true, true, true, true, true, true, false] rfl rfl (any_of HT_.out (by kernel_rfl)) (fun _ _ _ h => h) (Or.inl ⟨by rfl, ?_⟩) ?_ ?_
                        rotate_left
                        · intro w'
                          go_simp
                          with_reducible rfl
                        rotate_left
                        · simp only [Act.put, List.setIfInBounds_toArray, List.set_cons_zero, List.set_cons_succ, i64_w, i32_w]
                          rfl
                        refine one_ (i := 14) (N := none) #[true, true, true, true, true, true, true, true, true, true, true, true, true, true, true] rfl rfl (one_of HT_.out (by kernel_rfl)) (by decide) (fun K hK => ?_)
                        have hs68 : w67.cell? ⟨gb508, 0, none⟩ = some (.int .i64 0) := (blk_cell BK508.out 0).trans rfl
                        have hfs68 := blk_frozen BK508.out 0
                        have hns68_0 := NB503_508.out
                        have hms68_0 := NB508_503.out
                        have hs69 : w67.cell? ⟨gb508, 1, none⟩ = some (.int .i64 0) := (blk_cell BK508.out 1).trans rfl
                        have hfs69 := blk_frozen BK508.out 1
                        have hns69_0 := NB503_508.out
                        have hms69_0 := NB508_503.out
                        have hs70 : w67.cell? ⟨gb508, 2, none⟩ = some (.int .i64 0) := (blk_cell BK508.out 2).trans rfl
                        have hfs70 := blk_frozen BK508.out 2
                        have hns70_0 := NB503_508.out
                        have hms70_0 := NB508_503.out
                        have hs71 : w67.cell? ⟨gb508, 3, none⟩ = some (.int .i64 0) := (blk_cell BK508.out 3).trans rfl
                        have hfs71 := blk_frozen BK508.out 3
                        have hns71_0 := NB503_508.out
                        have hms71_0 := NB508_503.out
                        refine skip_ (w1 := ?_) (by rfl) rfl ?_ ?_
                        rotate_left
                        · go_simp
                          rfl
                        refine hK.out _ _ ⟨((cell_far (p := ⟨gb508, _, none⟩) (by first | (dsimp only; exact Kd.own_blk (Kd.R_ne HO506.out BK508.out (by decide))) | exact Kd.own_blk (Kd.R_ne HO506.out BK508.out (by decide)) | (rw [add_block]; exact Kd.own_blk (Kd.R_ne HO506.out BK508.out (by decide))) | (show (Addr.add _ _).block ≠ _; rw [add_block]; exact Kd.own_blk (Kd.R_ne HO506.out BK508.out (by decide)))) _).trans (((cell_far (p := ⟨gb508, _, none⟩) (by first | (dsimp only; exact Kd.own_blk (Kd.R_ne HO506.out BK508.out (by decide))) | exact Kd.own_blk (Kd.R_ne HO506.out BK508.out (by decide)) | (rw [add_block]; exact Kd.own_blk (Kd.R_ne HO506.out BK508.out (by decide))) | (show (Addr.add _ _).block ≠ _; rw [add_block]; exact Kd.own_blk (Kd.R_ne HO506.out BK508.out (by decide)))) _).trans (((cell_far (p := ⟨gb508, _, none⟩) (by first | (dsimp only; exact Kd.own_blk (Kd.R_ne HO506.out BK508.out (by decide))) | exact Kd.own_blk (Kd.R_ne HO506.out BK508.out (by decide)) | (rw [add_block]; exact Kd.own_blk (Kd.R_ne HO506.out BK508.out (by decide))) | (show (Addr.add _ _).block ≠ _; rw [add_block]; exact Kd.own_blk (Kd.R_ne HO506.out BK508.out (by decide)))) _).trans (((cell_far (p := ⟨gb508, _, none⟩) (by first | (dsimp only; exact Kd.own_blk (Kd.R_ne HO506.out BK508.out (by decide))) | exact Kd.own_blk (Kd.R_ne HO506.out BK508.out (by decide)) | (rw [add_block]; exact Kd.own_blk (Kd.R_ne HO506.out BK508.out (by decide))) | (show (Addr.add _ _).block ≠ _; rw [add_block]; exact Kd.own_blk (Kd.R_ne HO506.out BK508.out (by decide)))) _).trans (hHeld.1)))))))), ((cell_far (p := ⟨gb508, _, none⟩) (by first | (dsimp only; exact Kd.own_blk (Kd.R_ne HO506.out BK508.out (by decide))) | exact Kd.own_blk (Kd.R_ne HO506.out BK508.out (by decide)) | (rw [add_block]; exact Kd.own_blk (Kd.R_ne HO506.out BK508.out (by decide))) | (show (Addr.add _ _).block ≠ _; rw [add_block]; exact Kd.own_blk (Kd.R_ne HO506.out BK508.out (by decide)))) _).trans (((cell_far (p := ⟨gb508, _, none⟩) (by first | (dsimp only; exact Kd.own_blk (Kd.R_ne HO506.out BK508.out (by decide))) | exact Kd.own_blk (Kd.R_ne HO506.out BK508.out (by decide)) | (rw [add_block]; exact Kd.own_blk (Kd.R_ne HO506.out BK508.out (by decide))) | (show (Addr.add _ _).block ≠ _; rw [add_block]; exact Kd.own_blk (Kd.R_ne HO506.out BK508.out (by decide)))) _).trans (((cell_far (p := ⟨gb508, _, none⟩) (by first | (dsimp only; exact Kd.own_blk (Kd.R_ne HO506.out BK508.out (by decide))) | exact Kd.own_blk (Kd.R_ne HO506.out BK508.out (by decide)) | (rw [add_block]; exact Kd.own_blk (Kd.R_ne HO506.out BK508.out (by decide))) | (show (Addr.add _ _).block ≠ _; rw [add_block]; exact Kd.own_blk (Kd.R_ne HO506.out BK508.out (by decide)))) _).trans (((cell_far (p := ⟨gb508, _, none⟩) (by first | (dsimp only; exact Kd.own_blk (Kd.R_ne HO506.out BK508.out (by decide))) | exact Kd.own_blk (Kd.R_ne HO506.out BK508.out (by decide)) | (rw [add_block]; exact Kd.own_blk (Kd.R_ne HO506.out BK508.out (by decide))) | (show (Addr.add _ _).block ≠ _; rw [add_block]; exact Kd.own_blk (Kd.R_ne HO506.out BK508.out (by decide)))) _).trans (hHeld.2.1)))))))), ((cell_far (p := ⟨gb508, _, none⟩) (by first | (dsimp only; exact Kd.own_blk (Kd.R_ne HO506.out BK508.out (by decide))) | exact Kd.own_blk (Kd.R_ne HO506.out BK508.out (by decide)) | (rw [add_block]; exact Kd.own_blk (Kd.R_ne HO506.out BK508.out (by decide))) | (show (Addr.add _ _).block ≠ _; rw [add_block]; exact Kd.own_blk (Kd.R_ne HO506.out BK508.out (by decide)))) _).trans (((cell_far (p := ⟨gb508, _, none⟩) (by first | (dsimp only; exact Kd.own_blk (Kd.R_ne HO506.out BK508.out (by decide))) | exact Kd.own_blk (Kd.R_ne HO506.out BK508.out (by decide)) | (rw [add_block]; exact Kd.own_blk (Kd.R_ne HO506.out BK508.out (by decide))) | (show (Addr.add _ _).block ≠ _; rw [add_block]; exact Kd.own_blk (Kd.R_ne HO506.out BK508.out (by decide)))) _).trans (((cell_far (p := ⟨gb508, _, none⟩) (by first | (dsimp only; exact Kd.own_blk (Kd.R_ne HO506.out BK508.out (by decide))) | exact Kd.own_blk (Kd.R_ne HO506.out BK508.out (by decide)) | (rw [add_block]; exact Kd.own_blk (Kd.R_ne HO506.out BK508.out (by decide))) | (show (Addr.add _ _).block ≠ _; rw [add_block]; exact Kd.own_blk (Kd.R_ne HO506.out BK508.out (by decide)))) _).trans (((cell_far (p := ⟨gb508, _, none⟩) (by first | (dsimp only; exact Kd.own_blk (Kd.R_ne HO506.out BK508.out (by decide))) | exact Kd.own_blk (Kd.R_ne HO506.out BK508.out (by decide)) | (rw [add_block]; exact Kd.own_blk (Kd.R_ne HO506.out BK508.out (by decide))) | (show (Addr.add _ _).block ≠ _; rw [add_block]; exact Kd.own_blk (Kd.R_ne HO506.out BK508.out (by decide)))) _).trans (hHeld.2.2.1)))))))), ((cell_far (p := ⟨gb508, _, none⟩) (by first | (dsimp only; exact Kd.own_blk (Kd.R_ne HO506.out BK508.out (by decide))) | exact Kd.own_blk (Kd.R_ne HO506.out BK508.out (by decide)) | (rw [add_block]; exact Kd.own_blk (Kd.R_ne HO506.out BK508.out (by decide))) | (show (Addr.add _ _).block ≠ _; rw [add_block]; exact Kd.own_blk (Kd.R_ne HO506.out BK508.out (by decide)))) _).trans (((cell_far (p := ⟨gb508, _, none⟩) (by first | (dsimp only; exact Kd.own_blk (Kd.R_ne HO506.out BK508.out (by decide))) | exact Kd.own_blk (Kd.R_ne HO506.out BK508.out (by decide)) | (rw [add_block]; exact Kd.own_blk (Kd.R_ne HO506.out BK508.out (by decide))) | (show (Addr.add _ _).block ≠ _; rw [add_block]; exact Kd.own_blk (Kd.R_ne HO506.out BK508.out (by decide)))) _).trans (((cell_far (p := ⟨gb508, _, none⟩) (by first | (dsimp only; exact Kd.own_blk (Kd.R_ne HO506.out BK508.out (by decide))) | exact Kd.own_blk (Kd.R_ne HO506.out BK508.out (by decide)) | (rw [add_block]; exact Kd.own_blk (Kd.R_ne HO506.out BK508.out (by decide))) | (show (Addr.add _ _).block ≠ _; rw [add_block]; exact Kd.own_blk (Kd.R_ne HO506.out BK508.out (by decide)))) _).trans (((cell_far (p := ⟨gb508, _, none⟩) (by first | (dsimp only; exact Kd.own_blk (Kd.R_ne HO506.out BK508.out (by decide))) | exact Kd.own_blk (Kd.R_ne HO506.out BK508.out (by decide)) | (rw [add_block]; exact Kd.own_blk (Kd.R_ne HO506.out BK508.out (by decide))) | (show (Addr.add _ _).block ≠ _; rw [add_block]; exact Kd.own_blk (Kd.R_ne HO506.out BK508.out (by decide)))) _).trans (hHeld.2.2.2))))))))⟩ (fun hHeld => ?_)
                        clear hK K
                        refine done_ (done_of HT_.out (by kernel_rfl)) ?_
                        try go_wp2
                        have n0_ : Aside0 (Kd.R (Kd.int .i64) 2 ((((w67.setCell ⟨gb508, 0, none⟩ (.int .i64 (rd t504 0))).setCell ⟨gb508, 1, none⟩ (.int .i64 (rd t504 1))).setCell ⟨gb508, 2, none⟩ (.int .i64 (rd t504 2))).setCell ⟨gb508, 3, none⟩ (.int .i64 (rd t504 3))) w.heap.size (fun _ => True) (.slice (some ad507) t504.length co62) t504) := ⟨by (with_reducible repeat (first | apply Kd.R_alloc | apply Kd.R_drewN | apply Kd.R_drew)); exact Kd.R_mono (Kd.R_far (p := ⟨gb508, 3, none⟩) (Kd.R_far (p := ⟨gb508, 2, none⟩) (Kd.R_far (p := ⟨gb508, 1, none⟩) (Kd.R_far (p := ⟨gb508, 0, none⟩) (Kd.R_types HO506.out BK508.out (by decide)) (fun _ hk => hk.2) (.int .i64 (rd t504 0))) (fun _ hk => hk.2) (.int .i64 (rd t504 1))) (fun _ hk => hk.2) (.int .i64 (rd t504 2))) (fun _ hk => hk.2) (.int .i64 (rd t504 3))) (fun _ hk => trivial)⟩
                        have n1_ : Aside0 (((((w67.setCell ⟨gb508, 0, none⟩ (.int .i64 (rd t504 0))).setCell ⟨gb508, 1, none⟩ (.int .i64 (rd t504 1))).setCell ⟨gb508, 2, none⟩ (.int .i64 (rd t504 2))).setCell ⟨gb508, 3, none⟩ (.int .i64 (rd t504 3))).heap[gb503]? = some (.cells #[.int .i64 0, .int .i64 0, .int .i64 0, .int .i64 0, .int .i64 0, .int .i64 0, .int .i64 0, .int .i64 0, .int .i64 0] 37 (0, 0))) := ⟨by (with_reducible repeat (first | refine blk_drewN ?_ _ | refine blk_drew ?_ | refine blk_alloc ?_ _)); refine blk_far ?_ NB503_508.out _; (with_reducible repeat (first | refine blk_drewN ?_ _ | refine blk_drew ?_ | refine blk_alloc ?_ _)); refine blk_far ?_ NB503_508.out _; (with_reducible repeat (first | refine blk_drewN ?_ _ | refine blk_drew ?_ | refine blk_alloc ?_ _)); refine blk_far ?_ NB503_508.out _; (with_reducible repeat (first | refine blk_drewN ?_ _ | refine blk_drew ?_ | refine blk_alloc ?_ _)); refine blk_far ?_ NB503_508.out _; (with_reducible repeat (first | refine blk_drewN ?_ _ | refine blk_drew ?_ | refine blk_alloc ?_ _)); exact BK503.out⟩
                        have n2_ : Aside0 (((((w67.setCell ⟨gb508, 0, none⟩ (.int .i64 (rd t504 0))).setCell ⟨gb508, 1, none⟩ (.int .i64 (rd t504 1))).setCell ⟨gb508, 2, none⟩ (.int .i64 (rd t504 2))).setCell ⟨gb508, 3, none⟩ (.int .i64 (rd t504 3))).heap[gb508]? = some (.cells #[.int .i64 (rd t504 0), .int .i64 (rd t504 1), .int .i64 (rd t504 2), .int .i64 (rd t504 3), .int .i64 0, .int .i64 0, .int .i64 0, .int .i64 0, .int .i64 (rd t504 8)] 37 (0, 0))) := ⟨by (with_reducible repeat (first | refine blk_drewN ?_ _ | refine blk_drew ?_ | refine blk_alloc ?_ _)); refine blk_put (cs := #[.int .i64 (rd t504 0), .int .i64 (rd t504 1), .int .i64 (rd t504 2), .int .i64 0, .int .i64 0, .int .i64 0, .int .i64 0, .int .i64 0, .int .i64 (rd t504 8)]) ?_ 3 _ rfl; (with_reducible repeat (first | refine blk_drewN ?_ _ | refine blk_drew ?_ | refine blk_alloc ?_ _)); refine blk_put (cs := #[.int .i64 (rd t504 0), .int .i64 (rd t504 1), .int .i64 0, .int .i64 0, .int .i64 0, .int .i64 0, .int .i64 0, .int .i64 0, .int .i64 (rd t504 8)]) ?_ 2 _ rfl; (with_reducible repeat (first | refine blk_drewN ?_ _ | refine blk_drew ?_ | refine blk_alloc ?_ _)); refine blk_put (cs := #[.int .i64 (rd t504 0), .int .i64 0, .int .i64 0, .int .i64 0, .int .i64 0, .int .i64 0, .int .i64 0, .int .i64 0, .int .i64 (rd t504 8)]) ?_ 1 _ rfl; (with_reducible repeat (first | refine blk_drewN ?_ _ | refine blk_drew ?_ | refine blk_alloc ?_ _)); refine blk_put (cs := #[.int .i64 0, .int .i64 0, .int .i64 0, .int .i64 0, .int .i64 0, .int .i64 0, .int .i64 0, .int .i64 0, .int .i64 (rd t504 8)]) ?_ 0 _ rfl; (with_reducible repeat (first | refine blk_drewN ?_ _ | refine blk_drew ?_ | refine blk_alloc ?_ _)); exact BK508.out⟩
                        have n3_ : Aside0 (Below w.heap.size w ((((w67.setCell ⟨gb508, 0, none⟩ (.int .i64 (rd t504 0))).setCell ⟨gb508, 1, none⟩ (.int .i64 (rd t504 1))).setCell ⟨gb508, 2, none⟩ (.int .i64 (rd t504 2))).setCell ⟨gb508, 3, none⟩ (.int .i64 (rd t504 3)))) := ⟨by repeat (first | (with_reducible first | exact HB.out | apply below_alloc | apply pw_below_drewN | apply below_drew1 | refine below_set ?_ GE503.out | refine below_set ?_ GE508.out) | exact HB.out)⟩
                        (try clear HO506)
                        (try clear BK503)
                        (try clear BK508)
                        (try clear HB)
                        generalize ((((w67.setCell ⟨gb508, 0, none⟩ (.int .i64 (rd t504 0))).setCell ⟨gb508, 1, none⟩ (.int .i64 (rd t504 1))).setCell ⟨gb508, 2, none⟩ (.int .i64 (rd t504 2))).setCell ⟨gb508, 3, none⟩ (.int .i64 (rd t504 3))) = w72 at n0_ n1_ n2_ n3_ ⊢
                        have HO506 := n0_
                        have BK503 := n1_
                        have BK508 := n2_
                        have HB := n3_
                        clear n0_ n1_ n2_ n3_
                        have n0_ := Aside0.mk (Kd.R_drew HO506.out)
                        have n1_ := Aside0.mk (blk_drew BK503.out)
                        have n2_ := Aside0.mk (blk_drew BK508.out)
                        have n3_ := Aside0.mk (below_drew1 HB.out)
                        clear HO506
                        clear BK503
                        clear BK508
                        clear HB
                        have HO506 := n0_
                        have BK503 := n1_
                        have BK508 := n2_
                        have HB := n3_
                        clear n0_ n1_ n2_ n3_
                        have p513 : 0 ≤ (4 : Int) := (by omega)
                        have q513 : 4 < (t504.length : Int) := of_decide_eq_true (by first | (with_reducible assumption) | assumption)
                        obtain ⟨ad513, e513, hx513_0⟩ := Kd.at_int (Kd.R_reads' HO506.out).2.2 4 p513 q513
                        obtain rfl : ad507 = ad513 := (by injection e513)
                        (try simp only [show (4 : Int).toNat = 4 from rfl, Nat.reduceMul, Nat.reduceEqDiff, Go.Addr.add, ↓reduceIte] at hx513_0)
                        have qi513 : (4 < t504.length) = True := eq_true (by omega)
                        (try rw [show ((4 : Int)).toNat = 4 from rfl] at hx513_0)
                        replace p513 := eq_true p513
                        replace q513 := eq_true q513
                        have p514 : 0 ≤ (5 : Int) := (by omega)
                        have q514 : 5 < (t504.length : Int) := of_decide_eq_true (by first | (with_reducible assumption) | assumption)
                        obtain ⟨ad514, e514, hx514_0⟩ := Kd.at_int (Kd.R_reads' HO506.out).2.2 5 p514 q514
                        obtain rfl : ad507 = ad514 := (by injection e514)
                        (try simp only [show (5 : Int).toNat = 5 from rfl, Nat.reduceMul, Nat.reduceEqDiff, Go.Addr.add, ↓reduceIte] at hx514_0)
                        have qi514 : (5 < t504.length) = True := eq_true (by omega)
                        (try rw [show ((5 : Int)).toNat = 5 from rfl] at hx514_0)
                        replace p514 := eq_true p514
                        replace q514 := eq_true q514
                        have p515 : 0 ≤ (6 : Int) := (by omega)
                        have q515 : 6 < (t504.length : Int) := of_decide_eq_true (by first | (with_reducible assumption) | assumption)
                        obtain ⟨ad515, e515, hx515_0⟩ := Kd.at_int (Kd.R_reads' HO506.out).2.2 6 p515 q515
                        obtain rfl : ad507 = ad515 := (by injection e515)
                        (try simp only [show (6 : Int).toNat = 6 from rfl, Nat.reduceMul, Nat.reduceEqDiff, Go.Addr.add, ↓reduceIte] at hx515_0)
                        have qi515 : (6 < t504.length) = True := eq_true (by omega)
                        (try rw [show ((6 : Int)).toNat = 6 from rfl] at hx515_0)
                        replace p515 := eq_true p515
                        replace q515 := eq_true q515
                        have p516 : 0 ≤ (7 : Int) := (by omega)
                        have q516 : 7 < (t504.length : Int) := of_decide_eq_true (by first | (with_reducible assumption) | assumption)
                        obtain ⟨ad516, e516, hx516_0⟩ := Kd.at_int (Kd.R_reads' HO506.out).2.2 7 p516 q516
                        obtain rfl : ad507 = ad516 := (by injection e516)
                        (try simp only [show (7 : Int).toNat = 7 from rfl, Nat.reduceMul, Nat.reduceEqDiff, Go.Addr.add, ↓reduceIte] at hx516_0)
                        have qi516 : (7 < t504.length) = True := eq_true (by omega)
                        (try rw [show ((7 : Int)).toNat = 7 from rfl] at hx516_0)
                        replace p516 := eq_true p516
                        replace q516 := eq_true q516
                        refine start_ (n := 15) (S := fun w' => w'.cell? ⟨ad507.block, ad507.off + 4, none⟩ = some (.int .i64 (rd t504 4)) ∧ w'.cell? ⟨ad507.block, ad507.off + 5, none⟩ = some (.int .i64 (rd t504 5)) ∧ w'.cell? ⟨ad507.block, ad507.off + 6, none⟩ = some (.int .i64 (rd t504 6)) ∧ w'.cell? ⟨ad507.block, ad507.off + 7, none⟩ = some (.int .i64 (rd t504 7))) (ds := []) #[false, false, false, false, false, false, false, false, false, false, false, false, false, false, false] (by kernel_rfl) rfl rfl ⟨hx513_0, hx514_0, hx515_0, hx516_0⟩ (fun hHeld => ?_); refine with_tabW spec_ReadMachine.tab6 spec_ReadMachine.bits6 (fun HT_ HW_ => ?_)
                        generalize w72.drew = w73 at HO506 BK503 BK508 HB hx513_0 hx514_0 hx515_0 hx516_0 hHeld ⊢
                        refine pure_ (i := 0) (N := some 30) (v := ?_) (a' := ?_) #[true, false, false, false, false, false, false, false, false, false, false, false, false, false, false] rfl rfl (any_of HT_.out (by kernel_rfl)) (fun _ _ _ h => h) (Or.inl ⟨by rfl, ?_⟩) ?_ ?_
                        rotate_left
                        · intro w'
                          go_simp
                          with_reducible rfl
                        rotate_left
                        · simp only [Act.put, List.setIfInBounds_toArray, List.set_cons_zero, List.set_cons_succ, i64_w, i32_w]
                          rfl
                        refine pure_ (i := 1) (N := some 31) (v := ?_) (a' := ?_) #[true, true, false, false, false, false, false, false, false, false, false, false, false, false, false] rfl rfl (any_of HT_.out (by kernel_rfl)) (fun _ _ _ h => h) (Or.inl ⟨by rfl, ?_⟩) ?_ ?_
                        rotate_left
                        · intro w'
                          go_simp
                          with_reducible rfl
                        rotate_left
                        · simp only [Act.put, List.setIfInBounds_toArray, List.set_cons_zero, List.set_cons_succ, i64_w, i32_w]
                          rfl
                        refine pure_ (i := 3) (N := some 33) (v := ?_) (a' := ?_) #[true, true, false, true, false, false, false, false, false, false, false, false, false, false, false] rfl rfl (any_of HT_.out (by kernel_rfl)) (fun _ _ _ h => h) (Or.inl ⟨by rfl, ?_⟩) ?_ ?_
                        rotate_left
                        · intro w'
                          go_simp
                          with_reducible rfl
                        rotate_left
                        · simp only [Act.put, List.setIfInBounds_toArray, List.set_cons_zero, List.set_cons_succ, i64_w, i32_w]
                          rfl
                        refine pure_ (i := 4) (N := some 34) (v := ?_) (a' := ?_) #[true, true, false, true, true, false, false, false, false, false, false, false, false, false, false] rfl rfl (any_of HT_.out (by kernel_rfl)) (fun _ _ _ h => h) (Or.inl ⟨by rfl, ?_⟩) ?_ ?_
                        rotate_left
                        · intro w'
                          go_simp
                          with_reducible rfl
                        rotate_left
                        · simp only [Act.put, List.setIfInBounds_toArray, List.set_cons_zero, List.set_cons_succ, i64_w, i32_w]
                          rfl
                        refine pure_ (i := 6) (N := some 36) (v := ?_) (a' := ?_) #[true, true, false, true, true, false, true, false, false, false, false, false, false, false, false] rfl rfl (any_of HT_.out (by kernel_rfl)) (fun _ _ _ h => h) (Or.inl ⟨by rfl, ?_⟩) ?_ ?_
                        rotate_left
                        · intro w'
                          go_simp
                          with_reducible rfl
                        rotate_left
                        · simp only [Act.put, List.setIfInBounds_toArray, List.set_cons_zero, List.set_cons_succ, i64_w, i32_w]
                          rfl
                        refine pure_ (i := 7) (N := some 37) (v := ?_) (a' := ?_) #[true, true, false, true, true, false, true, true, false, false, false, false, false, false, false] rfl rfl (any_of HT_.out (by kernel_rfl)) (fun _ _ _ h => h) (Or.inl ⟨by rfl, ?_⟩) ?_ ?_
                        rotate_left
                        · intro w'
                          go_simp
                          with_reducible rfl
                        rotate_left
                        · simp only [Act.put, List.setIfInBounds_toArray, List.set_cons_zero, List.set_cons_succ, i64_w, i32_w]
                          rfl
                        refine pure_ (i := 9) (N := some 39) (v := ?_) (a' := ?_) #[true, true, false, true, true, false, true, true, false, true, false, false, false, false, false] rfl rfl (any_of HT_.out (by kernel_rfl)) (fun _ _ _ h => h) (Or.inl ⟨by rfl, ?_⟩) ?_ ?_
                        rotate_left
                        · intro w'
                          go_simp
                          with_reducible rfl
                        rotate_left
                        · simp only [Act.put, List.setIfInBounds_toArray, List.set_cons_zero, List.set_cons_succ, i64_w, i32_w]
                          rfl
                        refine pure_ (i := 10) (N := some 40) (v := ?_) (a' := ?_) #[true, true, false, true, true, false, true, true, false, true, true, false, false, false, false] rfl rfl (any_of HT_.out (by kernel_rfl)) (fun _ _ _ h => h) (Or.inl ⟨by rfl, ?_⟩) ?_ ?_
                        rotate_left
                        · intro w'
                          go_simp
                          with_reducible rfl
                        rotate_left
                        · simp only [Act.put, List.setIfInBounds_toArray, List.set_cons_zero, List.set_cons_succ, i64_w, i32_w]
                          rfl
                        refine take_ (i := 2) (N := some 32) (v := ?_) (a' := ?_) #[true, true, true, true, true, false, true, true, false, true, true, false, false, false, false] rfl rfl (take_ofW HT_.out HW_.out (by kernel_rfl)) (fun _ _ _ h => h) (Or.inl ⟨by rfl, ?_⟩) hHeld ?_ ?_
                        rotate_left
                        · rintro w' ⟨s0, s1, s2, s3⟩
                          go_simp
                          with_reducible rfl
                        rotate_left
                        · simp only [Act.put, List.setIfInBounds_toArray, List.set_cons_zero, List.set_cons_succ, i64_w, i32_w]
                          rfl
                        refine take_ (i := 5) (N := some 35) (v := ?_) (a' := ?_) #[true, true, true, true, true, true, true, true, false, true, true, false, false, false, false] rfl rfl (take_ofW HT_.out HW_.out (by kernel_rfl)) (fun _ _ _ h => h) (Or.inl ⟨by rfl, ?_⟩) hHeld ?_ ?_
                        rotate_left
                        · rintro w' ⟨s0, s1, s2, s3⟩
                          go_simp
                          with_reducible rfl
                        rotate_left
                        · simp only [Act.put, List.setIfInBounds_toArray, List.set_cons_zero, List.set_cons_succ, i64_w, i32_w]
                          rfl
                        refine take_ (i := 8) (N := some 38) (v := ?_) (a' := ?_) #[true, true, true, true, true, true, true, true, true, true, true, false, false, false, false] rfl rfl (take_ofW HT_.out HW_.out (by kernel_rfl)) (fun _ _ _ h => h) (Or.inl ⟨by rfl, ?_⟩) hHeld ?_ ?_
                        rotate_left
                        · rintro w' ⟨s0, s1, s2, s3⟩
                          go_simp
                          with_reducible rfl
                        rotate_left
                        · simp only [Act.put, List.setIfInBounds_toArray, List.set_cons_zero, List.set_cons_succ, i64_w, i32_w]
                          rfl
                        refine take_ (i := 11) (N := some 41) (v := ?_) (a' := ?_) #[true, true, true, true, true, true, true, true, true, true, true, true, false, false, false] rfl rfl (take_ofW HT_.out HW_.out (by kernel_rfl)) (fun _ _ _ h => h) (Or.inl ⟨by rfl, ?_⟩) hHeld ?_ ?_
                        rotate_left
                        · rintro w' ⟨s0, s1, s2, s3⟩
                          go_simp
                          with_reducible rfl
                        rotate_left
                        · simp only [Act.put, List.setIfInBounds_toArray, List.set_cons_zero, List.set_cons_succ, i64_w, i32_w]
                          rfl
                        refine pure_ (i := 12) (N := some 42) (v := ?_) (a' := ?_) #[true, true, true, true, true, true, true, true, true, true, true, true, true, false, false] rfl rfl (any_of HT_.out (by kernel_rfl)) (fun _ _ _ h => h) (Or.inl ⟨by rfl, ?_⟩) ?_ ?_
                        rotate_left
                        · intro w'
                          go_simp
                          with_reducible rfl
                        rotate_left
                        · simp only [Act.put, List.setIfInBounds_toArray, List.set_cons_zero, List.set_cons_succ, i64_w, i32_w]
                          rfl
                        refine pure_ (i := 13) (N := some 43) (v := ?_) (a' := ?_) #[true, true, true, true, true, true, true, true, true, true, true, true, true, true, false] rfl rfl (any_of HT_.out (by kernel_rfl)) (fun _ _ _ h => h) (Or.inl ⟨by rfl, ?_⟩) ?_ ?_
                        rotate_left
                        · intro w'
                          go_simp
                          with_reducible rfl
                        rotate_left
                        · simp only [Act.put, List.setIfInBounds_toArray, List.set_cons_zero, List.set_cons_succ, i64_w, i32_w]
                          rfl
                        refine one_ (i := 14) (N := none) #[true, true, true, true, true, true, true, true, true, true, true, true, true, true, true] rfl rfl (one_of HT_.out (by kernel_rfl)) (by decide) (fun K hK => ?_)
                        have hs74 : w73.cell? ⟨gb508, 4, none⟩ = some (.int .i64 0) := (blk_cell BK508.out 4).trans rfl
                        have hfs74 := blk_frozen BK508.out 4
                        have hns74_0 := NB503_508.out
                        have hms74_0 := NB508_503.out
                        have hs75 : w73.cell? ⟨gb508, 5, none⟩ = some (.int .i64 0) := (blk_cell BK508.out 5).trans rfl
                        have hfs75 := blk_frozen BK508.out 5
                        have hns75_0 := NB503_508.out
                        have hms75_0 := NB508_503.out
                        have hs76 : w73.cell? ⟨gb508, 6, none⟩ = some (.int .i64 0) := (blk_cell BK508.out 6).trans rfl
                        have hfs76 := blk_frozen BK508.out 6
                        have hns76_0 := NB503_508.out
                        have hms76_0 := NB508_503.out
                        have hs77 : w73.cell? ⟨gb508, 7, none⟩ = some (.int .i64 0) := (blk_cell BK508.out 7).trans rfl
                        have hfs77 := blk_frozen BK508.out 7
                        have hns77_0 := NB503_508.out
                        have hms77_0 := NB508_503.out
                        refine skip_ (w1 := ?_) (by rfl) rfl ?_ ?_
                        rotate_left
                        · go_simp
                          rfl
                        refine hK.out _ _ ⟨((cell_far (p := ⟨gb508, _, none⟩) (by first | (dsimp only; exact Kd.own_blk (Kd.R_ne HO506.out BK508.out (by decide))) | exact Kd.own_blk (Kd.R_ne HO506.out BK508.out (by decide)) | (rw [add_block]; exact Kd.own_blk (Kd.R_ne HO506.out BK508.out (by decide))) | (show (Addr.add _ _).block ≠ _; rw [add_block]; exact Kd.own_blk (Kd.R_ne HO506.out BK508.out (by decide)))) _).trans (((cell_far (p := ⟨gb508, _, none⟩) (by first | (dsimp only; exact Kd.own_blk (Kd.R_ne HO506.out BK508.out (by decide))) | exact Kd.own_blk (Kd.R_ne HO506.out BK508.out (by decide)) | (rw [add_block]; exact Kd.own_blk (Kd.R_ne HO506.out BK508.out (by decide))) | (show (Addr.add _ _).block ≠ _; rw [add_block]; exact Kd.own_blk (Kd.R_ne HO506.out BK508.out (by decide)))) _).trans (((cell_far (p := ⟨gb508, _, none⟩) (by first | (dsimp only; exact Kd.own_blk (Kd.R_ne HO506.out BK508.out (by decide))) | exact Kd.own_blk (Kd.R_ne HO506.out BK508.out (by decide)) | (rw [add_block]; exact Kd.own_blk (Kd.R_ne HO506.out BK508.out (by decide))) | (show (Addr.add _ _).block ≠ _; rw [add_block]; exact Kd.own_blk (Kd.R_ne HO506.out BK508.out (by decide)))) _).trans (((cell_far (p := ⟨gb508, _, none⟩) (by first | (dsimp only; exact Kd.own_blk (Kd.R_ne HO506.out BK508.out (by decide))) | exact Kd.own_blk (Kd.R_ne HO506.out BK508.out (by decide)) | (rw [add_block]; exact Kd.own_blk (Kd.R_ne HO506.out BK508.out (by decide))) | (show (Addr.add _ _).block ≠ _; rw [add_block]; exact Kd.own_blk (Kd.R_ne HO506.out BK508.out (by decide)))) _).trans (hHeld.1)))))))), ((cell_far (p := ⟨gb508, _, none⟩) (by first | (dsimp only; exact Kd.own_blk (Kd.R_ne HO506.out BK508.out (by decide))) | exact Kd.own_blk (Kd.R_ne HO506.out BK508.out (by decide)) | (rw [add_block]; exact Kd.own_blk (Kd.R_ne HO506.out BK508.out (by decide))) | (show (Addr.add _ _).block ≠ _; rw [add_block]; exact Kd.own_blk (Kd.R_ne HO506.out BK508.out (by decide)))) _).trans (((cell_far (p := ⟨gb508, _, none⟩) (by first | (dsimp only; exact Kd.own_blk (Kd.R_ne HO506.out BK508.out (by decide))) | exact Kd.own_blk (Kd.R_ne HO506.out BK508.out (by decide)) | (rw [add_block]; exact Kd.own_blk (Kd.R_ne HO506.out BK508.out (by decide))) | (show (Addr.add _ _).block ≠ _; rw [add_block]; exact Kd.own_blk (Kd.R_ne HO506.out BK508.out (by decide)))) _).trans (((cell_far (p := ⟨gb508, _, none⟩) (by first | (dsimp only; exact Kd.own_blk (Kd.R_ne HO506.out BK508.out (by decide))) | exact Kd.own_blk (Kd.R_ne HO506.out BK508.out (by decide)) | (rw [add_block]; exact Kd.own_blk (Kd.R_ne HO506.out BK508.out (by decide))) | (show (Addr.add _ _).block ≠ _; rw [add_block]; exact Kd.own_blk (Kd.R_ne HO506.out BK508.out (by decide)))) _).trans (((cell_far (p := ⟨gb508, _, none⟩) (by first | (dsimp only; exact Kd.own_blk (Kd.R_ne HO506.out BK508.out (by decide))) | exact Kd.own_blk (Kd.R_ne HO506.out BK508.out (by decide)) | (rw [add_block]; exact Kd.own_blk (Kd.R_ne HO506.out BK508.out (by decide))) | (show (Addr.add _ _).block ≠ _; rw [add_block]; exact Kd.own_blk (Kd.R_ne HO506.out BK508.out (by decide)))) _).trans (hHeld.2.1)))))))), ((cell_far (p := ⟨gb508, _, none⟩) (by first | (dsimp only; exact Kd.own_blk (Kd.R_ne HO506.out BK508.out (by decide))) | exact Kd.own_blk (Kd.R_ne HO506.out BK508.out (by decide)) | (rw [add_block]; exact Kd.own_blk (Kd.R_ne HO506.out BK508.out (by decide))) | (show (Addr.add _ _).block ≠ _; rw [add_block]; exact Kd.own_blk (Kd.R_ne HO506.out BK508.out (by decide)))) _).trans (((cell_far (p := ⟨gb508, _, none⟩) (by first | (dsimp only; exact Kd.own_blk (Kd.R_ne HO506.out BK508.out (by decide))) | exact Kd.own_blk (Kd.R_ne HO506.out BK508.out (by decide)) | (rw [add_block]; exact Kd.own_blk (Kd.R_ne HO506.out BK508.out (by decide))) | (show (Addr.add _ _).block ≠ _; rw [add_block]; exact Kd.own_blk (Kd.R_ne HO506.out BK508.out (by decide)))) _).trans (((cell_far (p := ⟨gb508, _, none⟩) (by first | (dsimp only; exact Kd.own_blk (Kd.R_ne HO506.out BK508.out (by decide))) | exact Kd.own_blk (Kd.R_ne HO506.out BK508.out (by decide)) | (rw [add_block]; exact Kd.own_blk (Kd.R_ne HO506.out BK508.out (by decide))) | (show (Addr.add _ _).block ≠ _; rw [add_block]; exact Kd.own_blk (Kd.R_ne HO506.out BK508.out (by decide)))) _).trans (((cell_far (p := ⟨gb508, _, none⟩) (by first | (dsimp only; exact Kd.own_blk (Kd.R_ne HO506.out BK508.out (by decide))) | exact Kd.own_blk (Kd.R_ne HO506.out BK508.out (by decide)) | (rw [add_block]; exact Kd.own_blk (Kd.R_ne HO506.out BK508.out (by decide))) | (show (Addr.add _ _).block ≠ _; rw [add_block]; exact Kd.own_blk (Kd.R_ne HO506.out BK508.out (by decide)))) _).trans (hHeld.2.2.1)))))))), ((cell_far (p := ⟨gb508, _, none⟩) (by first | (dsimp only; exact Kd.own_blk (Kd.R_ne HO506.out BK508.out (by decide))) | exact Kd.own_blk (Kd.R_ne HO506.out BK508.out (by decide)) | (rw [add_block]; exact Kd.own_blk (Kd.R_ne HO506.out BK508.out (by decide))) | (show (Addr.add _ _).block ≠ _; rw [add_block]; exact Kd.own_blk (Kd.R_ne HO506.out BK508.out (by decide)))) _).trans (((cell_far (p := ⟨gb508, _, none⟩) (by first | (dsimp only; exact Kd.own_blk (Kd.R_ne HO506.out BK508.out (by decide))) | exact Kd.own_blk (Kd.R_ne HO506.out BK508.out (by decide)) | (rw [add_block]; exact Kd.own_blk (Kd.R_ne HO506.out BK508.out (by decide))) | (show (Addr.add _ _).block ≠ _; rw [add_block]; exact Kd.own_blk (Kd.R_ne HO506.out BK508.out (by decide)))) _).trans (((cell_far (p := ⟨gb508, _, none⟩) (by first | (dsimp only; exact Kd.own_blk (Kd.R_ne HO506.out BK508.out (by decide))) | exact Kd.own_blk (Kd.R_ne HO506.out BK508.out (by decide)) | (rw [add_block]; exact Kd.own_blk (Kd.R_ne HO506.out BK508.out (by decide))) | (show (Addr.add _ _).block ≠ _; rw [add_block]; exact Kd.own_blk (Kd.R_ne HO506.out BK508.out (by decide)))) _).trans (((cell_far (p := ⟨gb508, _, none⟩) (by first | (dsimp only; exact Kd.own_blk (Kd.R_ne HO506.out BK508.out (by decide))) | exact Kd.own_blk (Kd.R_ne HO506.out BK508.out (by decide)) | (rw [add_block]; exact Kd.own_blk (Kd.R_ne HO506.out BK508.out (by decide))) | (show (Addr.add _ _).block ≠ _; rw [add_block]; exact Kd.own_blk (Kd.R_ne HO506.out BK508.out (by decide)))) _).trans (hHeld.2.2.2))))))))⟩ (fun hHeld => ?_)
                        clear hK K
                        refine done_ (done_of HT_.out (by kernel_rfl)) ?_
                        try go_wp2_with (first | ((with_reducible refine gate_callee (f := 44) rfl ?_); refine goesL_ (some 44) rfl rfl Tryd.func44 (by kernel_rfl) rfl #[.pointer (some ⟨gb508, 0, none⟩)] rfl (by (try simp only [List.map_toArray, List.map_cons, List.map_nil]); first | done | rfl | (simp only [List.length_drop, List.length_take]; rfl)) ?_; (with_reducible refine (spec_l04Is.calls k gb508 (rd t504 0) (rd t504 1) (rd t504 2) (rd t504 3) (rd t504 4) (rd t504 5) (rd t504 6) (rd t504 7) (rd t504 8) false _ ?side1 A13.out).mono ?_); (case side1 => (with_reducible repeat (first | refine blk_drewN ?_ _ | refine blk_drew ?_ | refine blk_alloc ?_ _)); refine blk_put (cs := #[.int .i64 (rd t504 0), .int .i64 (rd t504 1), .int .i64 (rd t504 2), .int .i64 (rd t504 3), .int .i64 (rd t504 4), .int .i64 (rd t504 5), .int .i64 (rd t504 6), .int .i64 0, .int .i64 (rd t504 8)]) ?_ 7 _ rfl; (with_reducible repeat (first | refine blk_drewN ?_ _ | refine blk_drew ?_ | refine blk_alloc ?_ _)); refine blk_put (cs := #[.int .i64 (rd t504 0), .int .i64 (rd t504 1), .int .i64 (rd t504 2), .int .i64 (rd t504 3), .int .i64 (rd t504 4), .int .i64 (rd t504 5), .int .i64 0, .int .i64 0, .int .i64 (rd t504 8)]) ?_ 6 _ rfl; (with_reducible repeat (first | refine blk_drewN ?_ _ | refine blk_drew ?_ | refine blk_alloc ?_ _)); refine blk_put (cs := #[.int .i64 (rd t504 0), .int .i64 (rd t504 1), .int .i64 (rd t504 2), .int .i64 (rd t504 3), .int .i64 (rd t504 4), .int .i64 0, .int .i64 0, .int .i64 0, .int .i64 (rd t504 8)]) ?_ 5 _ rfl; (with_reducible repeat (first | refine blk_drewN ?_ _ | refine blk_drew ?_ | refine blk_alloc ?_ _)); refine blk_put (cs := #[.int .i64 (rd t504 0), .int .i64 (rd t504 1), .int .i64 (rd t504 2), .int .i64 (rd t504 3), .int .i64 0, .int .i64 0, .int .i64 0, .int .i64 0, .int .i64 (rd t504 8)]) ?_ 4 _ rfl; (with_reducible repeat (first | refine blk_drewN ?_ _ | refine blk_drew ?_ | refine blk_alloc ?_ _)); exact BK508.out); rintro e w78 ⟨rfl, hb⟩; refine ⟨_, rfl, ?_⟩; have n0_ := Aside0.mk (Kd.R_below (by (with_reducible repeat (first | apply Kd.R_alloc | apply Kd.R_drewN | apply Kd.R_drew)); exact (Kd.R_mono (Kd.R_far (p := ⟨gb508, 7, none⟩) (Kd.R_far (p := ⟨gb508, 6, none⟩) (Kd.R_far (p := ⟨gb508, 5, none⟩) (Kd.R_far (p := ⟨gb508, 4, none⟩) (Kd.R_types HO506.out BK508.out (by decide)) (fun _ hk => hk.2) (.int .i64 (rd t504 4))) (fun _ hk => hk.2) (.int .i64 (rd t504 5))) (fun _ hk => hk.2) (.int .i64 (rd t504 6))) (fun _ hk => hk.2) (.int .i64 (rd t504 7))) (fun _ h_ => h_.1))) hb); have n1_ := Aside0.mk (blk_below (g := gb503) (o := .cells #[.int .i64 0, .int .i64 0, .int .i64 0, .int .i64 0, .int .i64 0, .int .i64 0, .int .i64 0, .int .i64 0, .int .i64 0] 37 (0, 0)) (by (with_reducible repeat (first | refine blk_drewN ?_ _ | refine blk_drew ?_ | refine blk_alloc ?_ _)); refine blk_far ?_ NB503_508.out _; (with_reducible repeat (first | refine blk_drewN ?_ _ | refine blk_drew ?_ | refine blk_alloc ?_ _)); refine blk_far ?_ NB503_508.out _; (with_reducible repeat (first | refine blk_drewN ?_ _ | refine blk_drew ?_ | refine blk_alloc ?_ _)); refine blk_far ?_ NB503_508.out _; (with_reducible repeat (first | refine blk_drewN ?_ _ | refine blk_drew ?_ | refine blk_alloc ?_ _)); refine blk_far ?_ NB503_508.out _; (with_reducible repeat (first | refine blk_drewN ?_ _ | refine blk_drew ?_ | refine blk_alloc ?_ _)); exact BK503.out) hb); have n2_ := Aside0.mk (blk_below (g := gb508) (o := .cells #[.int .i64 (rd t504 0), .int .i64 (rd t504 1), .int .i64 (rd t504 2), .int .i64 (rd t504 3), .int .i64 (rd t504 4), .int .i64 (rd t504 5), .int .i64 (rd t504 6), .int .i64 (rd t504 7), .int .i64 (rd t504 8)] 37 (0, 0)) (by (with_reducible repeat (first | refine blk_drewN ?_ _ | refine blk_drew ?_ | refine blk_alloc ?_ _)); refine blk_put (cs := #[.int .i64 (rd t504 0), .int .i64 (rd t504 1), .int .i64 (rd t504 2), .int .i64 (rd t504 3), .int .i64 (rd t504 4), .int .i64 (rd t504 5), .int .i64 (rd t504 6), .int .i64 0, .int .i64 (rd t504 8)]) ?_ 7 _ rfl; (with_reducible repeat (first | refine blk_drewN ?_ _ | refine blk_drew ?_ | refine blk_alloc ?_ _)); refine blk_put (cs := #[.int .i64 (rd t504 0), .int .i64 (rd t504 1), .int .i64 (rd t504 2), .int .i64 (rd t504 3), .int .i64 (rd t504 4), .int .i64 (rd t504 5), .int .i64 0, .int .i64 0, .int .i64 (rd t504 8)]) ?_ 6 _ rfl; (with_reducible repeat (first | refine blk_drewN ?_ _ | refine blk_drew ?_ | refine blk_alloc ?_ _)); refine blk_put (cs := #[.int .i64 (rd t504 0), .int .i64 (rd t504 1), .int .i64 (rd t504 2), .int .i64 (rd t504 3), .int .i64 (rd t504 4), .int .i64 0, .int .i64 0, .int .i64 0, .int .i64 (rd t504 8)]) ?_ 5 _ rfl; (with_reducible repeat (first | refine blk_drewN ?_ _ | refine blk_drew ?_ | refine blk_alloc ?_ _)); refine blk_put (cs := #[.int .i64 (rd t504 0), .int .i64 (rd t504 1), .int .i64 (rd t504 2), .int .i64 (rd t504 3), .int .i64 0, .int .i64 0, .int .i64 0, .int .i64 0, .int .i64 (rd t504 8)]) ?_ 4 _ rfl; (with_reducible repeat (first | refine blk_drewN ?_ _ | refine blk_drew ?_ | refine blk_alloc ?_ _)); exact BK508.out) hb); have n3_ := Aside0.mk (below_step (by repeat (first | (with_reducible first | exact HB.out | apply below_alloc | apply pw_below_drewN | apply below_drew1 | refine below_set ?_ GE503.out | refine below_set ?_ GE508.out) | exact HB.out)) hb); clear HO506; clear BK503; clear BK508; clear HB; have HO506 := n0_; have BK503 := n1_; have BK508 := n2_; have HB := n3_; clear n0_ n1_ n2_ n3_; (try clear hb); (try clear hb2); (try clear hk); (try clear hi); have hcz79_0 : w78.cell? ⟨gb503, 0, none⟩ = some (.int .i64 0) := (blk_cell BK503.out 0).trans rfl; have hcz79_1 : w78.cell? ⟨gb503, 1, none⟩ = some (.int .i64 0) := (blk_cell BK503.out 1).trans rfl; have hcz79_2 : w78.cell? ⟨gb503, 2, none⟩ = some (.int .i64 0) := (blk_cell BK503.out 2).trans rfl; have hcz79_3 : w78.cell? ⟨gb503, 3, none⟩ = some (.int .i64 0) := (blk_cell BK503.out 3).trans rfl; have hcz79_4 : w78.cell? ⟨gb503, 4, none⟩ = some (.int .i64 0) := (blk_cell BK503.out 4).trans rfl; have hcz79_5 : w78.cell? ⟨gb503, 5, none⟩ = some (.int .i64 0) := (blk_cell BK503.out 5).trans rfl; have hcz79_6 : w78.cell? ⟨gb503, 6, none⟩ = some (.int .i64 0) := (blk_cell BK503.out 6).trans rfl; have hcz79_7 : w78.cell? ⟨gb503, 7, none⟩ = some (.int .i64 0) := (blk_cell BK503.out 7).trans rfl; have hcz79_8 : w78.cell? ⟨gb503, 8, none⟩ = some (.int .i64 0) := (blk_cell BK503.out 8).trans rfl; have hfz79_0 := blk_frozen BK503.out 0; have hfz79_1 := blk_frozen BK503.out 1; have hfz79_2 := blk_frozen BK503.out 2; have hfz79_3 := blk_frozen BK503.out 3; have hfz79_4 := blk_frozen BK503.out 4; have hfz79_5 := blk_frozen BK503.out 5; have hfz79_6 := blk_frozen BK503.out 6; have hfz79_7 := blk_frozen BK503.out 7; have hfz79_8 := blk_frozen BK503.out 8))
                        refine bodyPost_ret (results_ct rfl _ _ gb503 37 #[.int .i64 0, .int .i64 0, .int .i64 0, .int .i64 0, .int .i64 0, .int .i64 0, .int .i64 0, .int .i64 0, .int .i64 0] (0, 0) _ rfl (by (with_reducible repeat (first | refine blk_drewN ?_ _ | refine blk_drew ?_ | refine blk_alloc ?_ _)); refine blk_put (cs := #[.int .i64 0, .int .i64 0, .int .i64 0, .int .i64 0, .int .i64 0, .int .i64 0, .int .i64 0, .int .i64 0, .int .i64 0]) ?_ 8 _ rfl; (with_reducible repeat (first | refine blk_drewN ?_ _ | refine blk_drew ?_ | refine blk_alloc ?_ _)); refine blk_put (cs := #[.int .i64 0, .int .i64 0, .int .i64 0, .int .i64 0, .int .i64 0, .int .i64 0, .int .i64 0, .int .i64 0, .int .i64 0]) ?_ 7 _ rfl; (with_reducible repeat (first | refine blk_drewN ?_ _ | refine blk_drew ?_ | refine blk_alloc ?_ _)); refine blk_put (cs := #[.int .i64 0, .int .i64 0, .int .i64 0, .int .i64 0, .int .i64 0, .int .i64 0, .int .i64 0, .int .i64 0, .int .i64 0]) ?_ 6 _ rfl; (with_reducible repeat (first | refine blk_drewN ?_ _ | refine blk_drew ?_ | refine blk_alloc ?_ _)); refine blk_put (cs := #[.int .i64 0, .int .i64 0, .int .i64 0, .int .i64 0, .int .i64 0, .int .i64 0, .int .i64 0, .int .i64 0, .int .i64 0]) ?_ 5 _ rfl; (with_reducible repeat (first | refine blk_drewN ?_ _ | refine blk_drew ?_ | refine blk_alloc ?_ _)); refine blk_put (cs := #[.int .i64 0, .int .i64 0, .int .i64 0, .int .i64 0, .int .i64 0, .int .i64 0, .int .i64 0, .int .i64 0, .int .i64 0]) ?_ 4 _ rfl; (with_reducible repeat (first | refine blk_drewN ?_ _ | refine blk_drew ?_ | refine blk_alloc ?_ _)); refine blk_put (cs := #[.int .i64 0, .int .i64 0, .int .i64 0, .int .i64 0, .int .i64 0, .int .i64 0, .int .i64 0, .int .i64 0, .int .i64 0]) ?_ 3 _ rfl; (with_reducible repeat (first | refine blk_drewN ?_ _ | refine blk_drew ?_ | refine blk_alloc ?_ _)); refine blk_put (cs := #[.int .i64 0, .int .i64 0, .int .i64 0, .int .i64 0, .int .i64 0, .int .i64 0, .int .i64 0, .int .i64 0, .int .i64 0]) ?_ 2 _ rfl; (with_reducible repeat (first | refine blk_drewN ?_ _ | refine blk_drew ?_ | refine blk_alloc ?_ _)); refine blk_put (cs := #[.int .i64 0, .int .i64 0, .int .i64 0, .int .i64 0, .int .i64 0, .int .i64 0, .int .i64 0, .int .i64 0, .int .i64 0]) ?_ 1 _ rfl; (with_reducible repeat (first | refine blk_drewN ?_ _ | refine blk_drew ?_ | refine blk_alloc ?_ _)); refine blk_put (cs := #[.int .i64 0, .int .i64 0, .int .i64 0, .int .i64 0, .int .i64 0, .int .i64 0, .int .i64 0, .int .i64 0, .int .i64 0]) ?_ 0 _ rfl; (with_reducible repeat (first | refine blk_drewN ?_ _ | refine blk_drew ?_ | refine blk_alloc ?_ _)); exact BK503.out) Tryd.underlying37 rfl (by kernel_rfl)) rfl ?_
                        exact ⟨by first | rfl | (simp [errW_none, errW_some] <;> rfl) | (simp [*, errW_none, errW_some] <;> rfl), by repeat (first | (with_reducible first | exact HB.out | apply below_alloc | apply pw_below_drewN | apply below_drew1 | refine below_set ?_ GE503.out | refine below_set ?_ GE508.out) | exact HB.out)⟩
                    · rw [if_neg c12] at H
                      exact absurd H (by simp)
                  · rw [if_neg c11] at H
                    exact absurd H (by simp)
                · rw [if_neg c10] at H
                  exact absurd H (by simp)
              · rw [if_neg c9] at H
                exact absurd H (by simp)
            · rw [if_neg c8] at H
              exact absurd H (by simp)
          · rw [if_neg c7] at H
            exact absurd H (by simp)
        · rw [if_neg c6] at H
          exact absurd H (by simp)
      · rw [if_neg c5] at H
        exact absurd H (by simp)
    · rw [if_neg c4] at H
      exact absurd H (by simp)
  · rw [if_neg c3] at H
    have c3b0 : ((t504.length : Int) == 9) = false := beq_eq_false_iff_ne.mpr c3
    have c3b1 : ((t504.length : Int) != 9) = true := bne_iff_ne.mpr c3
    simp only [Option.some.injEq, Prod.mk.injEq] at H
    obtain ⟨rfl, rfl, rfl, rfl, rfl, rfl, rfl, rfl, rfl, rfl⟩ := H
    go_enter Tryd.func31, Tryd.ntmps31
    go_wp2_with (first | ((with_reducible refine gate_dst (N := 2) rfl ?_); refine box_event ?hg (N := 2) ?hd (cs := #[.int .i64 0, .int .i64 0, .int .i64 0, .int .i64 0, .int .i64 0, .int .i64 0, .int .i64 0, .int .i64 0, .int .i64 0]) (t := 37) ?hr ?_; (case hd => rfl); (case hg => rfl); (case hr => first | (go_simp; done) | (go_simp; rfl)); intro gb503 hg w80 hbox hb; have n0_ := Aside0.mk (below_step (by repeat (first | (with_reducible first | exact HB.out | apply below_alloc | apply pw_below_drewN | apply below_drew1) | exact HB.out)) hb); have n1_ := Aside0.mk (hbox); have n2_ := Aside0.mk ((by rw [hg]; exact (below_size (by repeat (first | (with_reducible first | exact HB.out | apply below_alloc | apply pw_below_drewN | apply below_drew1) | exact HB.out))) : w.heap.size ≤ gb503)); have n3_ := Aside0.mk ((by rw [hg]; exact (below_size (by repeat (first | (with_reducible first | exact HB.out | apply below_alloc | apply pw_below_drewN | apply below_drew1) | exact HB.out))) : w.heap.size ≤ gb503)); clear HB; have HB := n0_; have BK503 := n1_; have GW503 := n2_; have GE503 := n3_; clear n0_ n1_ n2_ n3_; clear hb hbox hg) | ((with_reducible refine gate_callee (f := 60) rfl ?_); refine goesL_ (some 7) rfl rfl Tryd.func60 (by kernel_rfl) rfl #[.string a0] rfl (by (try simp only [List.map_toArray, List.map_cons, List.map_nil]); first | done | rfl | (simp only [List.length_drop, List.length_take]; rfl)) ?_; (with_reducible refine (spec_l02Numbers.calls k a0 t504 _ A2.out).mono ?_); rintro e w81 ⟨v505, rfl, ho0, hb⟩; refine ⟨_, rfl, ?_⟩; have n0_ := Aside0.mk (Kd.R_lower ho0 (below_size (by repeat (first | (with_reducible first | exact HB.out | apply below_alloc | apply pw_below_drewN | apply below_drew1 | refine below_set ?_ GE503.out) | exact HB.out)))); have n1_ := Aside0.mk (blk_below (g := gb503) (o := .cells #[.int .i64 0, .int .i64 0, .int .i64 0, .int .i64 0, .int .i64 0, .int .i64 0, .int .i64 0, .int .i64 0, .int .i64 0] 37 (0, 0)) (by (with_reducible repeat (first | refine blk_drewN ?_ _ | refine blk_drew ?_ | refine blk_alloc ?_ _)); exact BK503.out) hb); have n2_ := Aside0.mk (below_step (by repeat (first | (with_reducible first | exact HB.out | apply below_alloc | apply pw_below_drewN | apply below_drew1 | refine below_set ?_ GE503.out) | exact HB.out)) hb); clear BK503; clear HB; have HO506 := n0_; have BK503 := n1_; have HB := n2_; clear n0_ n1_ n2_; (try clear hb); (try clear hb2); (try clear hk); (try clear hi); (try clear ho0); obtain ⟨Ao82, co82, eo82⟩ := Kd.R_slice HO506.out; subst eo82; have hcz83_0 : w81.cell? ⟨gb503, 0, none⟩ = some (.int .i64 0) := (blk_cell BK503.out 0).trans rfl; have hcz83_1 : w81.cell? ⟨gb503, 1, none⟩ = some (.int .i64 0) := (blk_cell BK503.out 1).trans rfl; have hcz83_2 : w81.cell? ⟨gb503, 2, none⟩ = some (.int .i64 0) := (blk_cell BK503.out 2).trans rfl; have hcz83_3 : w81.cell? ⟨gb503, 3, none⟩ = some (.int .i64 0) := (blk_cell BK503.out 3).trans rfl; have hcz83_4 : w81.cell? ⟨gb503, 4, none⟩ = some (.int .i64 0) := (blk_cell BK503.out 4).trans rfl; have hcz83_5 : w81.cell? ⟨gb503, 5, none⟩ = some (.int .i64 0) := (blk_cell BK503.out 5).trans rfl; have hcz83_6 : w81.cell? ⟨gb503, 6, none⟩ = some (.int .i64 0) := (blk_cell BK503.out 6).trans rfl; have hcz83_7 : w81.cell? ⟨gb503, 7, none⟩ = some (.int .i64 0) := (blk_cell BK503.out 7).trans rfl; have hcz83_8 : w81.cell? ⟨gb503, 8, none⟩ = some (.int .i64 0) := (blk_cell BK503.out 8).trans rfl; have hfz83_0 := blk_frozen BK503.out 0; have hfz83_1 := blk_frozen BK503.out 1; have hfz83_2 := blk_frozen BK503.out 2; have hfz83_3 := blk_frozen BK503.out 3; have hfz83_4 := blk_frozen BK503.out 4; have hfz83_5 := blk_frozen BK503.out 5; have hfz83_6 := blk_frozen BK503.out 6; have hfz83_7 := blk_frozen BK503.out 7; have hfz83_8 := blk_frozen BK503.out 8))
    refine bodyPost_ret (results_ct rfl _ _ gb503 37 #[.int .i64 0, .int .i64 0, .int .i64 0, .int .i64 0, .int .i64 0, .int .i64 0, .int .i64 0, .int .i64 0, .int .i64 0] (0, 0) _ rfl (by (with_reducible repeat (first | refine blk_drewN ?_ _ | refine blk_drew ?_ | refine blk_alloc ?_ _)); refine blk_put (cs := #[.int .i64 0, .int .i64 0, .int .i64 0, .int .i64 0, .int .i64 0, .int .i64 0, .int .i64 0, .int .i64 0, .int .i64 0]) ?_ 8 _ rfl; (with_reducible repeat (first | refine blk_drewN ?_ _ | refine blk_drew ?_ | refine blk_alloc ?_ _)); refine blk_put (cs := #[.int .i64 0, .int .i64 0, .int .i64 0, .int .i64 0, .int .i64 0, .int .i64 0, .int .i64 0, .int .i64 0, .int .i64 0]) ?_ 7 _ rfl; (with_reducible repeat (first | refine blk_drewN ?_ _ | refine blk_drew ?_ | refine blk_alloc ?_ _)); refine blk_put (cs := #[.int .i64 0, .int .i64 0, .int .i64 0, .int .i64 0, .int .i64 0, .int .i64 0, .int .i64 0, .int .i64 0, .int .i64 0]) ?_ 6 _ rfl; (with_reducible repeat (first | refine blk_drewN ?_ _ | refine blk_drew ?_ | refine blk_alloc ?_ _)); refine blk_put (cs := #[.int .i64 0, .int .i64 0, .int .i64 0, .int .i64 0, .int .i64 0, .int .i64 0, .int .i64 0, .int .i64 0, .int .i64 0]) ?_ 5 _ rfl; (with_reducible repeat (first | refine blk_drewN ?_ _ | refine blk_drew ?_ | refine blk_alloc ?_ _)); refine blk_put (cs := #[.int .i64 0, .int .i64 0, .int .i64 0, .int .i64 0, .int .i64 0, .int .i64 0, .int .i64 0, .int .i64 0, .int .i64 0]) ?_ 4 _ rfl; (with_reducible repeat (first | refine blk_drewN ?_ _ | refine blk_drew ?_ | refine blk_alloc ?_ _)); refine blk_put (cs := #[.int .i64 0, .int .i64 0, .int .i64 0, .int .i64 0, .int .i64 0, .int .i64 0, .int .i64 0, .int .i64 0, .int .i64 0]) ?_ 3 _ rfl; (with_reducible repeat (first | refine blk_drewN ?_ _ | refine blk_drew ?_ | refine blk_alloc ?_ _)); refine blk_put (cs := #[.int .i64 0, .int .i64 0, .int .i64 0, .int .i64 0, .int .i64 0, .int .i64 0, .int .i64 0, .int .i64 0, .int .i64 0]) ?_ 2 _ rfl; (with_reducible repeat (first | refine blk_drewN ?_ _ | refine blk_drew ?_ | refine blk_alloc ?_ _)); refine blk_put (cs := #[.int .i64 0, .int .i64 0, .int .i64 0, .int .i64 0, .int .i64 0, .int .i64 0, .int .i64 0, .int .i64 0, .int .i64 0]) ?_ 1 _ rfl; (with_reducible repeat (first | refine blk_drewN ?_ _ | refine blk_drew ?_ | refine blk_alloc ?_ _)); refine blk_put (cs := #[.int .i64 0, .int .i64 0, .int .i64 0, .int .i64 0, .int .i64 0, .int .i64 0, .int .i64 0, .int .i64 0, .int .i64 0]) ?_ 0 _ rfl; (with_reducible repeat (first | refine blk_drewN ?_ _ | refine blk_drew ?_ | refine blk_alloc ?_ _)); exact BK503.out) Tryd.underlying37 rfl (by kernel_rfl)) rfl ?_
    exact ⟨by first | rfl | (simp [errW_none, errW_some] <;> rfl) | (simp [*, errW_none, errW_some] <;> rfl), by repeat (first | (with_reducible first | exact HB.out | apply below_alloc | apply pw_below_drewN | apply below_drew1 | refine below_set ?_ GE503.out) | exact HB.out)⟩

/-! ### impl_readPose: function 62 -/
def impl_readPose.f (k : Nat) (a0 : ByteArray) : Option (Int × Int × Int × Int × Bool) := (impl_readAll.f k a0 (⟨#[44]⟩ : ByteArray) (-1000000000) 1000000000).bind fun bt520 => (if bt520.2 = true then (if (bt520.1.length : Int) = 4 then (if 0 < (bt520.1.length : Int) then (if 1 < (bt520.1.length : Int) then (if 2 < (bt520.1.length : Int) then (if 3 < (bt520.1.length : Int) then (some (rd bt520.1 0, rd bt520.1 1, rd bt520.1 2, rd bt520.1 3, true)) else (none)) else (none)) else (none)) else (none)) else (some (0, 0, 0, 0, false))) else (some (0, 0, 0, 0, false)))
theorem impl_readPose.mono : ∀ a0 k, LeO (impl_readPose.f k a0) (impl_readPose.f (k + 1) a0) := by
  intro a0 k
  unfold impl_readPose.f
  repeat' first
      | (with_reducible exact impl_readAll.mono _ _ _ _ _)
      | (with_reducible exact LeO.refl _)
      | (with_reducible exact LeO.none _)
      | (with_reducible refine LeO.ite ?_ ?_)
      | (with_reducible refine LeO.bind ?_ (fun _ => ?_))
      | exact impl_readAll.mono _ _ _ _ _
      | exact LeO.none _
      | refine LeO.ite ?_ ?_
      | refine LeO.bind ?_ (fun _ => ?_)
def impl_readPose.T4 : Bool × List (List Nat × List Nat) := (true, [([], []), ([0], [0]), ([1], [1]), ([], []), ([3], [3]), ([4], [4]), ([], []), ([6], [6]), ([7], [7]), ([], []), ([9], [9]), ([10], [10]), ([2, 5, 8, 11], [2, 5, 8, 11]), ([12, 0, 1, 2, 3, 4, 5, 6, 7, 8, 9, 10, 11, 12], [12]), ([13, 0, 1, 2, 3, 4, 5, 6, 7, 8, 9, 10, 11, 12, 13], [])])
def impl_readPose.B4 : List Nat := [0, 1, 3, 0, 8, 24, 0, 64, 192, 0, 512, 1536, 4095, 8191, 16383]
theorem impl_readPose.tab4 : rtab .any (opsOf Tryd.f62 4) = impl_readPose.T4 := by kernel_rfl
theorem impl_readPose.bits4 : waitsOk impl_readPose.T4.2 impl_readPose.B4 = true := by kernel_rfl
set_option maxHeartbeats 8000000 in
set_option maxRecDepth 100000 in
theorem impl_readPose.calls (k : Nat) (a0 : ByteArray) (r1 : Int) (r2 : Int) (r3 : Int) (r4 : Int) (r5 : Bool) (w : World) (hLE : LibE w) (hLS : LibS w) (hLT : LibT w) (h : impl_readPose.f k a0 = some (r1, r2, r3, r4, r5)) :
    Calls Tryd.prog 62 #[.string a0] w fun e w' => e = .returned (.tuple #[.agg #[.int .i64 r1, .int .i64 r2, .int .i64 r3, .int .i64 r4], .bool r5]) ∧ Below w.heap.size w w' := by
  have hu35 := Tryd.underlying35
  have HLE := Aside0.mk hLE
  clear hLE
  have HLS := Aside0.mk hLS
  clear hLS
  have HLT := Aside0.mk hLT
  clear hLT
  have HB := Aside0.mk (Below.refl w.heap.size w)
  have H : ((impl_readAll.f k a0 (⟨#[44]⟩ : ByteArray) (-1000000000) 1000000000).bind fun bt520 => (if bt520.2 = true then (if (bt520.1.length : Int) = 4 then (if 0 < (bt520.1.length : Int) then (if 1 < (bt520.1.length : Int) then (if 2 < (bt520.1.length : Int) then (if 3 < (bt520.1.length : Int) then (some (rd bt520.1 0, rd bt520.1 1, rd bt520.1 2, rd bt520.1 3, true)) else (none)) else (none)) else (none)) else (none)) else (some (0, 0, 0, 0, false))) else (some (0, 0, 0, 0, false)))) = some (r1, r2, r3, r4, r5) := h
  clear h
  replace H := Option.bind_eq_some_iff.mp H
  obtain ⟨⟨t520, t521⟩, A20, H⟩ := H
  replace H : (if t521 = true then (if (t520.length : Int) = 4 then (if 0 < (t520.length : Int) then (if 1 < (t520.length : Int) then (if 2 < (t520.length : Int) then (if 3 < (t520.length : Int) then (some (rd t520 0, rd t520 1, rd t520 2, rd t520 3, true)) else (none)) else (none)) else (none)) else (none)) else (some (0, 0, 0, 0, false))) else (some (0, 0, 0, 0, false))) = some (r1, r2, r3, r4, r5) := H
  have A2 := Aside0.mk A20
  clear A20
  by_cases c3 : t521 = true
  · subst c3
    have H1 : (if (t520.length : Int) = 4 then (if 0 < (t520.length : Int) then (if 1 < (t520.length : Int) then (if 2 < (t520.length : Int) then (if 3 < (t520.length : Int) then (some (rd t520 0, rd t520 1, rd t520 2, rd t520 3, true)) else (none)) else (none)) else (none)) else (none)) else (some (0, 0, 0, 0, false))) = some (r1, r2, r3, r4, r5) := by rw [if_pos rfl] at H; exact H
    clear H
    have H := H1
    clear H1
    by_cases c4 : (t520.length : Int) = 4
    · rw [if_pos c4] at H
      have c4b0 : ((t520.length : Int) == 4) = true := beq_iff_eq.mpr c4
      have c4b1 : ((t520.length : Int) != 4) = false := bne_eq_false_iff_eq.mpr c4
      clear c4
      by_cases c5 : 0 < (t520.length : Int)
      · rw [if_pos c5] at H
        have c5b0 : decide (0 < (t520.length : Int)) = true := decide_eq_true c5
        have c5b1 : decide (0 < t520.length) = true := decide_eq_true (by omega)
        clear c5
        by_cases c6 : 1 < (t520.length : Int)
        · rw [if_pos c6] at H
          have c6b0 : decide (1 < (t520.length : Int)) = true := decide_eq_true c6
          have c6b1 : decide (1 < t520.length) = true := decide_eq_true (by omega)
          clear c6
          by_cases c7 : 2 < (t520.length : Int)
          · rw [if_pos c7] at H
            have c7b0 : decide (2 < (t520.length : Int)) = true := decide_eq_true c7
            have c7b1 : decide (2 < t520.length) = true := decide_eq_true (by omega)
            clear c7
            by_cases c8 : 3 < (t520.length : Int)
            · rw [if_pos c8] at H
              have c8b0 : decide (3 < (t520.length : Int)) = true := decide_eq_true c8
              have c8b1 : decide (3 < t520.length) = true := decide_eq_true (by omega)
              clear c8
              simp only [Option.some.injEq, Prod.mk.injEq] at H
              obtain ⟨rfl, rfl, rfl, rfl, rfl⟩ := H
              go_enter Tryd.func62, Tryd.ntmps62
              try go_wp2_with (first | ((with_reducible refine gate_dst (N := 2) rfl ?_); (try (refine gate_guard (by rfl) ?_; dsimp only)); refine box_event ?hg (N := 2) ?hd (cs := #[.int .i64 0, .int .i64 0, .int .i64 0, .int .i64 0]) (t := 35) ?hr ?_; (case hd => rfl); (case hg => rfl); (case hr => first | (go_simp; done) | (go_simp; rfl)); intro gb519 hg w9 hbox hb; have n0_ := Aside0.mk (below_step (by repeat (first | (with_reducible first | exact HB.out | apply below_alloc | apply pw_below_drewN | apply below_drew1) | exact HB.out)) hb); have n1_ := Aside0.mk (hbox); have n2_ := Aside0.mk ((by rw [hg]; exact (below_size (by repeat (first | (with_reducible first | exact HB.out | apply below_alloc | apply pw_below_drewN | apply below_drew1) | exact HB.out))) : w.heap.size ≤ gb519)); have n3_ := Aside0.mk ((by rw [hg]; exact (below_size (by repeat (first | (with_reducible first | exact HB.out | apply below_alloc | apply pw_below_drewN | apply below_drew1) | exact HB.out))) : w.heap.size ≤ gb519)); clear HB; have HB := n0_; have BK519 := n1_; have GW519 := n2_; have GE519 := n3_; clear n0_ n1_ n2_ n3_; clear hb hbox hg) | ((with_reducible refine gate_callee (f := 59) rfl ?_); refine goesL_ (some 8) rfl rfl Tryd.func59 (by kernel_rfl) rfl #[.string a0, .string (⟨#[44]⟩ : ByteArray), .int .i64 (-1000000000), .int .i64 1000000000] rfl (by (try simp only [List.map_toArray, List.map_cons, List.map_nil]); first | done | rfl | (simp only [List.length_drop, List.length_take]; rfl)) ?_; (with_reducible refine (impl_readAll.calls k a0 (⟨#[44]⟩ : ByteArray) (-1000000000) 1000000000 t520 true _ ?side1 ?side2 ?side3 A2.out).mono ?_); (case side1 => refine LibE.below HLE.out ?_; repeat (first | (with_reducible first | exact HB.out | apply below_alloc | apply pw_below_drewN | apply below_drew1 | refine below_set ?_ GE519.out) | exact HB.out)); (case side2 => refine LibS.below HLS.out ?_; repeat (first | (with_reducible first | exact HB.out | apply below_alloc | apply pw_below_drewN | apply below_drew1 | refine below_set ?_ GE519.out) | exact HB.out)); (case side3 => refine LibT.below HLT.out ?_; repeat (first | (with_reducible first | exact HB.out | apply below_alloc | apply pw_below_drewN | apply below_drew1 | refine below_set ?_ GE519.out) | exact HB.out)); rintro e w10 ⟨v522, rfl, ho0, hb⟩; refine ⟨_, rfl, ?_⟩; have n0_ := Aside0.mk (Kd.R_lower ho0 (below_size (by repeat (first | (with_reducible first | exact HB.out | apply below_alloc | apply pw_below_drewN | apply below_drew1 | refine below_set ?_ GE519.out) | exact HB.out)))); have n1_ := Aside0.mk (blk_below (g := gb519) (o := .cells #[.int .i64 0, .int .i64 0, .int .i64 0, .int .i64 0] 35 (0, 0)) (by (with_reducible repeat (first | refine blk_drewN ?_ _ | refine blk_drew ?_ | refine blk_alloc ?_ _)); exact BK519.out) hb); have n2_ := Aside0.mk (below_step (by repeat (first | (with_reducible first | exact HB.out | apply below_alloc | apply pw_below_drewN | apply below_drew1 | refine below_set ?_ GE519.out) | exact HB.out)) hb); clear BK519; clear HB; have HO523 := n0_; have BK519 := n1_; have HB := n2_; clear n0_ n1_ n2_; (try clear hb); (try clear hb2); (try clear hk); (try clear hi); (try clear ho0); obtain ⟨Ao11, co11, eo11⟩ := Kd.R_slice HO523.out; subst eo11))
              have n0_ := Aside0.mk (Kd.R_drew HO523.out)
              have n1_ := Aside0.mk (blk_drew BK519.out)
              have n2_ := Aside0.mk (below_drew1 HB.out)
              clear HO523
              clear BK519
              clear HB
              have HO523 := n0_
              have BK519 := n1_
              have HB := n2_
              clear n0_ n1_ n2_
              have p524 : 0 ≤ (0 : Int) := (by omega)
              have q524 : 0 < (t520.length : Int) := of_decide_eq_true (by first | (with_reducible assumption) | assumption)
              obtain ⟨ad524, e524, hx524_0⟩ := Kd.at_int (Kd.R_reads' HO523.out).2.2 0 p524 q524
              cases e524
              have qi524 : (0 < t520.length) = True := eq_true (by omega)
              (try rw [show ((0 : Int)).toNat = 0 from rfl] at hx524_0)
              (try rw [Addr.add_zero'] at hx524_0)
              replace p524 := eq_true p524
              replace q524 := eq_true q524
              have p525 : 0 ≤ (1 : Int) := (by omega)
              have q525 : 1 < (t520.length : Int) := of_decide_eq_true (by first | (with_reducible assumption) | assumption)
              obtain ⟨ad525, e525, hx525_0⟩ := Kd.at_int (Kd.R_reads' HO523.out).2.2 1 p525 q525
              obtain rfl : ad524 = ad525 := (by injection e525)
              (try simp only [show (1 : Int).toNat = 1 from rfl, Nat.reduceMul, Nat.reduceEqDiff, Go.Addr.add, ↓reduceIte] at hx525_0)
              have qi525 : (1 < t520.length) = True := eq_true (by omega)
              (try rw [show ((1 : Int)).toNat = 1 from rfl] at hx525_0)
              replace p525 := eq_true p525
              replace q525 := eq_true q525
              have p526 : 0 ≤ (2 : Int) := (by omega)
              have q526 : 2 < (t520.length : Int) := of_decide_eq_true (by first | (with_reducible assumption) | assumption)
              obtain ⟨ad526, e526, hx526_0⟩ := Kd.at_int (Kd.R_reads' HO523.out).2.2 2 p526 q526
              obtain rfl : ad524 = ad526 := (by injection e526)
              (try simp only [show (2 : Int).toNat = 2 from rfl, Nat.reduceMul, Nat.reduceEqDiff, Go.Addr.add, ↓reduceIte] at hx526_0)
              have qi526 : (2 < t520.length) = True := eq_true (by omega)
              (try rw [show ((2 : Int)).toNat = 2 from rfl] at hx526_0)
              replace p526 := eq_true p526
              replace q526 := eq_true q526
              have p527 : 0 ≤ (3 : Int) := (by omega)
              have q527 : 3 < (t520.length : Int) := of_decide_eq_true (by first | (with_reducible assumption) | assumption)
              obtain ⟨ad527, e527, hx527_0⟩ := Kd.at_int (Kd.R_reads' HO523.out).2.2 3 p527 q527
              obtain rfl : ad524 = ad527 := (by injection e527)
              (try simp only [show (3 : Int).toNat = 3 from rfl, Nat.reduceMul, Nat.reduceEqDiff, Go.Addr.add, ↓reduceIte] at hx527_0)
              have qi527 : (3 < t520.length) = True := eq_true (by omega)
              (try rw [show ((3 : Int)).toNat = 3 from rfl] at hx527_0)
              replace p527 := eq_true p527
              replace q527 := eq_true q527
              refine start_ (n := 15) (S := fun w' => w'.cell? ad524 = some (.int .i64 (rd t520 0)) ∧ w'.cell? ⟨ad524.block, ad524.off + 1, none⟩ = some (.int .i64 (rd t520 1)) ∧ w'.cell? ⟨ad524.block, ad524.off + 2, none⟩ = some (.int .i64 (rd t520 2)) ∧ w'.cell? ⟨ad524.block, ad524.off + 3, none⟩ = some (.int .i64 (rd t520 3))) (ds := []) #[false, false, false, false, false, false, false, false, false, false, false, false, false, false, false] (by kernel_rfl) rfl rfl ⟨hx524_0, hx525_0, hx526_0, hx527_0⟩ (fun hHeld => ?_); refine with_tabW impl_readPose.tab4 impl_readPose.bits4 (fun HT_ HW_ => ?_)
              generalize w10.drew = w12 at HO523 BK519 HB hx524_0 hx525_0 hx526_0 hx527_0 hHeld ⊢
              refine pure_ (i := 0) (N := some 19) (v := ?_) (a' := ?_) #[true, false, false, false, false, false, false, false, false, false, false, false, false, false, false] rfl rfl (any_of HT_.out (by kernel_rfl)) (fun _ _ _ h => h) (Or.inl ⟨by rfl, ?_⟩) ?_ ?_
              rotate_left
              · intro w'
                go_simp
                with_reducible rfl
              rotate_left
              · simp only [Act.put, List.setIfInBounds_toArray, List.set_cons_zero, List.set_cons_succ, i64_w, i32_w]
                rfl
              refine pure_ (i := 1) (N := some 20) (v := ?_) (a' := ?_) #[true, true, false, false, false, false, false, false, false, false, false, false, false, false, false] rfl rfl (any_of HT_.out (by kernel_rfl)) (fun _ _ _ h => h) (Or.inl ⟨by rfl, ?_⟩) ?_ ?_
              rotate_left
              · intro w'
                go_simp
                with_reducible rfl
              rotate_left
              · simp only [Act.put, List.setIfInBounds_toArray, List.set_cons_zero, List.set_cons_succ, i64_w, i32_w]
                rfl
              refine pure_ (i := 3) (N := some 22) (v := ?_) (a' := ?_) #[true, true, false, true, false, false, false, false, false, false, false, false, false, false, false] rfl rfl (any_of HT_.out (by kernel_rfl)) (fun _ _ _ h => h) (Or.inl ⟨by rfl, ?_⟩) ?_ ?_
              rotate_left
              · intro w'
                go_simp
                with_reducible rfl
              rotate_left
              · simp only [Act.put, List.setIfInBounds_toArray, List.set_cons_zero, List.set_cons_succ, i64_w, i32_w]
                rfl
              refine pure_ (i := 4) (N := some 23) (v := ?_) (a' := ?_) #[true, true, false, true, true, false, false, false, false, false, false, false, false, false, false] rfl rfl (any_of HT_.out (by kernel_rfl)) (fun _ _ _ h => h) (Or.inl ⟨by rfl, ?_⟩) ?_ ?_
              rotate_left
              · intro w'
                go_simp
                with_reducible rfl
              rotate_left
              · simp only [Act.put, List.setIfInBounds_toArray, List.set_cons_zero, List.set_cons_succ, i64_w, i32_w]
                rfl
              refine pure_ (i := 6) (N := some 25) (v := ?_) (a' := ?_) #[true, true, false, true, true, false, true, false, false, false, false, false, false, false, false] rfl rfl (any_of HT_.out (by kernel_rfl)) (fun _ _ _ h => h) (Or.inl ⟨by rfl, ?_⟩) ?_ ?_
              rotate_left
              · intro w'
                go_simp
                with_reducible rfl
              rotate_left
              · simp only [Act.put, List.setIfInBounds_toArray, List.set_cons_zero, List.set_cons_succ, i64_w, i32_w]
                rfl
              refine pure_ (i := 7) (N := some 26) (v := ?_) (a' := ?_) #[true, true, false, true, true, false, true, true, false, false, false, false, false, false, false] rfl rfl (any_of HT_.out (by kernel_rfl)) (fun _ _ _ h => h) (Or.inl ⟨by rfl, ?_⟩) ?_ ?_
              rotate_left
              · intro w'
                go_simp
                with_reducible rfl
              rotate_left
              · simp only [Act.put, List.setIfInBounds_toArray, List.set_cons_zero, List.set_cons_succ, i64_w, i32_w]
                rfl
              refine pure_ (i := 9) (N := some 28) (v := ?_) (a' := ?_) #[true, true, false, true, true, false, true, true, false, true, false, false, false, false, false] rfl rfl (any_of HT_.out (by kernel_rfl)) (fun _ _ _ h => h) (Or.inl ⟨by rfl, ?_⟩) ?_ ?_
              rotate_left
              · intro w'
                go_simp
                with_reducible rfl
              rotate_left
              · simp only [Act.put, List.setIfInBounds_toArray, List.set_cons_zero, List.set_cons_succ, i64_w, i32_w]
                rfl
              refine pure_ (i := 10) (N := some 29) (v := ?_) (a' := ?_) #[true, true, false, true, true, false, true, true, false, true, true, false, false, false, false] rfl rfl (any_of HT_.out (by kernel_rfl)) (fun _ _ _ h => h) (Or.inl ⟨by rfl, ?_⟩) ?_ ?_
              rotate_left
              · intro w'
                go_simp
                with_reducible rfl
              rotate_left
              · simp only [Act.put, List.setIfInBounds_toArray, List.set_cons_zero, List.set_cons_succ, i64_w, i32_w]
                rfl
              refine take_ (i := 2) (N := some 21) (v := ?_) (a' := ?_) #[true, true, true, true, true, false, true, true, false, true, true, false, false, false, false] rfl rfl (take_ofW HT_.out HW_.out (by kernel_rfl)) (fun _ _ _ h => h) (Or.inl ⟨by rfl, ?_⟩) hHeld ?_ ?_
              rotate_left
              · rintro w' ⟨s0, s1, s2, s3⟩
                go_simp
                with_reducible rfl
              rotate_left
              · simp only [Act.put, List.setIfInBounds_toArray, List.set_cons_zero, List.set_cons_succ, i64_w, i32_w]
                rfl
              refine take_ (i := 5) (N := some 24) (v := ?_) (a' := ?_) #[true, true, true, true, true, true, true, true, false, true, true, false, false, false, false] rfl rfl (take_ofW HT_.out HW_.out (by kernel_rfl)) (fun _ _ _ h => h) (Or.inl ⟨by rfl, ?_⟩) hHeld ?_ ?_
              rotate_left
              · rintro w' ⟨s0, s1, s2, s3⟩
                go_simp
                with_reducible rfl
              rotate_left
              · simp only [Act.put, List.setIfInBounds_toArray, List.set_cons_zero, List.set_cons_succ, i64_w, i32_w]
                rfl
              refine take_ (i := 8) (N := some 27) (v := ?_) (a' := ?_) #[true, true, true, true, true, true, true, true, true, true, true, false, false, false, false] rfl rfl (take_ofW HT_.out HW_.out (by kernel_rfl)) (fun _ _ _ h => h) (Or.inl ⟨by rfl, ?_⟩) hHeld ?_ ?_
              rotate_left
              · rintro w' ⟨s0, s1, s2, s3⟩
                go_simp
                with_reducible rfl
              rotate_left
              · simp only [Act.put, List.setIfInBounds_toArray, List.set_cons_zero, List.set_cons_succ, i64_w, i32_w]
                rfl
              refine take_ (i := 11) (N := some 30) (v := ?_) (a' := ?_) #[true, true, true, true, true, true, true, true, true, true, true, true, false, false, false] rfl rfl (take_ofW HT_.out HW_.out (by kernel_rfl)) (fun _ _ _ h => h) (Or.inl ⟨by rfl, ?_⟩) hHeld ?_ ?_
              rotate_left
              · rintro w' ⟨s0, s1, s2, s3⟩
                go_simp
                with_reducible rfl
              rotate_left
              · simp only [Act.put, List.setIfInBounds_toArray, List.set_cons_zero, List.set_cons_succ, i64_w, i32_w]
                rfl
              refine pure_ (i := 12) (N := some 31) (v := ?_) (a' := ?_) #[true, true, true, true, true, true, true, true, true, true, true, true, true, false, false] rfl rfl (any_of HT_.out (by kernel_rfl)) (fun _ _ _ h => h) (Or.inl ⟨by rfl, ?_⟩) ?_ ?_
              rotate_left
              · intro w'
                go_simp
                with_reducible rfl
              rotate_left
              · simp only [Act.put, List.setIfInBounds_toArray, List.set_cons_zero, List.set_cons_succ, i64_w, i32_w]
                rfl
              refine one_ (i := 13) (N := none) #[true, true, true, true, true, true, true, true, true, true, true, true, true, true, false] rfl rfl (one_of HT_.out (by kernel_rfl)) (by decide) (fun K hK => ?_)
              have hs13 : w12.cell? ⟨gb519, 0, none⟩ = some (.int .i64 0) := (blk_cell BK519.out 0).trans rfl
              have hfs13 := blk_frozen BK519.out 0
              have hs14 : w12.cell? ⟨gb519, 1, none⟩ = some (.int .i64 0) := (blk_cell BK519.out 1).trans rfl
              have hfs14 := blk_frozen BK519.out 1
              have hs15 : w12.cell? ⟨gb519, 2, none⟩ = some (.int .i64 0) := (blk_cell BK519.out 2).trans rfl
              have hfs15 := blk_frozen BK519.out 2
              have hs16 : w12.cell? ⟨gb519, 3, none⟩ = some (.int .i64 0) := (blk_cell BK519.out 3).trans rfl
              have hfs16 := blk_frozen BK519.out 3
              refine skip_ (w1 := ?_) (by rfl) rfl ?_ ?_
              rotate_left
              · go_simp
                rfl
              refine hK.out _ _ ⟨((cell_far (p := ⟨gb519, _, none⟩) (by first | (dsimp only; exact Kd.own_blk (Kd.R_ne HO523.out BK519.out (by decide))) | exact Kd.own_blk (Kd.R_ne HO523.out BK519.out (by decide)) | (rw [add_block]; exact Kd.own_blk (Kd.R_ne HO523.out BK519.out (by decide))) | (show (Addr.add _ _).block ≠ _; rw [add_block]; exact Kd.own_blk (Kd.R_ne HO523.out BK519.out (by decide)))) _).trans (((cell_far (p := ⟨gb519, _, none⟩) (by first | (dsimp only; exact Kd.own_blk (Kd.R_ne HO523.out BK519.out (by decide))) | exact Kd.own_blk (Kd.R_ne HO523.out BK519.out (by decide)) | (rw [add_block]; exact Kd.own_blk (Kd.R_ne HO523.out BK519.out (by decide))) | (show (Addr.add _ _).block ≠ _; rw [add_block]; exact Kd.own_blk (Kd.R_ne HO523.out BK519.out (by decide)))) _).trans (((cell_far (p := ⟨gb519, _, none⟩) (by first | (dsimp only; exact Kd.own_blk (Kd.R_ne HO523.out BK519.out (by decide))) | exact Kd.own_blk (Kd.R_ne HO523.out BK519.out (by decide)) | (rw [add_block]; exact Kd.own_blk (Kd.R_ne HO523.out BK519.out (by decide))) | (show (Addr.add _ _).block ≠ _; rw [add_block]; exact Kd.own_blk (Kd.R_ne HO523.out BK519.out (by decide)))) _).trans (((cell_far (p := ⟨gb519, _, none⟩) (by first | (dsimp only; exact Kd.own_blk (Kd.R_ne HO523.out BK519.out (by decide))) | exact Kd.own_blk (Kd.R_ne HO523.out BK519.out (by decide)) | (rw [add_block]; exact Kd.own_blk (Kd.R_ne HO523.out BK519.out (by decide))) | (show (Addr.add _ _).block ≠ _; rw [add_block]; exact Kd.own_blk (Kd.R_ne HO523.out BK519.out (by decide)))) _).trans (hHeld.1)))))))), ((cell_far (p := ⟨gb519, _, none⟩) (by first | (dsimp only; exact Kd.own_blk (Kd.R_ne HO523.out BK519.out (by decide))) | exact Kd.own_blk (Kd.R_ne HO523.out BK519.out (by decide)) | (rw [add_block]; exact Kd.own_blk (Kd.R_ne HO523.out BK519.out (by decide))) | (show (Addr.add _ _).block ≠ _; rw [add_block]; exact Kd.own_blk (Kd.R_ne HO523.out BK519.out (by decide)))) _).trans (((cell_far (p := ⟨gb519, _, none⟩) (by first | (dsimp only; exact Kd.own_blk (Kd.R_ne HO523.out BK519.out (by decide))) | exact Kd.own_blk (Kd.R_ne HO523.out BK519.out (by decide)) | (rw [add_block]; exact Kd.own_blk (Kd.R_ne HO523.out BK519.out (by decide))) | (show (Addr.add _ _).block ≠ _; rw [add_block]; exact Kd.own_blk (Kd.R_ne HO523.out BK519.out (by decide)))) _).trans (((cell_far (p := ⟨gb519, _, none⟩) (by first | (dsimp only; exact Kd.own_blk (Kd.R_ne HO523.out BK519.out (by decide))) | exact Kd.own_blk (Kd.R_ne HO523.out BK519.out (by decide)) | (rw [add_block]; exact Kd.own_blk (Kd.R_ne HO523.out BK519.out (by decide))) | (show (Addr.add _ _).block ≠ _; rw [add_block]; exact Kd.own_blk (Kd.R_ne HO523.out BK519.out (by decide)))) _).trans (((cell_far (p := ⟨gb519, _, none⟩) (by first | (dsimp only; exact Kd.own_blk (Kd.R_ne HO523.out BK519.out (by decide))) | exact Kd.own_blk (Kd.R_ne HO523.out BK519.out (by decide)) | (rw [add_block]; exact Kd.own_blk (Kd.R_ne HO523.out BK519.out (by decide))) | (show (Addr.add _ _).block ≠ _; rw [add_block]; exact Kd.own_blk (Kd.R_ne HO523.out BK519.out (by decide)))) _).trans (hHeld.2.1)))))))), ((cell_far (p := ⟨gb519, _, none⟩) (by first | (dsimp only; exact Kd.own_blk (Kd.R_ne HO523.out BK519.out (by decide))) | exact Kd.own_blk (Kd.R_ne HO523.out BK519.out (by decide)) | (rw [add_block]; exact Kd.own_blk (Kd.R_ne HO523.out BK519.out (by decide))) | (show (Addr.add _ _).block ≠ _; rw [add_block]; exact Kd.own_blk (Kd.R_ne HO523.out BK519.out (by decide)))) _).trans (((cell_far (p := ⟨gb519, _, none⟩) (by first | (dsimp only; exact Kd.own_blk (Kd.R_ne HO523.out BK519.out (by decide))) | exact Kd.own_blk (Kd.R_ne HO523.out BK519.out (by decide)) | (rw [add_block]; exact Kd.own_blk (Kd.R_ne HO523.out BK519.out (by decide))) | (show (Addr.add _ _).block ≠ _; rw [add_block]; exact Kd.own_blk (Kd.R_ne HO523.out BK519.out (by decide)))) _).trans (((cell_far (p := ⟨gb519, _, none⟩) (by first | (dsimp only; exact Kd.own_blk (Kd.R_ne HO523.out BK519.out (by decide))) | exact Kd.own_blk (Kd.R_ne HO523.out BK519.out (by decide)) | (rw [add_block]; exact Kd.own_blk (Kd.R_ne HO523.out BK519.out (by decide))) | (show (Addr.add _ _).block ≠ _; rw [add_block]; exact Kd.own_blk (Kd.R_ne HO523.out BK519.out (by decide)))) _).trans (((cell_far (p := ⟨gb519, _, none⟩) (by first | (dsimp only; exact Kd.own_blk (Kd.R_ne HO523.out BK519.out (by decide))) | exact Kd.own_blk (Kd.R_ne HO523.out BK519.out (by decide)) | (rw [add_block]; exact Kd.own_blk (Kd.R_ne HO523.out BK519.out (by decide))) | (show (Addr.add _ _).block ≠ _; rw [add_block]; exact Kd.own_blk (Kd.R_ne HO523.out BK519.out (by decide)))) _).trans (hHeld.2.2.1)))))))), ((cell_far (p := ⟨gb519, _, none⟩) (by first | (dsimp only; exact Kd.own_blk (Kd.R_ne HO523.out BK519.out (by decide))) | exact Kd.own_blk (Kd.R_ne HO523.out BK519.out (by decide)) | (rw [add_block]; exact Kd.own_blk (Kd.R_ne HO523.out BK519.out (by decide))) | (show (Addr.add _ _).block ≠ _; rw [add_block]; exact Kd.own_blk (Kd.R_ne HO523.out BK519.out (by decide)))) _).trans (((cell_far (p := ⟨gb519, _, none⟩) (by first | (dsimp only; exact Kd.own_blk (Kd.R_ne HO523.out BK519.out (by decide))) | exact Kd.own_blk (Kd.R_ne HO523.out BK519.out (by decide)) | (rw [add_block]; exact Kd.own_blk (Kd.R_ne HO523.out BK519.out (by decide))) | (show (Addr.add _ _).block ≠ _; rw [add_block]; exact Kd.own_blk (Kd.R_ne HO523.out BK519.out (by decide)))) _).trans (((cell_far (p := ⟨gb519, _, none⟩) (by first | (dsimp only; exact Kd.own_blk (Kd.R_ne HO523.out BK519.out (by decide))) | exact Kd.own_blk (Kd.R_ne HO523.out BK519.out (by decide)) | (rw [add_block]; exact Kd.own_blk (Kd.R_ne HO523.out BK519.out (by decide))) | (show (Addr.add _ _).block ≠ _; rw [add_block]; exact Kd.own_blk (Kd.R_ne HO523.out BK519.out (by decide)))) _).trans (((cell_far (p := ⟨gb519, _, none⟩) (by first | (dsimp only; exact Kd.own_blk (Kd.R_ne HO523.out BK519.out (by decide))) | exact Kd.own_blk (Kd.R_ne HO523.out BK519.out (by decide)) | (rw [add_block]; exact Kd.own_blk (Kd.R_ne HO523.out BK519.out (by decide))) | (show (Addr.add _ _).block ≠ _; rw [add_block]; exact Kd.own_blk (Kd.R_ne HO523.out BK519.out (by decide)))) _).trans (hHeld.2.2.2))))))))⟩ (fun hHeld => ?_)
              clear hK K
              refine pure_ (i := 14) (N := some 3) (v := ?_) (a' := ?_) #[true, true, true, true, true, true, true, true, true, true, true, true, true, true, true] rfl rfl (any_of HT_.out (by kernel_rfl)) (fun _ _ _ h => h) (Or.inl ⟨by rfl, ?_⟩) ?_ ?_
              rotate_left
              · intro w'
                go_simp
                with_reducible rfl
              rotate_left
              · simp only [Act.put, List.setIfInBounds_toArray, List.set_cons_zero, List.set_cons_succ, i64_w, i32_w]
                rfl
              refine done_ (done_of HT_.out (by kernel_rfl)) ?_
              try go_wp2
              refine bodyPost_ret (results_ct rfl _ _ gb519 35 #[.int .i64 (rd t520 0), .int .i64 (rd t520 1), .int .i64 (rd t520 2), .int .i64 (rd t520 3)] (0, 0) _ rfl (by (with_reducible repeat (first | refine blk_drewN ?_ _ | refine blk_drew ?_ | refine blk_alloc ?_ _)); refine blk_put (cs := #[.int .i64 (rd t520 0), .int .i64 (rd t520 1), .int .i64 (rd t520 2), .int .i64 0]) ?_ 3 _ rfl; (with_reducible repeat (first | refine blk_drewN ?_ _ | refine blk_drew ?_ | refine blk_alloc ?_ _)); refine blk_put (cs := #[.int .i64 (rd t520 0), .int .i64 (rd t520 1), .int .i64 0, .int .i64 0]) ?_ 2 _ rfl; (with_reducible repeat (first | refine blk_drewN ?_ _ | refine blk_drew ?_ | refine blk_alloc ?_ _)); refine blk_put (cs := #[.int .i64 (rd t520 0), .int .i64 0, .int .i64 0, .int .i64 0]) ?_ 1 _ rfl; (with_reducible repeat (first | refine blk_drewN ?_ _ | refine blk_drew ?_ | refine blk_alloc ?_ _)); refine blk_put (cs := #[.int .i64 0, .int .i64 0, .int .i64 0, .int .i64 0]) ?_ 0 _ rfl; (with_reducible repeat (first | refine blk_drewN ?_ _ | refine blk_drew ?_ | refine blk_alloc ?_ _)); exact BK519.out) Tryd.underlying35 rfl (by kernel_rfl)) rfl ?_
              exact ⟨by first | rfl | (simp [errW_none, errW_some] <;> rfl) | (simp [*, errW_none, errW_some] <;> rfl), by repeat (first | (with_reducible first | exact HB.out | apply below_alloc | apply pw_below_drewN | apply below_drew1 | refine below_set ?_ GE519.out) | exact HB.out)⟩
            · rw [if_neg c8] at H
              exact absurd H (by simp)
          · rw [if_neg c7] at H
            exact absurd H (by simp)
        · rw [if_neg c6] at H
          exact absurd H (by simp)
      · rw [if_neg c5] at H
        exact absurd H (by simp)
    · rw [if_neg c4] at H
      have c4b0 : ((t520.length : Int) == 4) = false := beq_eq_false_iff_ne.mpr c4
      have c4b1 : ((t520.length : Int) != 4) = true := bne_iff_ne.mpr c4
      simp only [Option.some.injEq, Prod.mk.injEq] at H
      obtain ⟨rfl, rfl, rfl, rfl, rfl⟩ := H
      go_enter Tryd.func62, Tryd.ntmps62
      go_wp2_with (first | ((with_reducible refine gate_dst (N := 2) rfl ?_); (try (refine gate_guard (by rfl) ?_; dsimp only)); refine box_event ?hg (N := 2) ?hd (cs := #[.int .i64 0, .int .i64 0, .int .i64 0, .int .i64 0]) (t := 35) ?hr ?_; (case hd => rfl); (case hg => rfl); (case hr => first | (go_simp; done) | (go_simp; rfl)); intro gb519 hg w17 hbox hb; have n0_ := Aside0.mk (below_step (by repeat (first | (with_reducible first | exact HB.out | apply below_alloc | apply pw_below_drewN | apply below_drew1) | exact HB.out)) hb); have n1_ := Aside0.mk (hbox); have n2_ := Aside0.mk ((by rw [hg]; exact (below_size (by repeat (first | (with_reducible first | exact HB.out | apply below_alloc | apply pw_below_drewN | apply below_drew1) | exact HB.out))) : w.heap.size ≤ gb519)); have n3_ := Aside0.mk ((by rw [hg]; exact (below_size (by repeat (first | (with_reducible first | exact HB.out | apply below_alloc | apply pw_below_drewN | apply below_drew1) | exact HB.out))) : w.heap.size ≤ gb519)); clear HB; have HB := n0_; have BK519 := n1_; have GW519 := n2_; have GE519 := n3_; clear n0_ n1_ n2_ n3_; clear hb hbox hg) | ((with_reducible refine gate_callee (f := 59) rfl ?_); refine goesL_ (some 8) rfl rfl Tryd.func59 (by kernel_rfl) rfl #[.string a0, .string (⟨#[44]⟩ : ByteArray), .int .i64 (-1000000000), .int .i64 1000000000] rfl (by (try simp only [List.map_toArray, List.map_cons, List.map_nil]); first | done | rfl | (simp only [List.length_drop, List.length_take]; rfl)) ?_; (with_reducible refine (impl_readAll.calls k a0 (⟨#[44]⟩ : ByteArray) (-1000000000) 1000000000 t520 true _ ?side1 ?side2 ?side3 A2.out).mono ?_); (case side1 => refine LibE.below HLE.out ?_; repeat (first | (with_reducible first | exact HB.out | apply below_alloc | apply pw_below_drewN | apply below_drew1 | refine below_set ?_ GE519.out) | exact HB.out)); (case side2 => refine LibS.below HLS.out ?_; repeat (first | (with_reducible first | exact HB.out | apply below_alloc | apply pw_below_drewN | apply below_drew1 | refine below_set ?_ GE519.out) | exact HB.out)); (case side3 => refine LibT.below HLT.out ?_; repeat (first | (with_reducible first | exact HB.out | apply below_alloc | apply pw_below_drewN | apply below_drew1 | refine below_set ?_ GE519.out) | exact HB.out)); rintro e w18 ⟨v522, rfl, ho0, hb⟩; refine ⟨_, rfl, ?_⟩; have n0_ := Aside0.mk (Kd.R_lower ho0 (below_size (by repeat (first | (with_reducible first | exact HB.out | apply below_alloc | apply pw_below_drewN | apply below_drew1 | refine below_set ?_ GE519.out) | exact HB.out)))); have n1_ := Aside0.mk (blk_below (g := gb519) (o := .cells #[.int .i64 0, .int .i64 0, .int .i64 0, .int .i64 0] 35 (0, 0)) (by (with_reducible repeat (first | refine blk_drewN ?_ _ | refine blk_drew ?_ | refine blk_alloc ?_ _)); exact BK519.out) hb); have n2_ := Aside0.mk (below_step (by repeat (first | (with_reducible first | exact HB.out | apply below_alloc | apply pw_below_drewN | apply below_drew1 | refine below_set ?_ GE519.out) | exact HB.out)) hb); clear BK519; clear HB; have HO523 := n0_; have BK519 := n1_; have HB := n2_; clear n0_ n1_ n2_; (try clear hb); (try clear hb2); (try clear hk); (try clear hi); (try clear ho0); obtain ⟨Ao19, co19, eo19⟩ := Kd.R_slice HO523.out; subst eo19; have hcz20_0 : w18.cell? ⟨gb519, 0, none⟩ = some (.int .i64 0) := (blk_cell BK519.out 0).trans rfl; have hcz20_1 : w18.cell? ⟨gb519, 1, none⟩ = some (.int .i64 0) := (blk_cell BK519.out 1).trans rfl; have hcz20_2 : w18.cell? ⟨gb519, 2, none⟩ = some (.int .i64 0) := (blk_cell BK519.out 2).trans rfl; have hcz20_3 : w18.cell? ⟨gb519, 3, none⟩ = some (.int .i64 0) := (blk_cell BK519.out 3).trans rfl; have hfz20_0 := blk_frozen BK519.out 0; have hfz20_1 := blk_frozen BK519.out 1; have hfz20_2 := blk_frozen BK519.out 2; have hfz20_3 := blk_frozen BK519.out 3))
      refine bodyPost_ret (results_ct rfl _ _ gb519 35 #[.int .i64 0, .int .i64 0, .int .i64 0, .int .i64 0] (0, 0) _ rfl (by (with_reducible repeat (first | refine blk_drewN ?_ _ | refine blk_drew ?_ | refine blk_alloc ?_ _)); refine blk_put (cs := #[.int .i64 0, .int .i64 0, .int .i64 0, .int .i64 0]) ?_ 3 _ rfl; (with_reducible repeat (first | refine blk_drewN ?_ _ | refine blk_drew ?_ | refine blk_alloc ?_ _)); refine blk_put (cs := #[.int .i64 0, .int .i64 0, .int .i64 0, .int .i64 0]) ?_ 2 _ rfl; (with_reducible repeat (first | refine blk_drewN ?_ _ | refine blk_drew ?_ | refine blk_alloc ?_ _)); refine blk_put (cs := #[.int .i64 0, .int .i64 0, .int .i64 0, .int .i64 0]) ?_ 1 _ rfl; (with_reducible repeat (first | refine blk_drewN ?_ _ | refine blk_drew ?_ | refine blk_alloc ?_ _)); refine blk_put (cs := #[.int .i64 0, .int .i64 0, .int .i64 0, .int .i64 0]) ?_ 0 _ rfl; (with_reducible repeat (first | refine blk_drewN ?_ _ | refine blk_drew ?_ | refine blk_alloc ?_ _)); exact BK519.out) Tryd.underlying35 rfl (by kernel_rfl)) rfl ?_
      exact ⟨by first | rfl | (simp [errW_none, errW_some] <;> rfl) | (simp [*, errW_none, errW_some] <;> rfl), by repeat (first | (with_reducible first | exact HB.out | apply below_alloc | apply pw_below_drewN | apply below_drew1 | refine below_set ?_ GE519.out) | exact HB.out)⟩
  · replace c3 := Bool.eq_false_iff.mpr c3
    subst c3
    have H1 : (some (0, 0, 0, 0, false)) = some (r1, r2, r3, r4, r5) := by rw [if_neg (show ¬ (false = true) by decide)] at H; exact H
    clear H
    have H := H1
    clear H1
    simp only [Option.some.injEq, Prod.mk.injEq] at H
    obtain ⟨rfl, rfl, rfl, rfl, rfl⟩ := H
    go_enter Tryd.func62, Tryd.ntmps62
    go_wp2_with (first | ((with_reducible refine gate_dst (N := 2) rfl ?_); (try (refine gate_guard (by rfl) ?_; dsimp only)); refine box_event ?hg (N := 2) ?hd (cs := #[.int .i64 0, .int .i64 0, .int .i64 0, .int .i64 0]) (t := 35) ?hr ?_; (case hd => rfl); (case hg => rfl); (case hr => first | (go_simp; done) | (go_simp; rfl)); intro gb519 hg w21 hbox hb; have n0_ := Aside0.mk (below_step (by repeat (first | (with_reducible first | exact HB.out | apply below_alloc | apply pw_below_drewN | apply below_drew1) | exact HB.out)) hb); have n1_ := Aside0.mk (hbox); have n2_ := Aside0.mk ((by rw [hg]; exact (below_size (by repeat (first | (with_reducible first | exact HB.out | apply below_alloc | apply pw_below_drewN | apply below_drew1) | exact HB.out))) : w.heap.size ≤ gb519)); have n3_ := Aside0.mk ((by rw [hg]; exact (below_size (by repeat (first | (with_reducible first | exact HB.out | apply below_alloc | apply pw_below_drewN | apply below_drew1) | exact HB.out))) : w.heap.size ≤ gb519)); clear HB; have HB := n0_; have BK519 := n1_; have GW519 := n2_; have GE519 := n3_; clear n0_ n1_ n2_ n3_; clear hb hbox hg) | ((with_reducible refine gate_callee (f := 59) rfl ?_); refine goesL_ (some 8) rfl rfl Tryd.func59 (by kernel_rfl) rfl #[.string a0, .string (⟨#[44]⟩ : ByteArray), .int .i64 (-1000000000), .int .i64 1000000000] rfl (by (try simp only [List.map_toArray, List.map_cons, List.map_nil]); first | done | rfl | (simp only [List.length_drop, List.length_take]; rfl)) ?_; (with_reducible refine (impl_readAll.calls k a0 (⟨#[44]⟩ : ByteArray) (-1000000000) 1000000000 t520 false _ ?side1 ?side2 ?side3 A2.out).mono ?_); (case side1 => refine LibE.below HLE.out ?_; repeat (first | (with_reducible first | exact HB.out | apply below_alloc | apply pw_below_drewN | apply below_drew1 | refine below_set ?_ GE519.out) | exact HB.out)); (case side2 => refine LibS.below HLS.out ?_; repeat (first | (with_reducible first | exact HB.out | apply below_alloc | apply pw_below_drewN | apply below_drew1 | refine below_set ?_ GE519.out) | exact HB.out)); (case side3 => refine LibT.below HLT.out ?_; repeat (first | (with_reducible first | exact HB.out | apply below_alloc | apply pw_below_drewN | apply below_drew1 | refine below_set ?_ GE519.out) | exact HB.out)); rintro e w22 ⟨v522, rfl, ho0, hb⟩; refine ⟨_, rfl, ?_⟩; have n0_ := Aside0.mk (Kd.R_lower ho0 (below_size (by repeat (first | (with_reducible first | exact HB.out | apply below_alloc | apply pw_below_drewN | apply below_drew1 | refine below_set ?_ GE519.out) | exact HB.out)))); have n1_ := Aside0.mk (blk_below (g := gb519) (o := .cells #[.int .i64 0, .int .i64 0, .int .i64 0, .int .i64 0] 35 (0, 0)) (by (with_reducible repeat (first | refine blk_drewN ?_ _ | refine blk_drew ?_ | refine blk_alloc ?_ _)); exact BK519.out) hb); have n2_ := Aside0.mk (below_step (by repeat (first | (with_reducible first | exact HB.out | apply below_alloc | apply pw_below_drewN | apply below_drew1 | refine below_set ?_ GE519.out) | exact HB.out)) hb); clear BK519; clear HB; have HO523 := n0_; have BK519 := n1_; have HB := n2_; clear n0_ n1_ n2_; (try clear hb); (try clear hb2); (try clear hk); (try clear hi); (try clear ho0); have hcz23_0 : w22.cell? ⟨gb519, 0, none⟩ = some (.int .i64 0) := (blk_cell BK519.out 0).trans rfl; have hcz23_1 : w22.cell? ⟨gb519, 1, none⟩ = some (.int .i64 0) := (blk_cell BK519.out 1).trans rfl; have hcz23_2 : w22.cell? ⟨gb519, 2, none⟩ = some (.int .i64 0) := (blk_cell BK519.out 2).trans rfl; have hcz23_3 : w22.cell? ⟨gb519, 3, none⟩ = some (.int .i64 0) := (blk_cell BK519.out 3).trans rfl; have hfz23_0 := blk_frozen BK519.out 0; have hfz23_1 := blk_frozen BK519.out 1; have hfz23_2 := blk_frozen BK519.out 2; have hfz23_3 := blk_frozen BK519.out 3))
    refine bodyPost_ret (results_ct rfl _ _ gb519 35 #[.int .i64 0, .int .i64 0, .int .i64 0, .int .i64 0] (0, 0) _ rfl (by (with_reducible repeat (first | refine blk_drewN ?_ _ | refine blk_drew ?_ | refine blk_alloc ?_ _)); refine blk_put (cs := #[.int .i64 0, .int .i64 0, .int .i64 0, .int .i64 0]) ?_ 3 _ rfl; (with_reducible repeat (first | refine blk_drewN ?_ _ | refine blk_drew ?_ | refine blk_alloc ?_ _)); refine blk_put (cs := #[.int .i64 0, .int .i64 0, .int .i64 0, .int .i64 0]) ?_ 2 _ rfl; (with_reducible repeat (first | refine blk_drewN ?_ _ | refine blk_drew ?_ | refine blk_alloc ?_ _)); refine blk_put (cs := #[.int .i64 0, .int .i64 0, .int .i64 0, .int .i64 0]) ?_ 1 _ rfl; (with_reducible repeat (first | refine blk_drewN ?_ _ | refine blk_drew ?_ | refine blk_alloc ?_ _)); refine blk_put (cs := #[.int .i64 0, .int .i64 0, .int .i64 0, .int .i64 0]) ?_ 0 _ rfl; (with_reducible repeat (first | refine blk_drewN ?_ _ | refine blk_drew ?_ | refine blk_alloc ?_ _)); exact BK519.out) Tryd.underlying35 rfl (by kernel_rfl)) rfl ?_
    exact ⟨by first | rfl | (simp [errW_none, errW_some] <;> rfl) | (simp [*, errW_none, errW_some] <;> rfl), by repeat (first | (with_reducible first | exact HB.out | apply below_alloc | apply pw_below_drewN | apply below_drew1 | refine below_set ?_ GE519.out) | exact HB.out)⟩

end Go.Proofs.YtlmdoapjcnaflaaDoor.Q
