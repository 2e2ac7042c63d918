/- A contract by hand for spec.SmoothestHome: the plain answer over the plain tables. -/
import Derived.Test.YtpccannjeppmbaaQ0
import Derived.Test.YtpccannjeppmbaaQ2
import Derived.Test.YtpccannjeppmbaaQ9
import Derived.Test.YtpccannjeppmbaaQ10
import Derived.Test.YtpccannjeppmbaaQ11
import Derived.Test.YtpccannjeppmbaaScR
import Derived.Test.YtpccannjeppmbaaScW
namespace Go.Proofs.Ytpccannjeppmbaa.Q
open Go.RowKit Go.Proofs.YtpccannjeppmbaaW.PrintWords Go.Proofs.YtpccannjeppmbaaW.PrintLast Go.Proofs.YtpccannjeppmbaaW.PrintMore
set_option linter.unusedVariables false
set_option linter.unusedSimpArgs false

def specS_T16 : Bool × List (List Nat × List Nat) := (true, [([], []), ([0], [0]), ([1], [1]), ([1], [1]), ([3, 1], [1, 3]), ([2, 4, 1], [1, 2, 4]), ([5, 1], [1, 5]), ([1], [1]), ([7, 1, 1], [1, 7]), ([6, 8, 1], [1, 6, 8]), ([9, 1], [1, 9]), ([10, 1], [1, 10]), ([1, 11], [1, 11]), ([12, 8], [12]), ([13], [13]), ([13], [13]), ([15, 13], [13, 15]), ([14, 16, 13], [13, 14, 16]), ([17, 13], [13, 17]), ([13], [13]), ([19, 13, 13], [13, 19]), ([18, 20, 13], [13, 18, 20]), ([21, 13], [13, 21]), ([13], [13]), ([22, 23, 13], [13, 22, 23]), ([13], [13]), ([13], [13]), ([25, 26, 13], [13, 25, 26]), ([27, 13], [13, 27]), ([13], [13]), ([29, 20, 13], [13, 29]), ([28, 30, 13], [13, 28, 30]), ([31, 13], [13, 31]), ([24, 32, 13], [13, 24, 32]), ([13, 33], [13, 33])])
def specS_B16 : List Nat := [0, 1, 3, 3, 11, 31, 63, 3, 131, 511, 1023, 2047, 4095, 8191, 16383, 16383, 49151, 131071, 262143, 16383, 540671, 2097151, 4194303, 16383, 16777215, 16383, 16383, 100679679, 234897407, 16383, 538460159, 2115518463, 4263002111, 8589934591, 17179869183]
theorem specS_tab16 : rtab .any (opsOf Try.f4 16) = specS_T16 := by kernel_rfl
theorem specS_bits16 : waitsOk specS_T16.2 specS_B16 = true := by kernel_rfl
def specS_T4 : Bool × List (List Nat × List Nat) := (true, [([], []), ([], []), ([0, 1], [0, 1]), ([2], [2]), ([], []), ([4], [4]), ([3, 5], [3, 5]), ([6], [6]), ([7, 5, 0, 1, 2, 3, 4, 5, 6, 7], [7])])
def specS_B4 : List Nat := [0, 0, 3, 7, 0, 16, 63, 127, 255]
theorem specS_tab4 : rtab .any (opsOf Try.f4 4) = specS_T4 := by kernel_rfl
theorem specS_bits4 : waitsOk specS_T4.2 specS_B4 = true := by kernel_rfl
def spec_SmoothestHome.f (a0_0 : Int) (a0_1 : Int) (a1_0 : Int) (a1_1 : Int) (a1_2 : Int) (a2 : Int) : Option (List Int × Int × Bool) :=
  (spec_l05Is.f a0_0 a0_1 a1_0 a1_1 a1_2).bind fun v => if v = true then (if 0 ≤ a2 ∧ a2 ≤ 8 then some (ansC a0_0 a0_1 a2 ⟨a1_0, a1_1, a1_2⟩) else some ([], 0, false)) else some ([], 0, false)

set_option maxHeartbeats 16000000 in
set_option maxRecDepth 100000 in
theorem spec_SmoothestHome.calls (a b c0 c1 c2 k : Int) (r1 : List Int) (r2 : Int) (r3 : Bool) (w : World) (h : spec_SmoothestHome.f a b c0 c1 c2 k = some (r1, r2, r3)) :
    Calls Try.prog 4 #[.agg #[.int .i64 a, .int .i64 b], .agg #[.int .i64 c0, .int .i64 c1, .int .i64 c2], .int .i64 k] w fun e w' => ∃ v0_ : Value, e = .returned (.tuple #[v0_, .int .i64 r2, .bool r3]) ∧ Kd.R (Kd.int .i64) 2 w' w.heap.size (fun _ => True) v0_ r1 ∧ Below w.heap.size w w' := by
  have hu29 := Try.underlying29
  have hu31 := Try.underlying31
  have hu26 := Try.underlying26
  have hu38 := Try.underlying38
  unfold spec_SmoothestHome.f at h
  obtain ⟨v, hv, h⟩ := Option.bind_eq_some_iff.1 h
  have HV := Aside0.mk hv
  obtain ⟨F, hF⟩ : ∃ F : Ending → World → Prop, F = fun e w' => ∃ v0_ : Value, e = .returned (.tuple #[v0_, .int .i64 r2, .bool r3]) ∧ Kd.R (Kd.int .i64) 2 w' w.heap.size (fun _ => True) v0_ r1 ∧ Below w.heap.size w w' := ⟨_, rfl⟩
  have HF := Aside0.mk hF
  rw [← hF]
  clear hF
  cases v with
  | false =>
    rw [if_neg (by decide)] at h
    simp only [Option.some.injEq, Prod.mk.injEq] at h
    obtain ⟨rfl, rfl, rfl⟩ := h
    clear hv
    go_enter Try.func4, Try.ntmps4
    go_wp2_with (first
      | ((with_reducible refine gate_dst (N := 3) rfl ?_); go_loud (refine box_event ?hg (N := 3) ?hd (cs := #[.int .i64 a, .int .i64 b]) (t := 29) ?hr ?_; (case hd => rfl); (case hg => rfl); (case hr => first | (go_simp; done) | (go_simp; rfl)); intro gl hgl w1 hbox hbw; have HL1 := Aside0.mk hbox; have HB1 := Aside0.mk hbw; clear hgl hbox hbw))
      | ((with_reducible refine gate_dst (N := 4) rfl ?_); go_loud (refine box_event ?hg (N := 4) ?hd (cs := #[.int .i64 c0, .int .i64 c1, .int .i64 c2]) (t := 31) ?hr ?_; (case hd => rfl); (case hg => rfl); (case hr => first | (go_simp; done) | (go_simp; rfl)); intro gc hgc w2 hbox hbw; have HC2 := Aside0.mk hbox; have HGC : Aside0 (w.heap.size ≤ gc) := ⟨(by rw [hgc]; exact HB1.out.size)⟩; have HL2 := Aside0.mk (blk_below HL1.out hbw); have HB2 := Aside0.mk (below_step HB1.out hbw); clear hgc hbox hbw; have hl0 : w2.cell? ⟨gl, 0, none⟩ = some (.int .i64 a) := (blk_cell HL2.out 0).trans rfl; have hl1 : w2.cell? ⟨gl, 1, none⟩ = some (.int .i64 b) := (blk_cell HL2.out 1).trans rfl; have hc0 : w2.cell? ⟨gc, 0, none⟩ = some (.int .i64 c0) := (blk_cell HC2.out 0).trans rfl; have hc1 : w2.cell? ⟨gc, 1, none⟩ = some (.int .i64 c1) := (blk_cell HC2.out 1).trans rfl; have hc2 : w2.cell? ⟨gc, 2, none⟩ = some (.int .i64 c2) := (blk_cell HC2.out 2).trans rfl))
      | (go_at_call 11; go_loud ((with_reducible refine (spec_l05Is.calls a b c0 c1 c2 false _ HV.out).mono ?_); rintro e w3 ⟨rfl, hb3⟩; have HL3 := Aside0.mk (blk_below HL2.out hb3); have HC3 := Aside0.mk (blk_below HC2.out hb3); have HB3 := Aside0.mk (below_step HB2.out hb3); clear hb3; have hl30 : w3.cell? ⟨gl, 0, none⟩ = some (.int .i64 a) := (blk_cell HL3.out 0).trans rfl; have hl31 : w3.cell? ⟨gl, 1, none⟩ = some (.int .i64 b) := (blk_cell HL3.out 1).trans rfl; have hc30 : w3.cell? ⟨gc, 0, none⟩ = some (.int .i64 c0) := (blk_cell HC3.out 0).trans rfl; have hc31 : w3.cell? ⟨gc, 1, none⟩ = some (.int .i64 c1) := (blk_cell HC3.out 1).trans rfl; have hc32 : w3.cell? ⟨gc, 2, none⟩ = some (.int .i64 c2) := (blk_cell HC3.out 2).trans rfl)))
    go_ret3
    rw [HF.out]
    exact ⟨_, rfl, Kd.R_nil _ _ _ _ _, by repeat (first | exact HB3.out | apply pw_below_drewN | apply below_drew1)⟩
  | true =>
    obtain ⟨ha, hb, hi⟩ := svalid hv
    rw [if_pos rfl] at h
    by_cases hk : 0 ≤ k ∧ k ≤ 8
    · rw [if_pos hk] at h
      have HK : Aside0 (spec_l00In.f k 0 8 = some true) := ⟨by rw [cin_eq, decide_eq_true hk]⟩
      have hck := costs_ok (b := b) ha hk
      unfold ansC at h
      have hcosts := costs_calls a b k ha hb hk
      obtain ⟨D, hD⟩ : ∃ D, D = costsP a b k := ⟨_, rfl⟩
      rw [← hD] at h hck hcosts
      have HCOST := Aside0.mk hcosts
      have HCK := Aside0.mk hck
      obtain ⟨t, ht⟩ : ∃ t, t = rd (rdL D k) (spotZ ⟨c0, c1, c2⟩) := ⟨_, rfl⟩
      have HT := Aside0.mk ht
      rw [← ht] at h
      obtain ⟨RR, hR⟩ : ∃ RR, RR = planC D a b k.toNat k ⟨c0, c1, c2⟩ [] := ⟨_, rfl⟩
      rw [← hR] at h
      have HRR := Aside0.mk hR
      obtain ⟨q, hq⟩ : ∃ q, q = spotZ ⟨c0, c1, c2⟩ := ⟨_, rfl⟩
      have HSP : Aside0 (spec_l05Spot.f c0 c1 c2 = some q) := ⟨by rw [hq]; exact cspot_eq ha hi⟩
      have hqb := spotZ_le ha.2 hi
      rw [← hq] at hqb ht
      have HTQ := Aside0.mk ht
      have htb := (hck.2 k hk.1 (Int.le_refl k)).2 q
      rw [← ht] at htb
      have hlen := (hck.2 k hk.1 (Int.le_refl k)).1
      have p7t : (0 ≤ q) = True := eq_true hqb.1
      have q7t : (q < ((rdL D k).length : Int)) = True := eq_true (by rw [hlen]; exact hqb.2)
      have p8t : (0 ≤ k) = True := eq_true hk.1
      have q8t : (k < (D.length : Int)) = True := eq_true (by rw [hck.1]; omega)
      have hwt : wrap64 (t - 1) = t - 1 := cw64 (by omega)
      have HA := Aside0.mk ha
      have HBb := Aside0.mk hb
      have HKK := Aside0.mk hk
      have HINS := Aside0.mk hi
      clear hck hcosts hD ht hR hq hqb htb hlen hv ha hb hk hi
      have NEXT : Aside0 True := ⟨trivial⟩
      by_cases ht0 : t = 0
      · have htz : (t == 0) = true := by rw [ht0]; rfl
        rw [if_pos ht0] at h
        simp only [Option.some.injEq, Prod.mk.injEq] at h
        obtain ⟨rfl, rfl, rfl⟩ := h
        clear ht0
        go_enter Try.func4, Try.ntmps4
        go_wp2_with (first
          | ((with_reducible refine gate_dst (N := 3) rfl ?_); go_loud (refine box_event ?hg (N := 3) ?hd (cs := #[.int .i64 a, .int .i64 b]) (t := 29) ?hr ?_; (case hd => rfl); (case hg => rfl); (case hr => first | (go_simp; done) | (go_simp; rfl)); intro gl hgl w1 hbox hbw; have HL1 := Aside0.mk hbox; have HB1 := Aside0.mk hbw; clear hgl hbox hbw))
          | ((with_reducible refine gate_dst (N := 4) rfl ?_); go_loud (refine box_event ?hg (N := 4) ?hd (cs := #[.int .i64 c0, .int .i64 c1, .int .i64 c2]) (t := 31) ?hr ?_; (case hd => rfl); (case hg => rfl); (case hr => first | (go_simp; done) | (go_simp; rfl)); intro gc hgc w2 hbox hbw; have HC2 := Aside0.mk hbox; have HGC : Aside0 (w.heap.size ≤ gc) := ⟨(by rw [hgc]; exact HB1.out.size)⟩; have HL2 := Aside0.mk (blk_below HL1.out hbw); have HB2 := Aside0.mk (below_step HB1.out hbw); clear hgc hbox hbw; have hl0 : w2.cell? ⟨gl, 0, none⟩ = some (.int .i64 a) := (blk_cell HL2.out 0).trans rfl; have hl1 : w2.cell? ⟨gl, 1, none⟩ = some (.int .i64 b) := (blk_cell HL2.out 1).trans rfl; have hc0 : w2.cell? ⟨gc, 0, none⟩ = some (.int .i64 c0) := (blk_cell HC2.out 0).trans rfl; have hc1 : w2.cell? ⟨gc, 1, none⟩ = some (.int .i64 c1) := (blk_cell HC2.out 1).trans rfl; have hc2 : w2.cell? ⟨gc, 2, none⟩ = some (.int .i64 c2) := (blk_cell HC2.out 2).trans rfl))
          | (go_at_call 11; go_loud ((with_reducible refine (spec_l05Is.calls a b c0 c1 c2 true _ HV.out).mono ?_); rintro e w3 ⟨rfl, hb3⟩; have HL3 := Aside0.mk (blk_below HL2.out hb3); have HC3 := Aside0.mk (blk_below HC2.out hb3); have HB3 := Aside0.mk (below_step HB2.out hb3); clear hb3; have hl30 : w3.cell? ⟨gl, 0, none⟩ = some (.int .i64 a) := (blk_cell HL3.out 0).trans rfl; have hl31 : w3.cell? ⟨gl, 1, none⟩ = some (.int .i64 b) := (blk_cell HL3.out 1).trans rfl; have hc30 : w3.cell? ⟨gc, 0, none⟩ = some (.int .i64 c0) := (blk_cell HC3.out 0).trans rfl; have hc31 : w3.cell? ⟨gc, 1, none⟩ = some (.int .i64 c1) := (blk_cell HC3.out 1).trans rfl; have hc32 : w3.cell? ⟨gc, 2, none⟩ = some (.int .i64 c2) := (blk_cell HC3.out 2).trans rfl))
          | (go_at_call 12; go_loud ((with_reducible refine (spec_l00In.calls k 0 8 true _ HK.out).mono ?_); rintro e w' ⟨rfl, ⟨nd, rfl⟩⟩))
          | (go_at_call 13; go_loud ((with_reducible refine (HCOST.out _).mono ?_); rintro e w4 ⟨v28, rfl, hn4, hb4⟩; obtain ⟨A28, c28, e28⟩ := Kd.N_slice hn4; subst e28; have hb5 := below_step (pw_below_drewN (Below.refl _ w3) nd) hb4; have HS4 : Aside0 (PC w a b gl gc w4.heap.size (.slice A28 D.length c28) D ⟨c0, c1, c2⟩ (.slice none 0 0) [] w4) := ⟨⟨Kd.N_mono (Kd.N_bound (Kd.N_lower hn4 (pw_below_drewN HB3.out nd).size)) (fun k hk => ⟨Nat.lt_of_lt_of_le (blk_lt (blk_drewN HC3.out nd)) hk.1, hk.2⟩), blk_below HL3.out hb5, blk_below HC3.out hb5, Kd.R_nil _ _ _ _ _, below_step HB3.out hb5, HGC.out, blk_lt (blk_below HL3.out hb5), blk_lt (blk_below HC3.out hb5), Nat.le_refl _⟩⟩; clear hn4 hb4 hb5)))
        have HS5 := Aside0.mk (HS4.out.below (below_drew (Below.refl _ _)))
        clear HS4
        generalize hw4 : w4.drew = w5 at HS5
        obtain ⟨adL, A0, cL, eL, hcl, hC0⟩ := at_LL (Kd.N_reads' HS5.out.out).2.2 k (of_eq_true p8t) (of_eq_true q8t)
        subst eL
        obtain ⟨adP, eP, hxp⟩ := Kd.at_int hC0 q (of_eq_true p7t) (of_eq_true q7t)
        subst eP
        rw [← HTQ.out] at hxp
        refine start_ (n := 9) (S := fun w' => w'.cell? (adL.add k.toNat) = some (.slice (some adP) (rdL D k).length cL) ∧ w'.cell? (adP.add q.toNat) = some (.int .i64 t) ∧ w'.cell? ⟨gc, 0, none⟩ = some (.int .i64 c0) ∧ w'.cell? ⟨gc, 1, none⟩ = some (.int .i64 c1) ∧ w'.cell? ⟨gc, 2, none⟩ = some (.int .i64 c2)) (ds := []) #[false, false, false, false, false, false, false, false, false] (by kernel_rfl) rfl rfl (by rw [hw4]; exact ⟨hcl, hxp, (blk_cell HS5.out.cur 0).trans rfl, (blk_cell HS5.out.cur 1).trans rfl, (blk_cell HS5.out.cur 2).trans rfl⟩) (fun hHeld => ?_)
        refine with_tabW specS_tab4 specS_bits4 (fun HT_ HW_ => ?_)
        rw [hw4] at hHeld ⊢
        clear hw4
        refine pure_ (i := 0) (N := some 29) (v := ?_) (a' := ?_) #[true, false, false, false, false, false, false, false, false] rfl rfl (any_of HT_.out (by kernel_rfl)) (fun _ _ _ h => h) (Or.inl ⟨by rfl, ?_⟩) ?_ ?_
        rotate_left
        · intro w'
          go_simp
          with_reducible rfl
        rotate_left
        · simp only [Act.put, List.setIfInBounds_toArray, List.set_cons_zero, List.set_cons_succ, i64_w, i32_w]
          rfl
        refine pure_ (i := 1) (N := some 30) (v := ?_) (a' := ?_) #[true, true, false, false, false, false, false, false, false] rfl rfl (any_of HT_.out (by kernel_rfl)) (fun _ _ _ h => h) (Or.inl ⟨by rfl, ?_⟩) ?_ ?_
        rotate_left
        · intro w'
          go_simp
          with_reducible rfl
        rotate_left
        · simp only [Act.put, List.setIfInBounds_toArray, List.set_cons_zero, List.set_cons_succ, i64_w, i32_w]
          rfl
        refine pure_ (i := 2) (N := some 31) (v := ?_) (a' := ?_) #[true, true, true, false, false, false, false, false, false] rfl rfl (any_of HT_.out (by kernel_rfl)) (fun _ _ _ h => h) (Or.inl ⟨by rfl, ?_⟩) ?_ ?_
        rotate_left
        · intro w'
          go_simp
          with_reducible rfl
        rotate_left
        · simp only [Act.put, List.setIfInBounds_toArray, List.set_cons_zero, List.set_cons_succ, i64_w, i32_w]
          rfl
        refine take_ (i := 3) (N := some 32) (v := ?_) (a' := ?_) #[true, true, true, true, false, false, false, false, false] rfl rfl (take_ofW HT_.out HW_.out (by kernel_rfl)) (fun _ _ _ h => h) (Or.inl ⟨by rfl, ?_⟩) hHeld ?_ ?_
        rotate_left
        · rintro w' ⟨s0, s1, s2_, s3, s4⟩
          go_simp
          with_reducible rfl
        rotate_left
        · simp only [Act.put, List.setIfInBounds_toArray, List.set_cons_zero, List.set_cons_succ, i64_w, i32_w]
          rfl
        refine take_ (i := 4) (N := some 33) (v := ?_) (a' := ?_) #[true, true, true, true, true, false, false, false, false] rfl rfl (take_ofW HT_.out HW_.out (by kernel_rfl)) (fun _ _ _ h => h) (Or.inl ⟨by rfl, ?_⟩) hHeld ?_ ?_
        rotate_left
        · rintro w' ⟨s0, s1, s2_, s3, s4⟩
          go_simp
          with_reducible rfl
        rotate_left
        · simp only [Act.put, List.setIfInBounds_toArray, List.set_cons_zero, List.set_cons_succ, i64_w, i32_w]
          rfl
        refine one_ (i := 5) (N := some 34) #[true, true, true, true, true, true, false, false, false] rfl rfl (one_of HT_.out (by kernel_rfl)) (by decide) (fun K hK => ?_)
        refine goes_ Try.func14 (by kernel_rfl) rfl #[.agg #[.int .i64 c0, .int .i64 c1, .int .i64 c2]] (by rfl) rfl rfl (by (try simp only [List.map_toArray, List.map_cons, List.map_nil]); first | done | rfl | (simp only [List.length_drop, List.length_take]; rfl)) ?_
        refine (spec_l05Spot.calls c0 c1 c2 q _ HSP.out).mono ?_
        rintro e w6 ⟨rfl, hb⟩
        refine ⟨_, rfl, ?_⟩
        have HS6 := Aside0.mk (HS5.out.below hb)
        have hcl1 := pw_cell_below hb hcl
        have hxp1 := pw_cell_below hb hxp
        clear hb hcl hxp hC0 HS5
        refine hK.out _ _ ⟨hcl1, hxp1, (blk_cell HS6.out.cur 0).trans rfl, (blk_cell HS6.out.cur 1).trans rfl, (blk_cell HS6.out.cur 2).trans rfl⟩ (fun hHeld => ?_)
        clear hK K
        refine norm_ (a' := ?_) ?_ ?_
        rotate_left
        · show Act.put _ (some 34) _ = _
          simp only [Act.put, List.setIfInBounds_toArray, List.set_cons_zero, List.set_cons_succ, i64_w, i32_w]
          rfl
        refine pure_ (i := 6) (N := some 35) (v := ?_) (a' := ?_) #[true, true, true, true, true, true, true, false, false] rfl rfl (any_of HT_.out (by kernel_rfl)) (fun _ _ _ h => h) (Or.inl ⟨by rfl, ?_⟩) ?_ ?_
        rotate_left
        · intro w'
          go_simp
          with_reducible rfl
        rotate_left
        · simp only [Act.put, List.setIfInBounds_toArray, List.set_cons_zero, List.set_cons_succ, i64_w, i32_w]
          rfl
        refine take_ (i := 7) (N := some 36) (v := ?_) (a' := ?_) #[true, true, true, true, true, true, true, true, false] rfl rfl (take_ofW HT_.out HW_.out (by kernel_rfl)) (fun _ _ _ h => h) (Or.inl ⟨by rfl, ?_⟩) hHeld ?_ ?_
        rotate_left
        · rintro w' ⟨s0, s1, s2_, s3, s4⟩
          go_simp
          with_reducible rfl
        rotate_left
        · simp only [Act.put, List.setIfInBounds_toArray, List.set_cons_zero, List.set_cons_succ, i64_w, i32_w]
          rfl
        refine pure_ (i := 8) (N := some 10) (v := ?_) (a' := ?_) #[true, true, true, true, true, true, true, true, true] rfl rfl (any_of HT_.out (by kernel_rfl)) (fun _ _ _ h => h) (Or.inl ⟨by rfl, ?_⟩) ?_ ?_
        rotate_left
        · intro w'
          go_simp
          with_reducible rfl
        rotate_left
        · simp only [Act.put, List.setIfInBounds_toArray, List.set_cons_zero, List.set_cons_succ, i64_w, i32_w]
          rfl
        refine done_ (done_of HT_.out (by kernel_rfl)) ?_
        clear hHeld hcl1 hxp1
        go_wp2
        go_ret3
        rw [HF.out]
        exact ⟨_, rfl, Kd.R_nil _ _ _ _ _, by repeat (first | exact HS6.out.made | apply pw_below_drewN | apply below_drew1)⟩
      · have htz : (t == 0) = false := beq_eq_false_iff_ne.2 ht0
        rw [if_neg ht0] at h
        simp only [Option.some.injEq, Prod.mk.injEq] at h
        obtain ⟨rfl, rfl, rfl⟩ := h
        clear ht0
        go_enter Try.func4, Try.ntmps4
        go_wp2_with (first
          | ((with_reducible refine gate_dst (N := 3) rfl ?_); go_loud (refine box_event ?hg (N := 3) ?hd (cs := #[.int .i64 a, .int .i64 b]) (t := 29) ?hr ?_; (case hd => rfl); (case hg => rfl); (case hr => first | (go_simp; done) | (go_simp; rfl)); intro gl hgl w1 hbox hbw; have HL1 := Aside0.mk hbox; have HB1 := Aside0.mk hbw; clear hgl hbox hbw))
          | ((with_reducible refine gate_dst (N := 4) rfl ?_); go_loud (refine box_event ?hg (N := 4) ?hd (cs := #[.int .i64 c0, .int .i64 c1, .int .i64 c2]) (t := 31) ?hr ?_; (case hd => rfl); (case hg => rfl); (case hr => first | (go_simp; done) | (go_simp; rfl)); intro gc hgc w2 hbox hbw; have HC2 := Aside0.mk hbox; have HGC : Aside0 (w.heap.size ≤ gc) := ⟨(by rw [hgc]; exact HB1.out.size)⟩; have HL2 := Aside0.mk (blk_below HL1.out hbw); have HB2 := Aside0.mk (below_step HB1.out hbw); clear hgc hbox hbw; have hl0 : w2.cell? ⟨gl, 0, none⟩ = some (.int .i64 a) := (blk_cell HL2.out 0).trans rfl; have hl1 : w2.cell? ⟨gl, 1, none⟩ = some (.int .i64 b) := (blk_cell HL2.out 1).trans rfl; have hc0 : w2.cell? ⟨gc, 0, none⟩ = some (.int .i64 c0) := (blk_cell HC2.out 0).trans rfl; have hc1 : w2.cell? ⟨gc, 1, none⟩ = some (.int .i64 c1) := (blk_cell HC2.out 1).trans rfl; have hc2 : w2.cell? ⟨gc, 2, none⟩ = some (.int .i64 c2) := (blk_cell HC2.out 2).trans rfl))
          | (go_at_call 11; go_loud ((with_reducible refine (spec_l05Is.calls a b c0 c1 c2 true _ HV.out).mono ?_); rintro e w3 ⟨rfl, hb3⟩; have HL3 := Aside0.mk (blk_below HL2.out hb3); have HC3 := Aside0.mk (blk_below HC2.out hb3); have HB3 := Aside0.mk (below_step HB2.out hb3); clear hb3; have hl30 : w3.cell? ⟨gl, 0, none⟩ = some (.int .i64 a) := (blk_cell HL3.out 0).trans rfl; have hl31 : w3.cell? ⟨gl, 1, none⟩ = some (.int .i64 b) := (blk_cell HL3.out 1).trans rfl; have hc30 : w3.cell? ⟨gc, 0, none⟩ = some (.int .i64 c0) := (blk_cell HC3.out 0).trans rfl; have hc31 : w3.cell? ⟨gc, 1, none⟩ = some (.int .i64 c1) := (blk_cell HC3.out 1).trans rfl; have hc32 : w3.cell? ⟨gc, 2, none⟩ = some (.int .i64 c2) := (blk_cell HC3.out 2).trans rfl))
          | (go_at_call 12; go_loud ((with_reducible refine (spec_l00In.calls k 0 8 true _ HK.out).mono ?_); rintro e w' ⟨rfl, ⟨nd, rfl⟩⟩))
          | (go_at_call 13; go_loud ((with_reducible refine (HCOST.out _).mono ?_); rintro e w4 ⟨v28, rfl, hn4, hb4⟩; obtain ⟨A28, c28, e28⟩ := Kd.N_slice hn4; subst e28; have hb5 := below_step (pw_below_drewN (Below.refl _ w3) nd) hb4; have HS4 : Aside0 (PC w a b gl gc w4.heap.size (.slice A28 D.length c28) D ⟨c0, c1, c2⟩ (.slice none 0 0) [] w4) := ⟨⟨Kd.N_mono (Kd.N_bound (Kd.N_lower hn4 (pw_below_drewN HB3.out nd).size)) (fun k hk => ⟨Nat.lt_of_lt_of_le (blk_lt (blk_drewN HC3.out nd)) hk.1, hk.2⟩), blk_below HL3.out hb5, blk_below HC3.out hb5, Kd.R_nil _ _ _ _ _, below_step HB3.out hb5, HGC.out, blk_lt (blk_below HL3.out hb5), blk_lt (blk_below HC3.out hb5), Nat.le_refl _⟩⟩; clear hn4 hb4 hb5)))
        have HS5 := Aside0.mk (HS4.out.below (below_drew (Below.refl _ _)))
        clear HS4
        generalize hw4 : w4.drew = w5 at HS5
        obtain ⟨adL, A0, cL, eL, hcl, hC0⟩ := at_LL (Kd.N_reads' HS5.out.out).2.2 k (of_eq_true p8t) (of_eq_true q8t)
        subst eL
        obtain ⟨adP, eP, hxp⟩ := Kd.at_int hC0 q (of_eq_true p7t) (of_eq_true q7t)
        subst eP
        rw [← HTQ.out] at hxp
        refine start_ (n := 9) (S := fun w' => w'.cell? (adL.add k.toNat) = some (.slice (some adP) (rdL D k).length cL) ∧ w'.cell? (adP.add q.toNat) = some (.int .i64 t) ∧ w'.cell? ⟨gc, 0, none⟩ = some (.int .i64 c0) ∧ w'.cell? ⟨gc, 1, none⟩ = some (.int .i64 c1) ∧ w'.cell? ⟨gc, 2, none⟩ = some (.int .i64 c2)) (ds := []) #[false, false, false, false, false, false, false, false, false] (by kernel_rfl) rfl rfl (by rw [hw4]; exact ⟨hcl, hxp, (blk_cell HS5.out.cur 0).trans rfl, (blk_cell HS5.out.cur 1).trans rfl, (blk_cell HS5.out.cur 2).trans rfl⟩) (fun hHeld => ?_)
        refine with_tabW specS_tab4 specS_bits4 (fun HT_ HW_ => ?_)
        rw [hw4] at hHeld ⊢
        clear hw4
        refine pure_ (i := 0) (N := some 29) (v := ?_) (a' := ?_) #[true, false, false, false, false, false, false, false, false] rfl rfl (any_of HT_.out (by kernel_rfl)) (fun _ _ _ h => h) (Or.inl ⟨by rfl, ?_⟩) ?_ ?_
        rotate_left
        · intro w'
          go_simp
          with_reducible rfl
        rotate_left
        · simp only [Act.put, List.setIfInBounds_toArray, List.set_cons_zero, List.set_cons_succ, i64_w, i32_w]
          rfl
        refine pure_ (i := 1) (N := some 30) (v := ?_) (a' := ?_) #[true, true, false, false, false, false, false, false, false] rfl rfl (any_of HT_.out (by kernel_rfl)) (fun _ _ _ h => h) (Or.inl ⟨by rfl, ?_⟩) ?_ ?_
        rotate_left
        · intro w'
          go_simp
          with_reducible rfl
        rotate_left
        · simp only [Act.put, List.setIfInBounds_toArray, List.set_cons_zero, List.set_cons_succ, i64_w, i32_w]
          rfl
        refine pure_ (i := 2) (N := some 31) (v := ?_) (a' := ?_) #[true, true, true, false, false, false, false, false, false] rfl rfl (any_of HT_.out (by kernel_rfl)) (fun _ _ _ h => h) (Or.inl ⟨by rfl, ?_⟩) ?_ ?_
        rotate_left
        · intro w'
          go_simp
          with_reducible rfl
        rotate_left
        · simp only [Act.put, List.setIfInBounds_toArray, List.set_cons_zero, List.set_cons_succ, i64_w, i32_w]
          rfl
        refine take_ (i := 3) (N := some 32) (v := ?_) (a' := ?_) #[true, true, true, true, false, false, false, false, false] rfl rfl (take_ofW HT_.out HW_.out (by kernel_rfl)) (fun _ _ _ h => h) (Or.inl ⟨by rfl, ?_⟩) hHeld ?_ ?_
        rotate_left
        · rintro w' ⟨s0, s1, s2_, s3, s4⟩
          go_simp
          with_reducible rfl
        rotate_left
        · simp only [Act.put, List.setIfInBounds_toArray, List.set_cons_zero, List.set_cons_succ, i64_w, i32_w]
          rfl
        refine take_ (i := 4) (N := some 33) (v := ?_) (a' := ?_) #[true, true, true, true, true, false, false, false, false] rfl rfl (take_ofW HT_.out HW_.out (by kernel_rfl)) (fun _ _ _ h => h) (Or.inl ⟨by rfl, ?_⟩) hHeld ?_ ?_
        rotate_left
        · rintro w' ⟨s0, s1, s2_, s3, s4⟩
          go_simp
          with_reducible rfl
        rotate_left
        · simp only [Act.put, List.setIfInBounds_toArray, List.set_cons_zero, List.set_cons_succ, i64_w, i32_w]
          rfl
        refine one_ (i := 5) (N := some 34) #[true, true, true, true, true, true, false, false, false] rfl rfl (one_of HT_.out (by kernel_rfl)) (by decide) (fun K hK => ?_)
        refine goes_ Try.func14 (by kernel_rfl) rfl #[.agg #[.int .i64 c0, .int .i64 c1, .int .i64 c2]] (by rfl) rfl rfl (by (try simp only [List.map_toArray, List.map_cons, List.map_nil]); first | done | rfl | (simp only [List.length_drop, List.length_take]; rfl)) ?_
        refine (spec_l05Spot.calls c0 c1 c2 q _ HSP.out).mono ?_
        rintro e w6 ⟨rfl, hb⟩
        refine ⟨_, rfl, ?_⟩
        have HS6 := Aside0.mk (HS5.out.below hb)
        have hcl1 := pw_cell_below hb hcl
        have hxp1 := pw_cell_below hb hxp
        clear hb hcl hxp hC0 HS5
        refine hK.out _ _ ⟨hcl1, hxp1, (blk_cell HS6.out.cur 0).trans rfl, (blk_cell HS6.out.cur 1).trans rfl, (blk_cell HS6.out.cur 2).trans rfl⟩ (fun hHeld => ?_)
        clear hK K
        refine norm_ (a' := ?_) ?_ ?_
        rotate_left
        · show Act.put _ (some 34) _ = _
          simp only [Act.put, List.setIfInBounds_toArray, List.set_cons_zero, List.set_cons_succ, i64_w, i32_w]
          rfl
        refine pure_ (i := 6) (N := some 35) (v := ?_) (a' := ?_) #[true, true, true, true, true, true, true, false, false] rfl rfl (any_of HT_.out (by kernel_rfl)) (fun _ _ _ h => h) (Or.inl ⟨by rfl, ?_⟩) ?_ ?_
        rotate_left
        · intro w'
          go_simp
          with_reducible rfl
        rotate_left
        · simp only [Act.put, List.setIfInBounds_toArray, List.set_cons_zero, List.set_cons_succ, i64_w, i32_w]
          rfl
        refine take_ (i := 7) (N := some 36) (v := ?_) (a' := ?_) #[true, true, true, true, true, true, true, true, false] rfl rfl (take_ofW HT_.out HW_.out (by kernel_rfl)) (fun _ _ _ h => h) (Or.inl ⟨by rfl, ?_⟩) hHeld ?_ ?_
        rotate_left
        · rintro w' ⟨s0, s1, s2_, s3, s4⟩
          go_simp
          with_reducible rfl
        rotate_left
        · simp only [Act.put, List.setIfInBounds_toArray, List.set_cons_zero, List.set_cons_succ, i64_w, i32_w]
          rfl
        refine pure_ (i := 8) (N := some 10) (v := ?_) (a' := ?_) #[true, true, true, true, true, true, true, true, true] rfl rfl (any_of HT_.out (by kernel_rfl)) (fun _ _ _ h => h) (Or.inl ⟨by rfl, ?_⟩) ?_ ?_
        rotate_left
        · intro w'
          go_simp
          with_reducible rfl
        rotate_left
        · simp only [Act.put, List.setIfInBounds_toArray, List.set_cons_zero, List.set_cons_succ, i64_w, i32_w]
          rfl
        refine done_ (done_of HT_.out (by kernel_rfl)) ?_
        clear hHeld hcl1 hxp1
        have HGL : Aside0 (gl < w4.heap.size) := ⟨HS6.out.ord.2.1⟩
        go_wp2_with (first
          | ((with_reducible refine gate_dst (N := 39) rfl ?_); go_loud (refine Kd.R_lit (Kd.int .i64) (w0 := w6) w6.heap.size 2 ?hg (N := 39) ?hd (xs := ([] : List Int)) (inner := []) (ok := fun k => w6.heap.size ≤ k) (okp := fun _ => False) ?hr ?hp (fun _ hk => hk.elim) (Nat.le_refl _) (Below.refl _ _) (Nat.le_refl _) (by simp) ?_; (case hd => rfl); (case hg => rfl); (case hr => first | (go_simp; done) | (go_simp; rfl)); (case hp => exact Reps.none _ _); intro v39 w7 ho hbw hg_ hnew_; have HS7 : Aside0 (PC w a b gl gc w4.heap.size (.slice (some adL) D.length c28) D ⟨c0, c1, c2⟩ v39 [] w7) := ⟨(HS6.out.below hbw).out, (HS6.out.below hbw).box, (HS6.out.below hbw).cur, Kd.R_mono (Kd.R_lower ho HS6.out.size) (fun k hk => Nat.le_trans HS6.out.ord.2.2.2 hk), (HS6.out.below hbw).made, (HS6.out.below hbw).ord⟩; clear ho hbw hg_ hnew_)))
        clear HS6 hl0 hl1 hc0 hc1 hc2 hl30 hl31 hc30 hc31 hc32
        generalize w4.heap.size = B4 at HS7
        go_loopg [11, 12] k.toNat (fun gg v11 v12 w' => ∃ (m : Int) (c : S31) (acc : List Int), v12 = .int .i64 m ∧ Aside0 (0 ≤ m ∧ m ≤ k ∧ m.toNat ≤ gg) ∧ Aside0 (insS a c = true) ∧ Aside0 ((acc.length : Int) + m ≤ k) ∧ Aside0 (planC D a b m.toNat m c acc = RR) ∧ Aside0 (PC w a b gl gc B4 (.slice (some adL) D.length c28) D c v11 acc w'))
        case atStart => exact ⟨k, ⟨c0, c1, c2⟩, [], rfl, ⟨HKK.out.1, Int.le_refl k, Nat.le_refl _⟩, HINS, ⟨by simp⟩, ⟨HRR.out.symm⟩, HS7⟩
        case round =>
          clear HS7
          obtain ⟨m, c, acc, rfl, HM, HC, HAL, HPL, HS⟩ := hrel
          by_cases hm : 0 < m
          · obtain ⟨FO, hFO⟩ : ∃ FO, FO = findC D a b m c (2 * a + 1).toNat (-a) := ⟨_, rfl⟩
            have hp := HPL.out
            rw [show m.toNat = (m - 1).toNat + 1 from by omega, planC, ← hFO] at hp
            have HP2 := Aside0.mk hp
            have HFO := Aside0.mk hFO
            have hwm : wrap64 (m - 1) = m - 1 := cw64 (by have := HM.out; have := HKK.out; omega)
            have hwa : wrap64 (-a) = -a := cw64 (by have := HA.out; omega)
            clear hp hFO HPL
            obtain ⟨c0', c1', c2'⟩ := c
            have hl0 : wr.cell? ⟨gl, 0, none⟩ = some (.int .i64 a) := (blk_cell HS.out.box 0).trans rfl
            go_wp2
            try simp only [hwa]
            clear hl0
            go_loopg [11, 13] (2 * a + 1).toNat (fun gg v11 v13 w' => ∃ (u : Int), v13 = .int .i64 u ∧ Aside0 (-a ≤ u ∧ u ≤ a + 1 ∧ (a + 1 - u).toNat ≤ gg) ∧ Aside0 (findC D a b m ⟨c0', c1', c2'⟩ (a + 1 - u).toNat u = FO) ∧ Aside0 (PC w a b gl gc B4 (.slice (some adL) D.length c28) D ⟨c0', c1', c2'⟩ v11 acc w'))
            case atStart => exact ⟨-a, rfl, ⟨by have := HA.out; omega, by have := HA.out; omega, by omega⟩, ⟨by rw [HFO.out, show (a + 1 - -a).toNat = (2 * a + 1).toNat from by omega]⟩, HS⟩
            case round =>
              clear HS
              obtain ⟨u, rfl, HU, HFD, HS⟩ := hrel
              have hl0 : wr.cell? ⟨gl, 0, none⟩ = some (.int .i64 a) := (blk_cell HS.out.box 0).trans rfl
              have hl1 : wr.cell? ⟨gl, 1, none⟩ = some (.int .i64 b) := (blk_cell HS.out.box 1).trans rfl
              by_cases hu : u ≤ a
              · have hc0 : wr.cell? ⟨gc, 0, none⟩ = some (.int .i64 c0') := (blk_cell HS.out.cur 0).trans rfl
                have hc1 : wr.cell? ⟨gc, 1, none⟩ = some (.int .i64 c1') := (blk_cell HS.out.cur 1).trans rfl
                have hc2 : wr.cell? ⟨gc, 2, none⟩ = some (.int .i64 c2') := (blk_cell HS.out.cur 2).trans rfl
                have hfd := HFD.out
                rw [findC_step D a b m _ u hu] at hfd
                have HFD2 := Aside0.mk hfd
                have hu0 : -a ≤ u := HU.out.1
                have hwu : wrap64 (u + 1) = u + 1 := cw64 (by have := HA.out; omega)
                obtain ⟨k0, k1, k2⟩ := insS_iff.1 HC.out
                simp only at k0 k1 k2
                obtain ⟨dd, hdd⟩ : ∃ dd : Int, dd = u - c2' := ⟨_, rfl⟩
                have hd6 : -6 ≤ dd ∧ dd ≤ 6 := by have := HA.out; omega
                obtain ⟨qq, hqq⟩ : ∃ qq : Int, qq = dd * dd := ⟨_, rfl⟩
                have hq36 := square_le hd6
                rw [← hqq] at hq36
                have hw1 : wrap64 (u - c2') = dd := by rw [hdd]; exact cw64 (by omega)
                have hw2 : wrap64 (dd * dd) = qq := by rw [← hqq]; exact cw64 (by omega)
                have hnx := snextTo HA.out HBb.out HC.out ⟨hu0, hu⟩ 0
                have HQQ : Aside0 (qq = (u - c2') * (u - c2')) := ⟨by rw [hqq, hdd]⟩
                have HQ36 := Aside0.mk hq36
                clear hfd k0 k1 k2 hdd hd6 hqq hq36 HFD
                cases hok : okTo a b ⟨c0', c1', c2'⟩ u with
                | false =>
                  rw [if_neg (by rw [hok]; decide)] at hnx
                  have HNX := Aside0.mk hnx
                  have hfd := HFD2.out
                  rw [if_neg (by unfold hitC; rw [hok, Bool.false_and]; decide)] at hfd
                  have HFD3 := Aside0.mk hfd
                  clear hnx hfd hok
                  go_wp2_with (first
                    | (go_at_call 15; go_loud ((with_reducible refine (spec_l05Next.calls 1 a b c0' c1' c2' u 0 0 0 false _ HNX.out).mono ?_); rintro e w6 ⟨rfl, hb6⟩; have HS6 := Aside0.mk (HS.out.below hb6); clear hb6))
                    | ((with_reducible refine gate_dst (N := 63) rfl ?_); (with_reducible refine gen_box ?_); go_loud (intro w7 hbox hbw; have HX7 := Aside0.mk hbox; have HS7 := Aside0.mk (HS6.out.below hbw); clear hbox hbw; have hc70 : w7.cell? ⟨gc, 0, none⟩ = some (.int .i64 c0') := (blk_cell HS7.out.cur 0).trans rfl; have hc71 : w7.cell? ⟨gc, 1, none⟩ = some (.int .i64 c1') := (blk_cell HS7.out.cur 1).trans rfl; have hc72 : w7.cell? ⟨gc, 2, none⟩ = some (.int .i64 c2') := (blk_cell HS7.out.cur 2).trans rfl)))
                  refine start_ (n := 35) (S := fun w' => True) (ds := []) #[false, false, false, false, false, false, false, false, false, false, false, false, false, false, false, false, false, false, false, false, false, false, false, false, false, false, false, false, false, false, false, false, false, false, false] (by kernel_rfl) rfl rfl trivial (fun hHeld => ?_)
                  refine with_tabW specS_tab16 specS_bits16 (fun HT_ HW_ => ?_)
                  refine pure_ (i := 0) (N := some 70) (v := ?_) (a' := ?_) #[true, false, false, false, false, false, false, false, false, false, false, false, false, false, false, false, false, false, false, false, false, false, false, false, false, false, false, false, false, false, false, false, false, false, false] rfl rfl (any_of HT_.out (by kernel_rfl)) (fun _ _ _ h => h) (Or.inl ⟨by rfl, ?_⟩) ?_ ?_
                  rotate_left
                  · intro w'
                    go_simp
                    with_reducible rfl
                  rotate_left
                  · simp only [Act.put, List.setIfInBounds_toArray, List.set_cons_zero, List.set_cons_succ, i64_w, i32_w]
                    rfl
                  refine pure_ (i := 1) (N := some 71) (v := ?_) (a' := ?_) #[true, true, false, false, false, false, false, false, false, false, false, false, false, false, false, false, false, false, false, false, false, false, false, false, false, false, false, false, false, false, false, false, false, false, false] rfl rfl (any_of HT_.out (by kernel_rfl)) (fun _ _ _ h => h) (Or.inl ⟨by rfl, ?_⟩) ?_ ?_
                  rotate_left
                  · intro w'
                    go_simp
                    with_reducible rfl
                  rotate_left
                  · simp only [Act.put, List.setIfInBounds_toArray, List.set_cons_zero, List.set_cons_succ, i64_w, i32_w]
                    rfl
                  refine pure_ (i := 2) (N := some 72) (v := undef) (a' := ?_) #[true, true, true, false, false, false, false, false, false, false, false, false, false, false, false, false, false, false, false, false, false, false, false, false, false, false, false, false, false, false, false, false, false, false, false] rfl rfl (any_of HT_.out (by kernel_rfl)) (fun _ _ _ h => h) (Or.inr ⟨by rfl, rfl⟩) ?_ ?_
                  rotate_left
                  · simp only [Act.put, List.setIfInBounds_toArray, List.set_cons_zero, List.set_cons_succ, i64_w, i32_w]
                    rfl
                  refine pure_ (i := 3) (N := some 73) (v := undef) (a' := ?_) #[true, true, true, true, false, false, false, false, false, false, false, false, false, false, false, false, false, false, false, false, false, false, false, false, false, false, false, false, false, false, false, false, false, false, false] rfl rfl (any_of HT_.out (by kernel_rfl)) (fun _ _ _ h => h) (Or.inr ⟨by rfl, rfl⟩) ?_ ?_
                  rotate_left
                  · simp only [Act.put, List.setIfInBounds_toArray, List.set_cons_zero, List.set_cons_succ, i64_w, i32_w]
                    rfl
                  refine pure_ (i := 4) (N := some 74) (v := undef) (a' := ?_) #[true, true, true, true, true, false, false, false, false, false, false, false, false, false, false, false, false, false, false, false, false, false, false, false, false, false, false, false, false, false, false, false, false, false, false] rfl rfl (any_of HT_.out (by kernel_rfl)) (fun _ _ _ h => h) (Or.inr ⟨by rfl, rfl⟩) ?_ ?_
                  rotate_left
                  · simp only [Act.put, List.setIfInBounds_toArray, List.set_cons_zero, List.set_cons_succ, i64_w, i32_w]
                    rfl
                  refine pure_ (i := 5) (N := some 75) (v := undef) (a' := ?_) #[true, true, true, true, true, true, false, false, false, false, false, false, false, false, false, false, false, false, false, false, false, false, false, false, false, false, false, false, false, false, false, false, false, false, false] rfl rfl (any_of HT_.out (by kernel_rfl)) (fun _ _ _ h => h) (Or.inr ⟨by rfl, rfl⟩) ?_ ?_
                  rotate_left
                  · simp only [Act.put, List.setIfInBounds_toArray, List.set_cons_zero, List.set_cons_succ, i64_w, i32_w]
                    rfl
                  refine pure_ (i := 6) (N := some 76) (v := undef) (a' := ?_) #[true, true, true, true, true, true, true, false, false, false, false, false, false, false, false, false, false, false, false, false, false, false, false, false, false, false, false, false, false, false, false, false, false, false, false] rfl rfl (any_of HT_.out (by kernel_rfl)) (fun _ _ _ h => h) (Or.inr ⟨by rfl, rfl⟩) ?_ ?_
                  rotate_left
                  · simp only [Act.put, List.setIfInBounds_toArray, List.set_cons_zero, List.set_cons_succ, i64_w, i32_w]
                    rfl
                  refine pure_ (i := 7) (N := some 77) (v := undef) (a' := ?_) #[true, true, true, true, true, true, true, true, false, false, false, false, false, false, false, false, false, false, false, false, false, false, false, false, false, false, false, false, false, false, false, false, false, false, false] rfl rfl (any_of HT_.out (by kernel_rfl)) (fun _ _ _ h => h) (Or.inr ⟨by rfl, rfl⟩) ?_ ?_
                  rotate_left
                  · simp only [Act.put, List.setIfInBounds_toArray, List.set_cons_zero, List.set_cons_succ, i64_w, i32_w]
                    rfl
                  refine pure_ (i := 8) (N := some 78) (v := undef) (a' := ?_) #[true, true, true, true, true, true, true, true, true, false, false, false, false, false, false, false, false, false, false, false, false, false, false, false, false, false, false, false, false, false, false, false, false, false, false] rfl rfl (any_of HT_.out (by kernel_rfl)) (fun _ _ _ h => h) (Or.inr ⟨by rfl, rfl⟩) ?_ ?_
                  rotate_left
                  · simp only [Act.put, List.setIfInBounds_toArray, List.set_cons_zero, List.set_cons_succ, i64_w, i32_w]
                    rfl
                  refine pure_ (i := 9) (N := some 79) (v := undef) (a' := ?_) #[true, true, true, true, true, true, true, true, true, true, false, false, false, false, false, false, false, false, false, false, false, false, false, false, false, false, false, false, false, false, false, false, false, false, false] rfl rfl (any_of HT_.out (by kernel_rfl)) (fun _ _ _ h => h) (Or.inr ⟨by rfl, rfl⟩) ?_ ?_
                  rotate_left
                  · simp only [Act.put, List.setIfInBounds_toArray, List.set_cons_zero, List.set_cons_succ, i64_w, i32_w]
                    rfl
                  refine pure_ (i := 10) (N := some 80) (v := undef) (a' := ?_) #[true, true, true, true, true, true, true, true, true, true, true, false, false, false, false, false, false, false, false, false, false, false, false, false, false, false, false, false, false, false, false, false, false, false, false] rfl rfl (any_of HT_.out (by kernel_rfl)) (fun _ _ _ h => h) (Or.inr ⟨by rfl, rfl⟩) ?_ ?_
                  rotate_left
                  · simp only [Act.put, List.setIfInBounds_toArray, List.set_cons_zero, List.set_cons_succ, i64_w, i32_w]
                    rfl
                  refine pure_ (i := 11) (N := some 81) (v := undef) (a' := ?_) #[true, true, true, true, true, true, true, true, true, true, true, true, false, false, false, false, false, false, false, false, false, false, false, false, false, false, false, false, false, false, false, false, false, false, false] rfl rfl (any_of HT_.out (by kernel_rfl)) (fun _ _ _ h => h) (Or.inr ⟨by rfl, rfl⟩) ?_ ?_
                  rotate_left
                  · simp only [Act.put, List.setIfInBounds_toArray, List.set_cons_zero, List.set_cons_succ, i64_w, i32_w]
                    rfl
                  refine pure_ (i := 12) (N := some 82) (v := ?_) (a' := ?_) #[true, true, true, true, true, true, true, true, true, true, true, true, true, false, false, false, false, false, false, false, false, false, false, false, false, false, false, false, false, false, false, false, false, false, false] rfl rfl (any_of HT_.out (by kernel_rfl)) (fun _ _ _ h => h) (Or.inl ⟨by rfl, ?_⟩) ?_ ?_
                  rotate_left
                  · intro w'
                    go_simp
                    with_reducible rfl
                  rotate_left
                  · simp only [Act.put, List.setIfInBounds_toArray, List.set_cons_zero, List.set_cons_succ, i64_w, i32_w]
                    rfl
                  refine pure_ (i := 13) (N := some 83) (v := ?_) (a' := ?_) #[true, true, true, true, true, true, true, true, true, true, true, true, true, true, false, false, false, false, false, false, false, false, false, false, false, false, false, false, false, false, false, false, false, false, false] rfl rfl (any_of HT_.out (by kernel_rfl)) (fun _ _ _ h => h) (Or.inl ⟨by rfl, ?_⟩) ?_ ?_
                  rotate_left
                  · intro w'
                    go_simp
                    with_reducible rfl
                  rotate_left
                  · simp only [Act.put, List.setIfInBounds_toArray, List.set_cons_zero, List.set_cons_succ, i64_w, i32_w]
                    rfl
                  refine pure_ (i := 14) (N := some 84) (v := undef) (a' := ?_) #[true, true, true, true, true, true, true, true, true, true, true, true, true, true, true, false, false, false, false, false, false, false, false, false, false, false, false, false, false, false, false, false, false, false, false] rfl rfl (any_of HT_.out (by kernel_rfl)) (fun _ _ _ h => h) (Or.inr ⟨by rfl, rfl⟩) ?_ ?_
                  rotate_left
                  · simp only [Act.put, List.setIfInBounds_toArray, List.set_cons_zero, List.set_cons_succ, i64_w, i32_w]
                    rfl
                  refine pure_ (i := 15) (N := some 85) (v := undef) (a' := ?_) #[true, true, true, true, true, true, true, true, true, true, true, true, true, true, true, true, false, false, false, false, false, false, false, false, false, false, false, false, false, false, false, false, false, false, false] rfl rfl (any_of HT_.out (by kernel_rfl)) (fun _ _ _ h => h) (Or.inr ⟨by rfl, rfl⟩) ?_ ?_
                  rotate_left
                  · simp only [Act.put, List.setIfInBounds_toArray, List.set_cons_zero, List.set_cons_succ, i64_w, i32_w]
                    rfl
                  refine pure_ (i := 16) (N := some 86) (v := undef) (a' := ?_) #[true, true, true, true, true, true, true, true, true, true, true, true, true, true, true, true, true, false, false, false, false, false, false, false, false, false, false, false, false, false, false, false, false, false, false] rfl rfl (any_of HT_.out (by kernel_rfl)) (fun _ _ _ h => h) (Or.inr ⟨by rfl, rfl⟩) ?_ ?_
                  rotate_left
                  · simp only [Act.put, List.setIfInBounds_toArray, List.set_cons_zero, List.set_cons_succ, i64_w, i32_w]
                    rfl
                  refine pure_ (i := 17) (N := some 87) (v := undef) (a' := ?_) #[true, true, true, true, true, true, true, true, true, true, true, true, true, true, true, true, true, true, false, false, false, false, false, false, false, false, false, false, false, false, false, false, false, false, false] rfl rfl (any_of HT_.out (by kernel_rfl)) (fun _ _ _ h => h) (Or.inr ⟨by rfl, rfl⟩) ?_ ?_
                  rotate_left
                  · simp only [Act.put, List.setIfInBounds_toArray, List.set_cons_zero, List.set_cons_succ, i64_w, i32_w]
                    rfl
                  refine pure_ (i := 18) (N := some 88) (v := undef) (a' := ?_) #[true, true, true, true, true, true, true, true, true, true, true, true, true, true, true, true, true, true, true, false, false, false, false, false, false, false, false, false, false, false, false, false, false, false, false] rfl rfl (any_of HT_.out (by kernel_rfl)) (fun _ _ _ h => h) (Or.inr ⟨by rfl, rfl⟩) ?_ ?_
                  rotate_left
                  · simp only [Act.put, List.setIfInBounds_toArray, List.set_cons_zero, List.set_cons_succ, i64_w, i32_w]
                    rfl
                  refine pure_ (i := 19) (N := some 89) (v := undef) (a' := ?_) #[true, true, true, true, true, true, true, true, true, true, true, true, true, true, true, true, true, true, true, true, false, false, false, false, false, false, false, false, false, false, false, false, false, false, false] rfl rfl (any_of HT_.out (by kernel_rfl)) (fun _ _ _ h => h) (Or.inr ⟨by rfl, rfl⟩) ?_ ?_
                  rotate_left
                  · simp only [Act.put, List.setIfInBounds_toArray, List.set_cons_zero, List.set_cons_succ, i64_w, i32_w]
                    rfl
                  refine pure_ (i := 20) (N := some 90) (v := undef) (a' := ?_) #[true, true, true, true, true, true, true, true, true, true, true, true, true, true, true, true, true, true, true, true, true, false, false, false, false, false, false, false, false, false, false, false, false, false, false] rfl rfl (any_of HT_.out (by kernel_rfl)) (fun _ _ _ h => h) (Or.inr ⟨by rfl, rfl⟩) ?_ ?_
                  rotate_left
                  · simp only [Act.put, List.setIfInBounds_toArray, List.set_cons_zero, List.set_cons_succ, i64_w, i32_w]
                    rfl
                  refine pure_ (i := 21) (N := some 91) (v := undef) (a' := ?_) #[true, true, true, true, true, true, true, true, true, true, true, true, true, true, true, true, true, true, true, true, true, true, false, false, false, false, false, false, false, false, false, false, false, false, false] rfl rfl (any_of HT_.out (by kernel_rfl)) (fun _ _ _ h => h) (Or.inr ⟨by rfl, rfl⟩) ?_ ?_
                  rotate_left
                  · simp only [Act.put, List.setIfInBounds_toArray, List.set_cons_zero, List.set_cons_succ, i64_w, i32_w]
                    rfl
                  refine pure_ (i := 22) (N := some 92) (v := undef) (a' := ?_) #[true, true, true, true, true, true, true, true, true, true, true, true, true, true, true, true, true, true, true, true, true, true, true, false, false, false, false, false, false, false, false, false, false, false, false] rfl rfl (any_of HT_.out (by kernel_rfl)) (fun _ _ _ h => h) (Or.inr ⟨by rfl, rfl⟩) ?_ ?_
                  rotate_left
                  · simp only [Act.put, List.setIfInBounds_toArray, List.set_cons_zero, List.set_cons_succ, i64_w, i32_w]
                    rfl
                  refine pure_ (i := 23) (N := some 93) (v := undef) (a' := ?_) #[true, true, true, true, true, true, true, true, true, true, true, true, true, true, true, true, true, true, true, true, true, true, true, true, false, false, false, false, false, false, false, false, false, false, false] rfl rfl (any_of HT_.out (by kernel_rfl)) (fun _ _ _ h => h) (Or.inr ⟨by rfl, rfl⟩) ?_ ?_
                  rotate_left
                  · simp only [Act.put, List.setIfInBounds_toArray, List.set_cons_zero, List.set_cons_succ, i64_w, i32_w]
                    rfl
                  refine pure_ (i := 24) (N := some 94) (v := undef) (a' := ?_) #[true, true, true, true, true, true, true, true, true, true, true, true, true, true, true, true, true, true, true, true, true, true, true, true, true, false, false, false, false, false, false, false, false, false, false] rfl rfl (any_of HT_.out (by kernel_rfl)) (fun _ _ _ h => h) (Or.inr ⟨by rfl, rfl⟩) ?_ ?_
                  rotate_left
                  · simp only [Act.put, List.setIfInBounds_toArray, List.set_cons_zero, List.set_cons_succ, i64_w, i32_w]
                    rfl
                  refine pure_ (i := 25) (N := some 95) (v := undef) (a' := ?_) #[true, true, true, true, true, true, true, true, true, true, true, true, true, true, true, true, true, true, true, true, true, true, true, true, true, true, false, false, false, false, false, false, false, false, false] rfl rfl (any_of HT_.out (by kernel_rfl)) (fun _ _ _ h => h) (Or.inr ⟨by rfl, rfl⟩) ?_ ?_
                  rotate_left
                  · simp only [Act.put, List.setIfInBounds_toArray, List.set_cons_zero, List.set_cons_succ, i64_w, i32_w]
                    rfl
                  refine pure_ (i := 26) (N := some 96) (v := undef) (a' := ?_) #[true, true, true, true, true, true, true, true, true, true, true, true, true, true, true, true, true, true, true, true, true, true, true, true, true, true, true, false, false, false, false, false, false, false, false] rfl rfl (any_of HT_.out (by kernel_rfl)) (fun _ _ _ h => h) (Or.inr ⟨by rfl, rfl⟩) ?_ ?_
                  rotate_left
                  · simp only [Act.put, List.setIfInBounds_toArray, List.set_cons_zero, List.set_cons_succ, i64_w, i32_w]
                    rfl
                  refine pure_ (i := 27) (N := some 97) (v := undef) (a' := ?_) #[true, true, true, true, true, true, true, true, true, true, true, true, true, true, true, true, true, true, true, true, true, true, true, true, true, true, true, true, false, false, false, false, false, false, false] rfl rfl (any_of HT_.out (by kernel_rfl)) (fun _ _ _ h => h) (Or.inr ⟨by rfl, rfl⟩) ?_ ?_
                  rotate_left
                  · simp only [Act.put, List.setIfInBounds_toArray, List.set_cons_zero, List.set_cons_succ, i64_w, i32_w]
                    rfl
                  refine pure_ (i := 28) (N := some 98) (v := undef) (a' := ?_) #[true, true, true, true, true, true, true, true, true, true, true, true, true, true, true, true, true, true, true, true, true, true, true, true, true, true, true, true, true, false, false, false, false, false, false] rfl rfl (any_of HT_.out (by kernel_rfl)) (fun _ _ _ h => h) (Or.inr ⟨by rfl, rfl⟩) ?_ ?_
                  rotate_left
                  · simp only [Act.put, List.setIfInBounds_toArray, List.set_cons_zero, List.set_cons_succ, i64_w, i32_w]
                    rfl
                  refine pure_ (i := 29) (N := some 99) (v := undef) (a' := ?_) #[true, true, true, true, true, true, true, true, true, true, true, true, true, true, true, true, true, true, true, true, true, true, true, true, true, true, true, true, true, true, false, false, false, false, false] rfl rfl (any_of HT_.out (by kernel_rfl)) (fun _ _ _ h => h) (Or.inr ⟨by rfl, rfl⟩) ?_ ?_
                  rotate_left
                  · simp only [Act.put, List.setIfInBounds_toArray, List.set_cons_zero, List.set_cons_succ, i64_w, i32_w]
                    rfl
                  refine pure_ (i := 30) (N := some 100) (v := undef) (a' := ?_) #[true, true, true, true, true, true, true, true, true, true, true, true, true, true, true, true, true, true, true, true, true, true, true, true, true, true, true, true, true, true, true, false, false, false, false] rfl rfl (any_of HT_.out (by kernel_rfl)) (fun _ _ _ h => h) (Or.inr ⟨by rfl, rfl⟩) ?_ ?_
                  rotate_left
                  · simp only [Act.put, List.setIfInBounds_toArray, List.set_cons_zero, List.set_cons_succ, i64_w, i32_w]
                    rfl
                  refine pure_ (i := 31) (N := some 101) (v := undef) (a' := ?_) #[true, true, true, true, true, true, true, true, true, true, true, true, true, true, true, true, true, true, true, true, true, true, true, true, true, true, true, true, true, true, true, true, false, false, false] rfl rfl (any_of HT_.out (by kernel_rfl)) (fun _ _ _ h => h) (Or.inr ⟨by rfl, rfl⟩) ?_ ?_
                  rotate_left
                  · simp only [Act.put, List.setIfInBounds_toArray, List.set_cons_zero, List.set_cons_succ, i64_w, i32_w]
                    rfl
                  refine pure_ (i := 32) (N := some 102) (v := undef) (a' := ?_) #[true, true, true, true, true, true, true, true, true, true, true, true, true, true, true, true, true, true, true, true, true, true, true, true, true, true, true, true, true, true, true, true, true, false, false] rfl rfl (any_of HT_.out (by kernel_rfl)) (fun _ _ _ h => h) (Or.inr ⟨by rfl, rfl⟩) ?_ ?_
                  rotate_left
                  · simp only [Act.put, List.setIfInBounds_toArray, List.set_cons_zero, List.set_cons_succ, i64_w, i32_w]
                    rfl
                  refine pure_ (i := 33) (N := some 103) (v := undef) (a' := ?_) #[true, true, true, true, true, true, true, true, true, true, true, true, true, true, true, true, true, true, true, true, true, true, true, true, true, true, true, true, true, true, true, true, true, true, false] rfl rfl (any_of HT_.out (by kernel_rfl)) (fun _ _ _ h => h) (Or.inr ⟨by rfl, rfl⟩) ?_ ?_
                  rotate_left
                  · simp only [Act.put, List.setIfInBounds_toArray, List.set_cons_zero, List.set_cons_succ, i64_w, i32_w]
                    rfl
                  refine pure_ (i := 34) (N := some 104) (v := ?_) (a' := ?_) #[true, true, true, true, true, true, true, true, true, true, true, true, true, true, true, true, true, true, true, true, true, true, true, true, true, true, true, true, true, true, true, true, true, true, true] rfl rfl (any_of HT_.out (by kernel_rfl)) (fun _ _ _ h => h) (Or.inl ⟨by rfl, ?_⟩) ?_ ?_
                  rotate_left
                  · intro w'
                    go_simp
                    with_reducible rfl
                  rotate_left
                  · simp only [Act.put, List.setIfInBounds_toArray, List.set_cons_zero, List.set_cons_succ, i64_w, i32_w]
                    rfl
                  refine done_ (done_of HT_.out (by kernel_rfl)) ?_
                  clear hHeld
                  have HS8 := Aside0.mk (HS7.out.below (below_drew (Below.refl _ _)))
                  go_wp2
                  go_roundg (a - u).toNat
                  case measure => have := HU.out; omega
                  case rel => exact ⟨u + 1, by first | rfl | rw [hwu], ⟨by omega, by omega, by omega⟩, HFD3, HS8⟩
                | true =>
                  rw [if_pos hok] at hnx
                  have hin := okTo_ins hok
                  obtain ⟨x, hxx⟩ : ∃ x, x = (stepTo ⟨c0', c1', c2'⟩ u).f0 := ⟨_, rfl⟩
                  obtain ⟨y, hyy⟩ : ∃ y, y = (stepTo ⟨c0', c1', c2'⟩ u).f1 := ⟨_, rfl⟩
                  have hstp : stepTo ⟨c0', c1', c2'⟩ u = ⟨x, y, u⟩ := by rw [hxx, hyy]; rfl
                  rw [hstp] at hnx hin
                  have HNX := Aside0.mk hnx
                  have HIN := Aside0.mk hin
                  have HSTP := Aside0.mk hstp
                  obtain ⟨m1, hm1⟩ : ∃ m1, m1 = m - 1 := ⟨_, rfl⟩
                  obtain ⟨prev, hprev⟩ : ∃ prev, prev = rdL D m1 := ⟨_, rfl⟩
                  obtain ⟨cur, hcur⟩ : ∃ cur, cur = rdL D m := ⟨_, rfl⟩
                  obtain ⟨qn, hqn⟩ : ∃ qn, qn = spotZ ⟨x, y, u⟩ := ⟨_, rfl⟩
                  obtain ⟨qc, hqc⟩ : ∃ qc, qc = spotZ ⟨c0', c1', c2'⟩ := ⟨_, rfl⟩
                  obtain ⟨n1, hn1⟩ : ∃ n1, n1 = rd prev qn := ⟨_, rfl⟩
                  obtain ⟨cu, hcu⟩ : ∃ cu, cu = rd cur qc := ⟨_, rfl⟩
                  have HSN : Aside0 (spec_l05Spot.f x y u = some qn) := ⟨by rw [hqn]; exact cspot_eq HA.out hin⟩
                  have HSC : Aside0 (spec_l05Spot.f c0' c1' c2' = some qc) := ⟨by rw [hqc]; exact cspot_eq HA.out HC.out⟩
                  have hqnb := spotZ_le HA.out.2 hin
                  rw [← hqn] at hqnb
                  have hqcb := spotZ_le HA.out.2 HC.out
                  rw [← hqc] at hqcb
                  have hmb : 0 ≤ m1 ∧ m1 < k ∧ m ≤ k := by have := HM.out; omega
                  have htp := HCK.out.2 m1 hmb.1 (by omega)
                  have htc := HCK.out.2 m (by omega) hmb.2.2
                  rw [← hprev] at htp
                  rw [← hcur] at htc
                  have hn1b := htp.2 qn
                  rw [← hn1] at hn1b
                  obtain ⟨sm, hsm⟩ : ∃ sm, sm = n1 + qq := ⟨_, rfl⟩
                  have hws : wrap64 (n1 + qq) = sm := by rw [← hsm]; exact cw64 (by have := HQ36.out; omega)
                  have hwm1 : wrap64 (m - 1) = m1 := by rw [hwm, hm1]
                  have hhit : hitC D a b m ⟨c0', c1', c2'⟩ u = (decide (0 < n1) && decide (sm = cu)) := by
                    unfold hitC
                    rw [hok, hstp, ← hm1, ← hprev, ← hcur, ← hqn, ← hqc, ← hn1, ← hcu]
                    show (true && (decide (0 < n1) && decide (n1 + (u - c2') * (u - c2') = cu))) = _
                    rw [Bool.true_and, ← HQQ.out, ← hsm]
                  have i1t : (0 ≤ m1) = True := eq_true hmb.1
                  have i2t : (m1 < (D.length : Int)) = True := eq_true (by rw [HCK.out.1]; omega)
                  have i3t : (0 ≤ m) = True := eq_true (by omega)
                  have i4t : (m < (D.length : Int)) = True := eq_true (by rw [HCK.out.1]; omega)
                  have j1t : (0 ≤ qn) = True := eq_true hqnb.1
                  have j2t : (qn < (prev.length : Int)) = True := eq_true (by rw [htp.1]; exact hqnb.2)
                  have j3t : (0 ≤ qc) = True := eq_true hqcb.1
                  have j4t : (qc < (cur.length : Int)) = True := eq_true (by rw [htc.1]; exact hqcb.2)
                  have HPV := Aside0.mk hprev
                  have HCV := Aside0.mk hcur
                  have HN1 := Aside0.mk hn1
                  have HCU := Aside0.mk hcu
                  have HMM := Aside0.mk hm1
                  have hfd := HFD2.out
                  rw [hhit] at hfd
                  have HFD4 := Aside0.mk hfd
                  clear hnx hxx hyy hprev hcur hqn hqc hn1 hcu hqnb hqcb hmb htp htc hn1b hsm hhit hfd hm1 hok hin hstp hwm HFD2
                  by_cases hpos : 0 < n1
                  · have hposb : decide (0 < n1) = true := decide_eq_true hpos
                    by_cases heq : sm = cu
                    · have heqb : (sm == cu) = true := by rw [heq]; exact beq_self_eq_true cu
                      have hfd := HFD4.out
                      rw [hposb, decide_eq_true heq, Bool.and_self, if_pos rfl] at hfd
                      have HFO2 := Aside0.mk hfd
                      clear hfd heq
                      go_wp2_with (first
                        | (go_at_call 15; go_loud ((with_reducible refine (spec_l05Next.calls 1 a b c0' c1' c2' u x y u true _ HNX.out).mono ?_); rintro e w6 ⟨rfl, hb6⟩; have HS6 := Aside0.mk (HS.out.below hb6); clear hb6))
                        | ((with_reducible refine gate_dst (N := 63) rfl ?_); (with_reducible refine gen_box ?_); go_loud (intro w7 hbox hbw; have HX7 := Aside0.mk hbox; have HS7 := Aside0.mk (HS6.out.below hbw); clear hbox hbw; have hc70 : w7.cell? ⟨gc, 0, none⟩ = some (.int .i64 c0') := (blk_cell HS7.out.cur 0).trans rfl; have hc71 : w7.cell? ⟨gc, 1, none⟩ = some (.int .i64 c1') := (blk_cell HS7.out.cur 1).trans rfl; have hc72 : w7.cell? ⟨gc, 2, none⟩ = some (.int .i64 c2') := (blk_cell HS7.out.cur 2).trans rfl)))
                      have HS8 := Aside0.mk (HS7.out.below (below_drew (Below.refl _ _)))
                      have HX8 := Aside0.mk (blk_drew HX7.out)
                      clear HS7 HX7
                      generalize hw7 : w7.drew = w8 at HS8 HX8
                      obtain ⟨adM, A0, cP, eL, hclp, hCp⟩ := at_LL (Kd.N_reads' HS8.out.out).2.2 m1 (of_eq_true i1t) (of_eq_true i2t)
                      cases eL
                      rw [← HPV.out] at hclp hCp
                      obtain ⟨adP, eP, hxp⟩ := Kd.at_int hCp qn (of_eq_true j1t) (of_eq_true j2t)
                      subst eP
                      rw [← HN1.out] at hxp
                      obtain ⟨adN, A1, cC, eN, hclc, hCc⟩ := at_LL (Kd.N_reads' HS8.out.out).2.2 m (of_eq_true i3t) (of_eq_true i4t)
                      cases eN
                      rw [← HCV.out] at hclc hCc
                      obtain ⟨adC, eC, hxc⟩ := Kd.at_int hCc qc (of_eq_true j3t) (of_eq_true j4t)
                      subst eC
                      rw [← HCU.out] at hxc
                      clear hCp hCc
                      refine start_ (n := 35) (S := fun w' => w'.cell? (adL.add m1.toNat) = some (.slice (some adP) prev.length cP) ∧ w'.cell? (adP.add qn.toNat) = some (.int .i64 n1) ∧ w'.cell? (adL.add m.toNat) = some (.slice (some adC) cur.length cC) ∧ w'.cell? (adC.add qc.toNat) = some (.int .i64 cu) ∧ w'.cell? ⟨w6.heap.size, 0, none⟩ = some (.int .i64 x) ∧ w'.cell? ⟨w6.heap.size, 1, none⟩ = some (.int .i64 y) ∧ w'.cell? ⟨w6.heap.size, 2, none⟩ = some (.int .i64 u) ∧ w'.cell? ⟨gc, 0, none⟩ = some (.int .i64 c0') ∧ w'.cell? ⟨gc, 1, none⟩ = some (.int .i64 c1') ∧ w'.cell? ⟨gc, 2, none⟩ = some (.int .i64 c2')) (ds := []) #[false, false, false, false, false, false, false, false, false, false, false, false, false, false, false, false, false, false, false, false, false, false, false, false, false, false, false, false, false, false, false, false, false, false, false] (by kernel_rfl) rfl rfl (by rw [hw7]; exact ⟨hclp, hxp, hclc, hxc, (blk_cell HX8.out 0).trans rfl, (blk_cell HX8.out 1).trans rfl, (blk_cell HX8.out 2).trans rfl, (blk_cell HS8.out.cur 0).trans rfl, (blk_cell HS8.out.cur 1).trans rfl, (blk_cell HS8.out.cur 2).trans rfl⟩) (fun hHeld => ?_)
                      refine with_tabW specS_tab16 specS_bits16 (fun HT_ HW_ => ?_)
                      rw [hw7] at hHeld ⊢
                      clear hw7
                      refine pure_ (i := 0) (N := some 70) (v := ?_) (a' := ?_) #[true, false, false, false, false, false, false, false, false, false, false, false, false, false, false, false, false, false, false, false, false, false, false, false, false, false, false, false, false, false, false, false, false, false, false] rfl rfl (any_of HT_.out (by kernel_rfl)) (fun _ _ _ h => h) (Or.inl ⟨by rfl, ?_⟩) ?_ ?_
                      rotate_left
                      · intro w'
                        go_simp
                        with_reducible rfl
                      rotate_left
                      · simp only [Act.put, List.setIfInBounds_toArray, List.set_cons_zero, List.set_cons_succ, i64_w, i32_w]
                        rfl
                      refine pure_ (i := 1) (N := some 71) (v := ?_) (a' := ?_) #[true, true, false, false, false, false, false, false, false, false, false, false, false, false, false, false, false, false, false, false, false, false, false, false, false, false, false, false, false, false, false, false, false, false, false] rfl rfl (any_of HT_.out (by kernel_rfl)) (fun _ _ _ h => h) (Or.inl ⟨by rfl, ?_⟩) ?_ ?_
                      rotate_left
                      · intro w'
                        go_simp
                        with_reducible rfl
                      rotate_left
                      · simp only [Act.put, List.setIfInBounds_toArray, List.set_cons_zero, List.set_cons_succ, i64_w, i32_w]
                        rfl
                      refine pure_ (i := 2) (N := some 72) (v := ?_) (a' := ?_) #[true, true, true, false, false, false, false, false, false, false, false, false, false, false, false, false, false, false, false, false, false, false, false, false, false, false, false, false, false, false, false, false, false, false, false] rfl rfl (any_of HT_.out (by kernel_rfl)) (fun _ _ _ h => h) (Or.inl ⟨by rfl, ?_⟩) ?_ ?_
                      rotate_left
                      · intro w'
                        go_simp
                        with_reducible rfl
                      rotate_left
                      · simp only [Act.put, List.setIfInBounds_toArray, List.set_cons_zero, List.set_cons_succ, i64_w, i32_w]
                        rfl
                      refine pure_ (i := 3) (N := some 73) (v := ?_) (a' := ?_) #[true, true, true, true, false, false, false, false, false, false, false, false, false, false, false, false, false, false, false, false, false, false, false, false, false, false, false, false, false, false, false, false, false, false, false] rfl rfl (any_of HT_.out (by kernel_rfl)) (fun _ _ _ h => h) (Or.inl ⟨by rfl, ?_⟩) ?_ ?_
                      rotate_left
                      · intro w'
                        go_simp
                        with_reducible rfl
                      rotate_left
                      · simp only [Act.put, List.setIfInBounds_toArray, List.set_cons_zero, List.set_cons_succ, i64_w, i32_w]
                        rfl
                      refine pure_ (i := 4) (N := some 74) (v := ?_) (a' := ?_) #[true, true, true, true, true, false, false, false, false, false, false, false, false, false, false, false, false, false, false, false, false, false, false, false, false, false, false, false, false, false, false, false, false, false, false] rfl rfl (any_of HT_.out (by kernel_rfl)) (fun _ _ _ h => h) (Or.inl ⟨by rfl, ?_⟩) ?_ ?_
                      rotate_left
                      · intro w'
                        go_simp
                        with_reducible rfl
                      rotate_left
                      · simp only [Act.put, List.setIfInBounds_toArray, List.set_cons_zero, List.set_cons_succ, i64_w, i32_w]
                        rfl
                      refine pure_ (i := 5) (N := some 75) (v := ?_) (a' := ?_) #[true, true, true, true, true, true, false, false, false, false, false, false, false, false, false, false, false, false, false, false, false, false, false, false, false, false, false, false, false, false, false, false, false, false, false] rfl rfl (any_of HT_.out (by kernel_rfl)) (fun _ _ _ h => h) (Or.inl ⟨by rfl, ?_⟩) ?_ ?_
                      rotate_left
                      · intro w'
                        go_simp
                        with_reducible rfl
                      rotate_left
                      · simp only [Act.put, List.setIfInBounds_toArray, List.set_cons_zero, List.set_cons_succ, i64_w, i32_w]
                        rfl
                      refine take_ (i := 6) (N := some 76) (v := ?_) (a' := ?_) #[true, true, true, true, true, true, true, false, false, false, false, false, false, false, false, false, false, false, false, false, false, false, false, false, false, false, false, false, false, false, false, false, false, false, false] rfl rfl (take_ofW HT_.out HW_.out (by kernel_rfl)) (fun _ _ _ h => h) (Or.inl ⟨by rfl, ?_⟩) hHeld ?_ ?_
                      rotate_left
                      · rintro w' ⟨s0, s1, s2_, s3, s4, s5, s6, s7, s8, s9⟩
                        go_simp
                        with_reducible rfl
                      rotate_left
                      · simp only [Act.put, List.setIfInBounds_toArray, List.set_cons_zero, List.set_cons_succ, i64_w, i32_w]
                        rfl
                      refine take_ (i := 7) (N := some 77) (v := ?_) (a' := ?_) #[true, true, true, true, true, true, true, true, false, false, false, false, false, false, false, false, false, false, false, false, false, false, false, false, false, false, false, false, false, false, false, false, false, false, false] rfl rfl (take_ofW HT_.out HW_.out (by kernel_rfl)) (fun _ _ _ h => h) (Or.inl ⟨by rfl, ?_⟩) hHeld ?_ ?_
                      rotate_left
                      · rintro w' ⟨s0, s1, s2_, s3, s4, s5, s6, s7, s8, s9⟩
                        go_simp
                        with_reducible rfl
                      rotate_left
                      · simp only [Act.put, List.setIfInBounds_toArray, List.set_cons_zero, List.set_cons_succ, i64_w, i32_w]
                        rfl
                      refine one_ (i := 8) (N := some 78) #[true, true, true, true, true, true, true, true, true, false, false, false, false, false, false, false, false, false, false, false, false, false, false, false, false, false, false, false, false, false, false, false, false, false, false] rfl rfl (one_of HT_.out (by kernel_rfl)) (by decide) (fun K hK => ?_)
                      refine goes_ Try.func14 (by kernel_rfl) rfl #[.agg #[.int .i64 x, .int .i64 y, .int .i64 u]] (by rfl) rfl rfl (by (try simp only [List.map_toArray, List.map_cons, List.map_nil]); first | done | rfl | (simp only [List.length_drop, List.length_take]; rfl)) ?_
                      refine (spec_l05Spot.calls x y u qn _ HSN.out).mono ?_
                      rintro e w9 ⟨rfl, hb⟩
                      refine ⟨_, rfl, ?_⟩
                      have HS9 := Aside0.mk (HS8.out.below hb)
                      have HX9 := Aside0.mk (blk_below HX8.out hb)
                      have hclpA := pw_cell_below hb hclp
                      have hxpA := pw_cell_below hb hxp
                      have hclcA := pw_cell_below hb hclc
                      have hxcA := pw_cell_below hb hxc
                      clear hb hclp hxp hclc hxc HS8 HX8
                      refine hK.out _ _ ⟨hclpA, hxpA, hclcA, hxcA, (blk_cell HX9.out 0).trans rfl, (blk_cell HX9.out 1).trans rfl, (blk_cell HX9.out 2).trans rfl, (blk_cell HS9.out.cur 0).trans rfl, (blk_cell HS9.out.cur 1).trans rfl, (blk_cell HS9.out.cur 2).trans rfl⟩ (fun hHeld => ?_)
                      clear hK K
                      refine norm_ (a' := ?_) ?_ ?_
                      rotate_left
                      · show Act.put _ (some 78) _ = _
                        simp only [Act.put, List.setIfInBounds_toArray, List.set_cons_zero, List.set_cons_succ, i64_w, i32_w]
                        rfl
                      refine pure_ (i := 9) (N := some 79) (v := ?_) (a' := ?_) #[true, true, true, true, true, true, true, true, true, true, false, false, false, false, false, false, false, false, false, false, false, false, false, false, false, false, false, false, false, false, false, false, false, false, false] rfl rfl (any_of HT_.out (by kernel_rfl)) (fun _ _ _ h => h) (Or.inl ⟨by rfl, ?_⟩) ?_ ?_
                      rotate_left
                      · intro w'
                        go_simp
                        with_reducible rfl
                      rotate_left
                      · simp only [Act.put, List.setIfInBounds_toArray, List.set_cons_zero, List.set_cons_succ, i64_w, i32_w]
                        rfl
                      refine take_ (i := 10) (N := some 80) (v := ?_) (a' := ?_) #[true, true, true, true, true, true, true, true, true, true, true, false, false, false, false, false, false, false, false, false, false, false, false, false, false, false, false, false, false, false, false, false, false, false, false] rfl rfl (take_ofW HT_.out HW_.out (by kernel_rfl)) (fun _ _ _ h => h) (Or.inl ⟨by rfl, ?_⟩) hHeld ?_ ?_
                      rotate_left
                      · rintro w' ⟨s0, s1, s2_, s3, s4, s5, s6, s7, s8, s9⟩
                        go_simp
                        with_reducible rfl
                      rotate_left
                      · simp only [Act.put, List.setIfInBounds_toArray, List.set_cons_zero, List.set_cons_succ, i64_w, i32_w]
                        rfl
                      refine pure_ (i := 11) (N := some 81) (v := ?_) (a' := ?_) #[true, true, true, true, true, true, true, true, true, true, true, true, false, false, false, false, false, false, false, false, false, false, false, false, false, false, false, false, false, false, false, false, false, false, false] rfl rfl (any_of HT_.out (by kernel_rfl)) (fun _ _ _ h => h) (Or.inl ⟨by rfl, ?_⟩) ?_ ?_
                      rotate_left
                      · intro w'
                        go_simp
                        with_reducible rfl
                      rotate_left
                      · simp only [Act.put, List.setIfInBounds_toArray, List.set_cons_zero, List.set_cons_succ, i64_w, i32_w]
                        rfl
                      refine pure_ (i := 12) (N := some 82) (v := ?_) (a' := ?_) #[true, true, true, true, true, true, true, true, true, true, true, true, true, false, false, false, false, false, false, false, false, false, false, false, false, false, false, false, false, false, false, false, false, false, false] rfl rfl (any_of HT_.out (by kernel_rfl)) (fun _ _ _ h => h) (Or.inl ⟨by rfl, ?_⟩) ?_ ?_
                      rotate_left
                      · intro w'
                        go_simp
                        with_reducible rfl
                      rotate_left
                      · simp only [Act.put, List.setIfInBounds_toArray, List.set_cons_zero, List.set_cons_succ, i64_w, i32_w]
                        rfl
                      refine pure_ (i := 13) (N := some 83) (v := ?_) (a' := ?_) #[true, true, true, true, true, true, true, true, true, true, true, true, true, true, false, false, false, false, false, false, false, false, false, false, false, false, false, false, false, false, false, false, false, false, false] rfl rfl (any_of HT_.out (by kernel_rfl)) (fun _ _ _ h => h) (Or.inl ⟨by rfl, ?_⟩) ?_ ?_
                      rotate_left
                      · intro w'
                        go_simp
                        with_reducible rfl
                      rotate_left
                      · simp only [Act.put, List.setIfInBounds_toArray, List.set_cons_zero, List.set_cons_succ, i64_w, i32_w]
                        rfl
                      refine pure_ (i := 14) (N := some 84) (v := ?_) (a' := ?_) #[true, true, true, true, true, true, true, true, true, true, true, true, true, true, true, false, false, false, false, false, false, false, false, false, false, false, false, false, false, false, false, false, false, false, false] rfl rfl (any_of HT_.out (by kernel_rfl)) (fun _ _ _ h => h) (Or.inl ⟨by rfl, ?_⟩) ?_ ?_
                      rotate_left
                      · intro w'
                        go_simp
                        with_reducible rfl
                      rotate_left
                      · simp only [Act.put, List.setIfInBounds_toArray, List.set_cons_zero, List.set_cons_succ, i64_w, i32_w]
                        rfl
                      refine pure_ (i := 15) (N := some 85) (v := ?_) (a' := ?_) #[true, true, true, true, true, true, true, true, true, true, true, true, true, true, true, true, false, false, false, false, false, false, false, false, false, false, false, false, false, false, false, false, false, false, false] rfl rfl (any_of HT_.out (by kernel_rfl)) (fun _ _ _ h => h) (Or.inl ⟨by rfl, ?_⟩) ?_ ?_
                      rotate_left
                      · intro w'
                        go_simp
                        with_reducible rfl
                      rotate_left
                      · simp only [Act.put, List.setIfInBounds_toArray, List.set_cons_zero, List.set_cons_succ, i64_w, i32_w]
                        rfl
                      refine pure_ (i := 16) (N := some 86) (v := ?_) (a' := ?_) #[true, true, true, true, true, true, true, true, true, true, true, true, true, true, true, true, true, false, false, false, false, false, false, false, false, false, false, false, false, false, false, false, false, false, false] rfl rfl (any_of HT_.out (by kernel_rfl)) (fun _ _ _ h => h) (Or.inl ⟨by rfl, ?_⟩) ?_ ?_
                      rotate_left
                      · intro w'
                        go_simp
                        with_reducible rfl
                      rotate_left
                      · simp only [Act.put, List.setIfInBounds_toArray, List.set_cons_zero, List.set_cons_succ, i64_w, i32_w]
                        rfl
                      refine pure_ (i := 17) (N := some 87) (v := ?_) (a' := ?_) #[true, true, true, true, true, true, true, true, true, true, true, true, true, true, true, true, true, true, false, false, false, false, false, false, false, false, false, false, false, false, false, false, false, false, false] rfl rfl (any_of HT_.out (by kernel_rfl)) (fun _ _ _ h => h) (Or.inl ⟨by rfl, ?_⟩) ?_ ?_
                      rotate_left
                      · intro w'
                        go_simp
                        with_reducible rfl
                      rotate_left
                      · simp only [Act.put, List.setIfInBounds_toArray, List.set_cons_zero, List.set_cons_succ, i64_w, i32_w]
                        rfl
                      refine take_ (i := 18) (N := some 88) (v := ?_) (a' := ?_) #[true, true, true, true, true, true, true, true, true, true, true, true, true, true, true, true, true, true, true, false, false, false, false, false, false, false, false, false, false, false, false, false, false, false, false] rfl rfl (take_ofW HT_.out HW_.out (by kernel_rfl)) (fun _ _ _ h => h) (Or.inl ⟨by rfl, ?_⟩) hHeld ?_ ?_
                      rotate_left
                      · rintro w' ⟨s0, s1, s2_, s3, s4, s5, s6, s7, s8, s9⟩
                        go_simp
                        with_reducible rfl
                      rotate_left
                      · simp only [Act.put, List.setIfInBounds_toArray, List.set_cons_zero, List.set_cons_succ, i64_w, i32_w]
                        rfl
                      refine take_ (i := 19) (N := some 89) (v := ?_) (a' := ?_) #[true, true, true, true, true, true, true, true, true, true, true, true, true, true, true, true, true, true, true, true, false, false, false, false, false, false, false, false, false, false, false, false, false, false, false] rfl rfl (take_ofW HT_.out HW_.out (by kernel_rfl)) (fun _ _ _ h => h) (Or.inl ⟨by rfl, ?_⟩) hHeld ?_ ?_
                      rotate_left
                      · rintro w' ⟨s0, s1, s2_, s3, s4, s5, s6, s7, s8, s9⟩
                        go_simp
                        with_reducible rfl
                      rotate_left
                      · simp only [Act.put, List.setIfInBounds_toArray, List.set_cons_zero, List.set_cons_succ, i64_w, i32_w]
                        rfl
                      refine pure_ (i := 23) (N := some 93) (v := ?_) (a' := ?_) #[true, true, true, true, true, true, true, true, true, true, true, true, true, true, true, true, true, true, true, true, false, false, false, true, false, false, false, false, false, false, false, false, false, false, false] rfl rfl (any_of HT_.out (by kernel_rfl)) (fun _ _ _ h => h) (Or.inl ⟨by rfl, ?_⟩) ?_ ?_
                      rotate_left
                      · intro w'
                        go_simp
                        with_reducible rfl
                      rotate_left
                      · simp only [Act.put, List.setIfInBounds_toArray, List.set_cons_zero, List.set_cons_succ, i64_w, i32_w]
                        rfl
                      refine pure_ (i := 25) (N := some 95) (v := ?_) (a' := ?_) #[true, true, true, true, true, true, true, true, true, true, true, true, true, true, true, true, true, true, true, true, false, false, false, true, false, true, false, false, false, false, false, false, false, false, false] rfl rfl (any_of HT_.out (by kernel_rfl)) (fun _ _ _ h => h) (Or.inl ⟨by rfl, ?_⟩) ?_ ?_
                      rotate_left
                      · intro w'
                        go_simp
                        with_reducible rfl
                      rotate_left
                      · simp only [Act.put, List.setIfInBounds_toArray, List.set_cons_zero, List.set_cons_succ, i64_w, i32_w]
                        rfl
                      refine pure_ (i := 26) (N := some 96) (v := ?_) (a' := ?_) #[true, true, true, true, true, true, true, true, true, true, true, true, true, true, true, true, true, true, true, true, false, false, false, true, false, true, true, false, false, false, false, false, false, false, false] rfl rfl (any_of HT_.out (by kernel_rfl)) (fun _ _ _ h => h) (Or.inl ⟨by rfl, ?_⟩) ?_ ?_
                      rotate_left
                      · intro w'
                        go_simp
                        with_reducible rfl
                      rotate_left
                      · simp only [Act.put, List.setIfInBounds_toArray, List.set_cons_zero, List.set_cons_succ, i64_w, i32_w]
                        rfl
                      refine pure_ (i := 27) (N := some 97) (v := ?_) (a' := ?_) #[true, true, true, true, true, true, true, true, true, true, true, true, true, true, true, true, true, true, true, true, false, false, false, true, false, true, true, true, false, false, false, false, false, false, false] rfl rfl (any_of HT_.out (by kernel_rfl)) (fun _ _ _ h => h) (Or.inl ⟨by rfl, ?_⟩) ?_ ?_
                      rotate_left
                      · intro w'
                        go_simp
                        with_reducible rfl
                      rotate_left
                      · simp only [Act.put, List.setIfInBounds_toArray, List.set_cons_zero, List.set_cons_succ, i64_w, i32_w]
                        rfl
                      refine take_ (i := 28) (N := some 98) (v := ?_) (a' := ?_) #[true, true, true, true, true, true, true, true, true, true, true, true, true, true, true, true, true, true, true, true, false, false, false, true, false, true, true, true, true, false, false, false, false, false, false] rfl rfl (take_ofW HT_.out HW_.out (by kernel_rfl)) (fun _ _ _ h => h) (Or.inl ⟨by rfl, ?_⟩) hHeld ?_ ?_
                      rotate_left
                      · rintro w' ⟨s0, s1, s2_, s3, s4, s5, s6, s7, s8, s9⟩
                        go_simp
                        with_reducible rfl
                      rotate_left
                      · simp only [Act.put, List.setIfInBounds_toArray, List.set_cons_zero, List.set_cons_succ, i64_w, i32_w]
                        rfl
                      refine take_ (i := 29) (N := some 99) (v := ?_) (a' := ?_) #[true, true, true, true, true, true, true, true, true, true, true, true, true, true, true, true, true, true, true, true, false, false, false, true, false, true, true, true, true, true, false, false, false, false, false] rfl rfl (take_ofW HT_.out HW_.out (by kernel_rfl)) (fun _ _ _ h => h) (Or.inl ⟨by rfl, ?_⟩) hHeld ?_ ?_
                      rotate_left
                      · rintro w' ⟨s0, s1, s2_, s3, s4, s5, s6, s7, s8, s9⟩
                        go_simp
                        with_reducible rfl
                      rotate_left
                      · simp only [Act.put, List.setIfInBounds_toArray, List.set_cons_zero, List.set_cons_succ, i64_w, i32_w]
                        rfl
                      refine one_ (i := 20) (N := some 90) #[true, true, true, true, true, true, true, true, true, true, true, true, true, true, true, true, true, true, true, true, true, false, false, true, false, true, true, true, true, true, false, false, false, false, false] rfl rfl (one_of HT_.out (by kernel_rfl)) (by decide) (fun K hK => ?_)
                      refine goes_ Try.func14 (by kernel_rfl) rfl #[.agg #[.int .i64 x, .int .i64 y, .int .i64 u]] (by rfl) rfl rfl (by (try simp only [List.map_toArray, List.map_cons, List.map_nil]); first | done | rfl | (simp only [List.length_drop, List.length_take]; rfl)) ?_
                      refine (spec_l05Spot.calls x y u qn _ HSN.out).mono ?_
                      rintro e w10 ⟨rfl, hb⟩
                      refine ⟨_, rfl, ?_⟩
                      have HS10 := Aside0.mk (HS9.out.below hb)
                      have HX10 := Aside0.mk (blk_below HX9.out hb)
                      have hclpB := pw_cell_below hb hclpA
                      have hxpB := pw_cell_below hb hxpA
                      have hclcB := pw_cell_below hb hclcA
                      have hxcB := pw_cell_below hb hxcA
                      clear hb hclpA hxpA hclcA hxcA HS9 HX9
                      refine hK.out _ _ ⟨hclpB, hxpB, hclcB, hxcB, (blk_cell HX10.out 0).trans rfl, (blk_cell HX10.out 1).trans rfl, (blk_cell HX10.out 2).trans rfl, (blk_cell HS10.out.cur 0).trans rfl, (blk_cell HS10.out.cur 1).trans rfl, (blk_cell HS10.out.cur 2).trans rfl⟩ (fun hHeld => ?_)
                      clear hK K
                      refine norm_ (a' := ?_) ?_ ?_
                      rotate_left
                      · show Act.put _ (some 90) _ = _
                        simp only [Act.put, List.setIfInBounds_toArray, List.set_cons_zero, List.set_cons_succ, i64_w, i32_w]
                        rfl
                      refine pure_ (i := 21) (N := some 91) (v := ?_) (a' := ?_) #[true, true, true, true, true, true, true, true, true, true, true, true, true, true, true, true, true, true, true, true, true, true, false, true, false, true, true, true, true, true, false, false, false, false, false] rfl rfl (any_of HT_.out (by kernel_rfl)) (fun _ _ _ h => h) (Or.inl ⟨by rfl, ?_⟩) ?_ ?_
                      rotate_left
                      · intro w'
                        go_simp
                        with_reducible rfl
                      rotate_left
                      · simp only [Act.put, List.setIfInBounds_toArray, List.set_cons_zero, List.set_cons_succ, i64_w, i32_w]
                        rfl
                      refine take_ (i := 22) (N := some 92) (v := ?_) (a' := ?_) #[true, true, true, true, true, true, true, true, true, true, true, true, true, true, true, true, true, true, true, true, true, true, true, true, false, true, true, true, true, true, false, false, false, false, false] rfl rfl (take_ofW HT_.out HW_.out (by kernel_rfl)) (fun _ _ _ h => h) (Or.inl ⟨by rfl, ?_⟩) hHeld ?_ ?_
                      rotate_left
                      · rintro w' ⟨s0, s1, s2_, s3, s4, s5, s6, s7, s8, s9⟩
                        go_simp
                        with_reducible rfl
                      rotate_left
                      · simp only [Act.put, List.setIfInBounds_toArray, List.set_cons_zero, List.set_cons_succ, i64_w, i32_w]
                        rfl
                      refine pure_ (i := 24) (N := some 94) (v := ?_) (a' := ?_) #[true, true, true, true, true, true, true, true, true, true, true, true, true, true, true, true, true, true, true, true, true, true, true, true, true, true, true, true, true, true, false, false, false, false, false] rfl rfl (any_of HT_.out (by kernel_rfl)) (fun _ _ _ h => h) (Or.inl ⟨by rfl, ?_⟩) ?_ ?_
                      rotate_left
                      · intro w'
                        go_simp
                        with_reducible rfl
                      rotate_left
                      · simp only [Act.put, List.setIfInBounds_toArray, List.set_cons_zero, List.set_cons_succ, i64_w, i32_w]
                        rfl
                      refine one_ (i := 30) (N := some 100) #[true, true, true, true, true, true, true, true, true, true, true, true, true, true, true, true, true, true, true, true, true, true, true, true, true, true, true, true, true, true, true, false, false, false, false] rfl rfl (one_of HT_.out (by kernel_rfl)) (by decide) (fun K hK => ?_)
                      refine goes_ Try.func14 (by kernel_rfl) rfl #[.agg #[.int .i64 c0', .int .i64 c1', .int .i64 c2']] (by rfl) rfl rfl (by (try simp only [List.map_toArray, List.map_cons, List.map_nil]); first | done | rfl | (simp only [List.length_drop, List.length_take]; rfl)) ?_
                      refine (spec_l05Spot.calls c0' c1' c2' qc _ HSC.out).mono ?_
                      rintro e w11 ⟨rfl, hb⟩
                      refine ⟨_, rfl, ?_⟩
                      have HS11 := Aside0.mk (HS10.out.below hb)
                      have HX11 := Aside0.mk (blk_below HX10.out hb)
                      have hclpC := pw_cell_below hb hclpB
                      have hxpC := pw_cell_below hb hxpB
                      have hclcC := pw_cell_below hb hclcB
                      have hxcC := pw_cell_below hb hxcB
                      clear hb hclpB hxpB hclcB hxcB HS10 HX10
                      refine hK.out _ _ ⟨hclpC, hxpC, hclcC, hxcC, (blk_cell HX11.out 0).trans rfl, (blk_cell HX11.out 1).trans rfl, (blk_cell HX11.out 2).trans rfl, (blk_cell HS11.out.cur 0).trans rfl, (blk_cell HS11.out.cur 1).trans rfl, (blk_cell HS11.out.cur 2).trans rfl⟩ (fun hHeld => ?_)
                      clear hK K
                      refine norm_ (a' := ?_) ?_ ?_
                      rotate_left
                      · show Act.put _ (some 100) _ = _
                        simp only [Act.put, List.setIfInBounds_toArray, List.set_cons_zero, List.set_cons_succ, i64_w, i32_w]
                        rfl
                      refine pure_ (i := 31) (N := some 101) (v := ?_) (a' := ?_) #[true, true, true, true, true, true, true, true, true, true, true, true, true, true, true, true, true, true, true, true, true, true, true, true, true, true, true, true, true, true, true, true, false, false, false] rfl rfl (any_of HT_.out (by kernel_rfl)) (fun _ _ _ h => h) (Or.inl ⟨by rfl, ?_⟩) ?_ ?_
                      rotate_left
                      · intro w'
                        go_simp
                        with_reducible rfl
                      rotate_left
                      · simp only [Act.put, List.setIfInBounds_toArray, List.set_cons_zero, List.set_cons_succ, i64_w, i32_w]
                        rfl
                      refine take_ (i := 32) (N := some 102) (v := ?_) (a' := ?_) #[true, true, true, true, true, true, true, true, true, true, true, true, true, true, true, true, true, true, true, true, true, true, true, true, true, true, true, true, true, true, true, true, true, false, false] rfl rfl (take_ofW HT_.out HW_.out (by kernel_rfl)) (fun _ _ _ h => h) (Or.inl ⟨by rfl, ?_⟩) hHeld ?_ ?_
                      rotate_left
                      · rintro w' ⟨s0, s1, s2_, s3, s4, s5, s6, s7, s8, s9⟩
                        go_simp
                        with_reducible rfl
                      rotate_left
                      · simp only [Act.put, List.setIfInBounds_toArray, List.set_cons_zero, List.set_cons_succ, i64_w, i32_w]
                        rfl
                      refine pure_ (i := 33) (N := some 103) (v := ?_) (a' := ?_) #[true, true, true, true, true, true, true, true, true, true, true, true, true, true, true, true, true, true, true, true, true, true, true, true, true, true, true, true, true, true, true, true, true, true, false] rfl rfl (any_of HT_.out (by kernel_rfl)) (fun _ _ _ h => h) (Or.inl ⟨by rfl, ?_⟩) ?_ ?_
                      rotate_left
                      · intro w'
                        go_simp
                        with_reducible rfl
                      rotate_left
                      · simp only [Act.put, List.setIfInBounds_toArray, List.set_cons_zero, List.set_cons_succ, i64_w, i32_w]
                        rfl
                      refine pure_ (i := 34) (N := some 104) (v := ?_) (a' := ?_) #[true, true, true, true, true, true, true, true, true, true, true, true, true, true, true, true, true, true, true, true, true, true, true, true, true, true, true, true, true, true, true, true, true, true, true] rfl rfl (any_of HT_.out (by kernel_rfl)) (fun _ _ _ h => h) (Or.inl ⟨by rfl, ?_⟩) ?_ ?_
                      rotate_left
                      · intro w'
                        go_simp
                        with_reducible rfl
                      rotate_left
                      · simp only [Act.put, List.setIfInBounds_toArray, List.set_cons_zero, List.set_cons_succ, i64_w, i32_w]
                        rfl
                      refine done_ (done_of HT_.out (by kernel_rfl)) ?_
                      clear hHeld hclpC hxpC hclcC hxcC
                      go_wp2_with (first
                        | ((with_reducible refine gate_builtin (b := .append) (xs := #[.tmp 105, .tmp 107]) rfl ?_); at_builtin; go_loud (refine Kd.R_append (Kd.int .i64) (w0 := w) w.heap.size rfl (.tmp 105) (.tmp 107) 26 2 (.int .i64 0) 8 rfl hu26 info2 rfl (by decide) (by omega) _ acc u [.int .i64 u] (fun k => B4 ≤ k) (fun _ => False) rfl rfl ?aP (fun _ hk => hk.elim) ?aF ?aO ?aB ?aS ?aL ?_; (case aP => exact rfl); (case aF => exact (fun k hk => Nat.le_trans HS11.out.ord.2.2.2 hk)); (case aO => exact HS11.out.acc); (case aB => exact HS11.out.made); (case aS => exact HS11.out.size); (case aL => have h1 := HAL.out; have h2 := HKK.out; have h3 := HM.out; omega); intro v23 w12 ho hb hg hat; have HX12 := Aside0.mk (blk_grown HX11.out hg (Kd.R_ne HS11.out.acc HX11.out (by decide))); have HS12 := Aside0.mk (HS11.out.app hg hb ho); clear ho hb hg hat; have hxb0 : w12.cell? ⟨w6.heap.size, 0, none⟩ = some (.int .i64 x) := (blk_cell HX12.out 0).trans rfl; have hxb1 : w12.cell? ⟨w6.heap.size, 1, none⟩ = some (.int .i64 y) := (blk_cell HX12.out 1).trans rfl; have hxb2 : w12.cell? ⟨w6.heap.size, 2, none⟩ = some (.int .i64 u) := (blk_cell HX12.out 2).trans rfl; have hcb0 : w12.cell? ⟨gc, 0, none⟩ = some (.int .i64 c0') := (blk_cell HS12.out.cur 0).trans rfl; have hcb1 : w12.cell? ⟨gc, 1, none⟩ = some (.int .i64 c1') := (blk_cell HS12.out.cur 1).trans rfl; have hcb2 : w12.cell? ⟨gc, 2, none⟩ = some (.int .i64 c2') := (blk_cell HS12.out.cur 2).trans rfl; have hf0 := blk_frozen HS12.out.cur 0; have hf1 := blk_frozen HS12.out.cur 1; have hf2 := blk_frozen HS12.out.cur 2)))
                      have HSZ := Aside0.mk (HS12.out.store x y u)
                      have hp := HP2.out
                      rw [← HFO2.out] at hp
                      have hp : planC D a b (m - 1).toNat (m - 1) (stepTo ⟨c0', c1', c2'⟩ u) (acc ++ [u]) = RR := hp
                      rw [HSTP.out, ← HMM.out] at hp
                      have HP3 := Aside0.mk hp
                      have HM1 : Aside0 (0 ≤ m1 ∧ m1 ≤ k ∧ m1.toNat + 1 = m.toNat ∧ ((acc.length : Int) + 1) + m1 ≤ k) := ⟨by have h1 := HMM.out; have h2 := HM.out; have h3 := HAL.out; omega⟩
                      clear hp
                      go_roundg m1.toNat
                      case measure => have h1 := HM1.out; have h2 := HM.out; omega
                      case rel => exact ⟨m1, ⟨x, y, u⟩, acc ++ [u], by first | rfl | rw [hwm1], ⟨HM1.out.1, HM1.out.2.1, Nat.le_refl _⟩, HIN, ⟨by have := HM1.out.2.2.2; simp only [List.length_append, List.length_cons, List.length_nil]; omega⟩, HP3, HSZ⟩
                    · have heqb : (sm == cu) = false := beq_eq_false_iff_ne.2 heq
                      have hfd := HFD4.out
                      rw [decide_eq_false heq, Bool.and_false, if_neg (by decide)] at hfd
                      have HFD5 := Aside0.mk hfd
                      clear hfd heq
                      go_wp2_with (first
                        | (go_at_call 15; go_loud ((with_reducible refine (spec_l05Next.calls 1 a b c0' c1' c2' u x y u true _ HNX.out).mono ?_); rintro e w6 ⟨rfl, hb6⟩; have HS6 := Aside0.mk (HS.out.below hb6); clear hb6))
                        | ((with_reducible refine gate_dst (N := 63) rfl ?_); (with_reducible refine gen_box ?_); go_loud (intro w7 hbox hbw; have HX7 := Aside0.mk hbox; have HS7 := Aside0.mk (HS6.out.below hbw); clear hbox hbw; have hc70 : w7.cell? ⟨gc, 0, none⟩ = some (.int .i64 c0') := (blk_cell HS7.out.cur 0).trans rfl; have hc71 : w7.cell? ⟨gc, 1, none⟩ = some (.int .i64 c1') := (blk_cell HS7.out.cur 1).trans rfl; have hc72 : w7.cell? ⟨gc, 2, none⟩ = some (.int .i64 c2') := (blk_cell HS7.out.cur 2).trans rfl)))
                      have HS8 := Aside0.mk (HS7.out.below (below_drew (Below.refl _ _)))
                      have HX8 := Aside0.mk (blk_drew HX7.out)
                      clear HS7 HX7
                      generalize hw7 : w7.drew = w8 at HS8 HX8
                      obtain ⟨adM, A0, cP, eL, hclp, hCp⟩ := at_LL (Kd.N_reads' HS8.out.out).2.2 m1 (of_eq_true i1t) (of_eq_true i2t)
                      cases eL
                      rw [← HPV.out] at hclp hCp
                      obtain ⟨adP, eP, hxp⟩ := Kd.at_int hCp qn (of_eq_true j1t) (of_eq_true j2t)
                      subst eP
                      rw [← HN1.out] at hxp
                      obtain ⟨adN, A1, cC, eN, hclc, hCc⟩ := at_LL (Kd.N_reads' HS8.out.out).2.2 m (of_eq_true i3t) (of_eq_true i4t)
                      cases eN
                      rw [← HCV.out] at hclc hCc
                      obtain ⟨adC, eC, hxc⟩ := Kd.at_int hCc qc (of_eq_true j3t) (of_eq_true j4t)
                      subst eC
                      rw [← HCU.out] at hxc
                      clear hCp hCc
                      refine start_ (n := 35) (S := fun w' => w'.cell? (adL.add m1.toNat) = some (.slice (some adP) prev.length cP) ∧ w'.cell? (adP.add qn.toNat) = some (.int .i64 n1) ∧ w'.cell? (adL.add m.toNat) = some (.slice (some adC) cur.length cC) ∧ w'.cell? (adC.add qc.toNat) = some (.int .i64 cu) ∧ w'.cell? ⟨w6.heap.size, 0, none⟩ = some (.int .i64 x) ∧ w'.cell? ⟨w6.heap.size, 1, none⟩ = some (.int .i64 y) ∧ w'.cell? ⟨w6.heap.size, 2, none⟩ = some (.int .i64 u) ∧ w'.cell? ⟨gc, 0, none⟩ = some (.int .i64 c0') ∧ w'.cell? ⟨gc, 1, none⟩ = some (.int .i64 c1') ∧ w'.cell? ⟨gc, 2, none⟩ = some (.int .i64 c2')) (ds := []) #[false, false, false, false, false, false, false, false, false, false, false, false, false, false, false, false, false, false, false, false, false, false, false, false, false, false, false, false, false, false, false, false, false, false, false] (by kernel_rfl) rfl rfl (by rw [hw7]; exact ⟨hclp, hxp, hclc, hxc, (blk_cell HX8.out 0).trans rfl, (blk_cell HX8.out 1).trans rfl, (blk_cell HX8.out 2).trans rfl, (blk_cell HS8.out.cur 0).trans rfl, (blk_cell HS8.out.cur 1).trans rfl, (blk_cell HS8.out.cur 2).trans rfl⟩) (fun hHeld => ?_)
                      refine with_tabW specS_tab16 specS_bits16 (fun HT_ HW_ => ?_)
                      rw [hw7] at hHeld ⊢
                      clear hw7
                      refine pure_ (i := 0) (N := some 70) (v := ?_) (a' := ?_) #[true, false, false, false, false, false, false, false, false, false, false, false, false, false, false, false, false, false, false, false, false, false, false, false, false, false, false, false, false, false, false, false, false, false, false] rfl rfl (any_of HT_.out (by kernel_rfl)) (fun _ _ _ h => h) (Or.inl ⟨by rfl, ?_⟩) ?_ ?_
                      rotate_left
                      · intro w'
                        go_simp
                        with_reducible rfl
                      rotate_left
                      · simp only [Act.put, List.setIfInBounds_toArray, List.set_cons_zero, List.set_cons_succ, i64_w, i32_w]
                        rfl
                      refine pure_ (i := 1) (N := some 71) (v := ?_) (a' := ?_) #[true, true, false, false, false, false, false, false, false, false, false, false, false, false, false, false, false, false, false, false, false, false, false, false, false, false, false, false, false, false, false, false, false, false, false] rfl rfl (any_of HT_.out (by kernel_rfl)) (fun _ _ _ h => h) (Or.inl ⟨by rfl, ?_⟩) ?_ ?_
                      rotate_left
                      · intro w'
                        go_simp
                        with_reducible rfl
                      rotate_left
                      · simp only [Act.put, List.setIfInBounds_toArray, List.set_cons_zero, List.set_cons_succ, i64_w, i32_w]
                        rfl
                      refine pure_ (i := 2) (N := some 72) (v := ?_) (a' := ?_) #[true, true, true, false, false, false, false, false, false, false, false, false, false, false, false, false, false, false, false, false, false, false, false, false, false, false, false, false, false, false, false, false, false, false, false] rfl rfl (any_of HT_.out (by kernel_rfl)) (fun _ _ _ h => h) (Or.inl ⟨by rfl, ?_⟩) ?_ ?_
                      rotate_left
                      · intro w'
                        go_simp
                        with_reducible rfl
                      rotate_left
                      · simp only [Act.put, List.setIfInBounds_toArray, List.set_cons_zero, List.set_cons_succ, i64_w, i32_w]
                        rfl
                      refine pure_ (i := 3) (N := some 73) (v := ?_) (a' := ?_) #[true, true, true, true, false, false, false, false, false, false, false, false, false, false, false, false, false, false, false, false, false, false, false, false, false, false, false, false, false, false, false, false, false, false, false] rfl rfl (any_of HT_.out (by kernel_rfl)) (fun _ _ _ h => h) (Or.inl ⟨by rfl, ?_⟩) ?_ ?_
                      rotate_left
                      · intro w'
                        go_simp
                        with_reducible rfl
                      rotate_left
                      · simp only [Act.put, List.setIfInBounds_toArray, List.set_cons_zero, List.set_cons_succ, i64_w, i32_w]
                        rfl
                      refine pure_ (i := 4) (N := some 74) (v := ?_) (a' := ?_) #[true, true, true, true, true, false, false, false, false, false, false, false, false, false, false, false, false, false, false, false, false, false, false, false, false, false, false, false, false, false, false, false, false, false, false] rfl rfl (any_of HT_.out (by kernel_rfl)) (fun _ _ _ h => h) (Or.inl ⟨by rfl, ?_⟩) ?_ ?_
                      rotate_left
                      · intro w'
                        go_simp
                        with_reducible rfl
                      rotate_left
                      · simp only [Act.put, List.setIfInBounds_toArray, List.set_cons_zero, List.set_cons_succ, i64_w, i32_w]
                        rfl
                      refine pure_ (i := 5) (N := some 75) (v := ?_) (a' := ?_) #[true, true, true, true, true, true, false, false, false, false, false, false, false, false, false, false, false, false, false, false, false, false, false, false, false, false, false, false, false, false, false, false, false, false, false] rfl rfl (any_of HT_.out (by kernel_rfl)) (fun _ _ _ h => h) (Or.inl ⟨by rfl, ?_⟩) ?_ ?_
                      rotate_left
                      · intro w'
                        go_simp
                        with_reducible rfl
                      rotate_left
                      · simp only [Act.put, List.setIfInBounds_toArray, List.set_cons_zero, List.set_cons_succ, i64_w, i32_w]
                        rfl
                      refine take_ (i := 6) (N := some 76) (v := ?_) (a' := ?_) #[true, true, true, true, true, true, true, false, false, false, false, false, false, false, false, false, false, false, false, false, false, false, false, false, false, false, false, false, false, false, false, false, false, false, false] rfl rfl (take_ofW HT_.out HW_.out (by kernel_rfl)) (fun _ _ _ h => h) (Or.inl ⟨by rfl, ?_⟩) hHeld ?_ ?_
                      rotate_left
                      · rintro w' ⟨s0, s1, s2_, s3, s4, s5, s6, s7, s8, s9⟩
                        go_simp
                        with_reducible rfl
                      rotate_left
                      · simp only [Act.put, List.setIfInBounds_toArray, List.set_cons_zero, List.set_cons_succ, i64_w, i32_w]
                        rfl
                      refine take_ (i := 7) (N := some 77) (v := ?_) (a' := ?_) #[true, true, true, true, true, true, true, true, false, false, false, false, false, false, false, false, false, false, false, false, false, false, false, false, false, false, false, false, false, false, false, false, false, false, false] rfl rfl (take_ofW HT_.out HW_.out (by kernel_rfl)) (fun _ _ _ h => h) (Or.inl ⟨by rfl, ?_⟩) hHeld ?_ ?_
                      rotate_left
                      · rintro w' ⟨s0, s1, s2_, s3, s4, s5, s6, s7, s8, s9⟩
                        go_simp
                        with_reducible rfl
                      rotate_left
                      · simp only [Act.put, List.setIfInBounds_toArray, List.set_cons_zero, List.set_cons_succ, i64_w, i32_w]
                        rfl
                      refine one_ (i := 8) (N := some 78) #[true, true, true, true, true, true, true, true, true, false, false, false, false, false, false, false, false, false, false, false, false, false, false, false, false, false, false, false, false, false, false, false, false, false, false] rfl rfl (one_of HT_.out (by kernel_rfl)) (by decide) (fun K hK => ?_)
                      refine goes_ Try.func14 (by kernel_rfl) rfl #[.agg #[.int .i64 x, .int .i64 y, .int .i64 u]] (by rfl) rfl rfl (by (try simp only [List.map_toArray, List.map_cons, List.map_nil]); first | done | rfl | (simp only [List.length_drop, List.length_take]; rfl)) ?_
                      refine (spec_l05Spot.calls x y u qn _ HSN.out).mono ?_
                      rintro e w9 ⟨rfl, hb⟩
                      refine ⟨_, rfl, ?_⟩
                      have HS9 := Aside0.mk (HS8.out.below hb)
                      have HX9 := Aside0.mk (blk_below HX8.out hb)
                      have hclpA := pw_cell_below hb hclp
                      have hxpA := pw_cell_below hb hxp
                      have hclcA := pw_cell_below hb hclc
                      have hxcA := pw_cell_below hb hxc
                      clear hb hclp hxp hclc hxc HS8 HX8
                      refine hK.out _ _ ⟨hclpA, hxpA, hclcA, hxcA, (blk_cell HX9.out 0).trans rfl, (blk_cell HX9.out 1).trans rfl, (blk_cell HX9.out 2).trans rfl, (blk_cell HS9.out.cur 0).trans rfl, (blk_cell HS9.out.cur 1).trans rfl, (blk_cell HS9.out.cur 2).trans rfl⟩ (fun hHeld => ?_)
                      clear hK K
                      refine norm_ (a' := ?_) ?_ ?_
                      rotate_left
                      · show Act.put _ (some 78) _ = _
                        simp only [Act.put, List.setIfInBounds_toArray, List.set_cons_zero, List.set_cons_succ, i64_w, i32_w]
                        rfl
                      refine pure_ (i := 9) (N := some 79) (v := ?_) (a' := ?_) #[true, true, true, true, true, true, true, true, true, true, false, false, false, false, false, false, false, false, false, false, false, false, false, false, false, false, false, false, false, false, false, false, false, false, false] rfl rfl (any_of HT_.out (by kernel_rfl)) (fun _ _ _ h => h) (Or.inl ⟨by rfl, ?_⟩) ?_ ?_
                      rotate_left
                      · intro w'
                        go_simp
                        with_reducible rfl
                      rotate_left
                      · simp only [Act.put, List.setIfInBounds_toArray, List.set_cons_zero, List.set_cons_succ, i64_w, i32_w]
                        rfl
                      refine take_ (i := 10) (N := some 80) (v := ?_) (a' := ?_) #[true, true, true, true, true, true, true, true, true, true, true, false, false, false, false, false, false, false, false, false, false, false, false, false, false, false, false, false, false, false, false, false, false, false, false] rfl rfl (take_ofW HT_.out HW_.out (by kernel_rfl)) (fun _ _ _ h => h) (Or.inl ⟨by rfl, ?_⟩) hHeld ?_ ?_
                      rotate_left
                      · rintro w' ⟨s0, s1, s2_, s3, s4, s5, s6, s7, s8, s9⟩
                        go_simp
                        with_reducible rfl
                      rotate_left
                      · simp only [Act.put, List.setIfInBounds_toArray, List.set_cons_zero, List.set_cons_succ, i64_w, i32_w]
                        rfl
                      refine pure_ (i := 11) (N := some 81) (v := ?_) (a' := ?_) #[true, true, true, true, true, true, true, true, true, true, true, true, false, false, false, false, false, false, false, false, false, false, false, false, false, false, false, false, false, false, false, false, false, false, false] rfl rfl (any_of HT_.out (by kernel_rfl)) (fun _ _ _ h => h) (Or.inl ⟨by rfl, ?_⟩) ?_ ?_
                      rotate_left
                      · intro w'
                        go_simp
                        with_reducible rfl
                      rotate_left
                      · simp only [Act.put, List.setIfInBounds_toArray, List.set_cons_zero, List.set_cons_succ, i64_w, i32_w]
                        rfl
                      refine pure_ (i := 12) (N := some 82) (v := ?_) (a' := ?_) #[true, true, true, true, true, true, true, true, true, true, true, true, true, false, false, false, false, false, false, false, false, false, false, false, false, false, false, false, false, false, false, false, false, false, false] rfl rfl (any_of HT_.out (by kernel_rfl)) (fun _ _ _ h => h) (Or.inl ⟨by rfl, ?_⟩) ?_ ?_
                      rotate_left
                      · intro w'
                        go_simp
                        with_reducible rfl
                      rotate_left
                      · simp only [Act.put, List.setIfInBounds_toArray, List.set_cons_zero, List.set_cons_succ, i64_w, i32_w]
                        rfl
                      refine pure_ (i := 13) (N := some 83) (v := ?_) (a' := ?_) #[true, true, true, true, true, true, true, true, true, true, true, true, true, true, false, false, false, false, false, false, false, false, false, false, false, false, false, false, false, false, false, false, false, false, false] rfl rfl (any_of HT_.out (by kernel_rfl)) (fun _ _ _ h => h) (Or.inl ⟨by rfl, ?_⟩) ?_ ?_
                      rotate_left
                      · intro w'
                        go_simp
                        with_reducible rfl
                      rotate_left
                      · simp only [Act.put, List.setIfInBounds_toArray, List.set_cons_zero, List.set_cons_succ, i64_w, i32_w]
                        rfl
                      refine pure_ (i := 14) (N := some 84) (v := ?_) (a' := ?_) #[true, true, true, true, true, true, true, true, true, true, true, true, true, true, true, false, false, false, false, false, false, false, false, false, false, false, false, false, false, false, false, false, false, false, false] rfl rfl (any_of HT_.out (by kernel_rfl)) (fun _ _ _ h => h) (Or.inl ⟨by rfl, ?_⟩) ?_ ?_
                      rotate_left
                      · intro w'
                        go_simp
                        with_reducible rfl
                      rotate_left
                      · simp only [Act.put, List.setIfInBounds_toArray, List.set_cons_zero, List.set_cons_succ, i64_w, i32_w]
                        rfl
                      refine pure_ (i := 15) (N := some 85) (v := ?_) (a' := ?_) #[true, true, true, true, true, true, true, true, true, true, true, true, true, true, true, true, false, false, false, false, false, false, false, false, false, false, false, false, false, false, false, false, false, false, false] rfl rfl (any_of HT_.out (by kernel_rfl)) (fun _ _ _ h => h) (Or.inl ⟨by rfl, ?_⟩) ?_ ?_
                      rotate_left
                      · intro w'
                        go_simp
                        with_reducible rfl
                      rotate_left
                      · simp only [Act.put, List.setIfInBounds_toArray, List.set_cons_zero, List.set_cons_succ, i64_w, i32_w]
                        rfl
                      refine pure_ (i := 16) (N := some 86) (v := ?_) (a' := ?_) #[true, true, true, true, true, true, true, true, true, true, true, true, true, true, true, true, true, false, false, false, false, false, false, false, false, false, false, false, false, false, false, false, false, false, false] rfl rfl (any_of HT_.out (by kernel_rfl)) (fun _ _ _ h => h) (Or.inl ⟨by rfl, ?_⟩) ?_ ?_
                      rotate_left
                      · intro w'
                        go_simp
                        with_reducible rfl
                      rotate_left
                      · simp only [Act.put, List.setIfInBounds_toArray, List.set_cons_zero, List.set_cons_succ, i64_w, i32_w]
                        rfl
                      refine pure_ (i := 17) (N := some 87) (v := ?_) (a' := ?_) #[true, true, true, true, true, true, true, true, true, true, true, true, true, true, true, true, true, true, false, false, false, false, false, false, false, false, false, false, false, false, false, false, false, false, false] rfl rfl (any_of HT_.out (by kernel_rfl)) (fun _ _ _ h => h) (Or.inl ⟨by rfl, ?_⟩) ?_ ?_
                      rotate_left
                      · intro w'
                        go_simp
                        with_reducible rfl
                      rotate_left
                      · simp only [Act.put, List.setIfInBounds_toArray, List.set_cons_zero, List.set_cons_succ, i64_w, i32_w]
                        rfl
                      refine take_ (i := 18) (N := some 88) (v := ?_) (a' := ?_) #[true, true, true, true, true, true, true, true, true, true, true, true, true, true, true, true, true, true, true, false, false, false, false, false, false, false, false, false, false, false, false, false, false, false, false] rfl rfl (take_ofW HT_.out HW_.out (by kernel_rfl)) (fun _ _ _ h => h) (Or.inl ⟨by rfl, ?_⟩) hHeld ?_ ?_
                      rotate_left
                      · rintro w' ⟨s0, s1, s2_, s3, s4, s5, s6, s7, s8, s9⟩
                        go_simp
                        with_reducible rfl
                      rotate_left
                      · simp only [Act.put, List.setIfInBounds_toArray, List.set_cons_zero, List.set_cons_succ, i64_w, i32_w]
                        rfl
                      refine take_ (i := 19) (N := some 89) (v := ?_) (a' := ?_) #[true, true, true, true, true, true, true, true, true, true, true, true, true, true, true, true, true, true, true, true, false, false, false, false, false, false, false, false, false, false, false, false, false, false, false] rfl rfl (take_ofW HT_.out HW_.out (by kernel_rfl)) (fun _ _ _ h => h) (Or.inl ⟨by rfl, ?_⟩) hHeld ?_ ?_
                      rotate_left
                      · rintro w' ⟨s0, s1, s2_, s3, s4, s5, s6, s7, s8, s9⟩
                        go_simp
                        with_reducible rfl
                      rotate_left
                      · simp only [Act.put, List.setIfInBounds_toArray, List.set_cons_zero, List.set_cons_succ, i64_w, i32_w]
                        rfl
                      refine pure_ (i := 23) (N := some 93) (v := ?_) (a' := ?_) #[true, true, true, true, true, true, true, true, true, true, true, true, true, true, true, true, true, true, true, true, false, false, false, true, false, false, false, false, false, false, false, false, false, false, false] rfl rfl (any_of HT_.out (by kernel_rfl)) (fun _ _ _ h => h) (Or.inl ⟨by rfl, ?_⟩) ?_ ?_
                      rotate_left
                      · intro w'
                        go_simp
                        with_reducible rfl
                      rotate_left
                      · simp only [Act.put, List.setIfInBounds_toArray, List.set_cons_zero, List.set_cons_succ, i64_w, i32_w]
                        rfl
                      refine pure_ (i := 25) (N := some 95) (v := ?_) (a' := ?_) #[true, true, true, true, true, true, true, true, true, true, true, true, true, true, true, true, true, true, true, true, false, false, false, true, false, true, false, false, false, false, false, false, false, false, false] rfl rfl (any_of HT_.out (by kernel_rfl)) (fun _ _ _ h => h) (Or.inl ⟨by rfl, ?_⟩) ?_ ?_
                      rotate_left
                      · intro w'
                        go_simp
                        with_reducible rfl
                      rotate_left
                      · simp only [Act.put, List.setIfInBounds_toArray, List.set_cons_zero, List.set_cons_succ, i64_w, i32_w]
                        rfl
                      refine pure_ (i := 26) (N := some 96) (v := ?_) (a' := ?_) #[true, true, true, true, true, true, true, true, true, true, true, true, true, true, true, true, true, true, true, true, false, false, false, true, false, true, true, false, false, false, false, false, false, false, false] rfl rfl (any_of HT_.out (by kernel_rfl)) (fun _ _ _ h => h) (Or.inl ⟨by rfl, ?_⟩) ?_ ?_
                      rotate_left
                      · intro w'
                        go_simp
                        with_reducible rfl
                      rotate_left
                      · simp only [Act.put, List.setIfInBounds_toArray, List.set_cons_zero, List.set_cons_succ, i64_w, i32_w]
                        rfl
                      refine pure_ (i := 27) (N := some 97) (v := ?_) (a' := ?_) #[true, true, true, true, true, true, true, true, true, true, true, true, true, true, true, true, true, true, true, true, false, false, false, true, false, true, true, true, false, false, false, false, false, false, false] rfl rfl (any_of HT_.out (by kernel_rfl)) (fun _ _ _ h => h) (Or.inl ⟨by rfl, ?_⟩) ?_ ?_
                      rotate_left
                      · intro w'
                        go_simp
                        with_reducible rfl
                      rotate_left
                      · simp only [Act.put, List.setIfInBounds_toArray, List.set_cons_zero, List.set_cons_succ, i64_w, i32_w]
                        rfl
                      refine take_ (i := 28) (N := some 98) (v := ?_) (a' := ?_) #[true, true, true, true, true, true, true, true, true, true, true, true, true, true, true, true, true, true, true, true, false, false, false, true, false, true, true, true, true, false, false, false, false, false, false] rfl rfl (take_ofW HT_.out HW_.out (by kernel_rfl)) (fun _ _ _ h => h) (Or.inl ⟨by rfl, ?_⟩) hHeld ?_ ?_
                      rotate_left
                      · rintro w' ⟨s0, s1, s2_, s3, s4, s5, s6, s7, s8, s9⟩
                        go_simp
                        with_reducible rfl
                      rotate_left
                      · simp only [Act.put, List.setIfInBounds_toArray, List.set_cons_zero, List.set_cons_succ, i64_w, i32_w]
                        rfl
                      refine take_ (i := 29) (N := some 99) (v := ?_) (a' := ?_) #[true, true, true, true, true, true, true, true, true, true, true, true, true, true, true, true, true, true, true, true, false, false, false, true, false, true, true, true, true, true, false, false, false, false, false] rfl rfl (take_ofW HT_.out HW_.out (by kernel_rfl)) (fun _ _ _ h => h) (Or.inl ⟨by rfl, ?_⟩) hHeld ?_ ?_
                      rotate_left
                      · rintro w' ⟨s0, s1, s2_, s3, s4, s5, s6, s7, s8, s9⟩
                        go_simp
                        with_reducible rfl
                      rotate_left
                      · simp only [Act.put, List.setIfInBounds_toArray, List.set_cons_zero, List.set_cons_succ, i64_w, i32_w]
                        rfl
                      refine one_ (i := 20) (N := some 90) #[true, true, true, true, true, true, true, true, true, true, true, true, true, true, true, true, true, true, true, true, true, false, false, true, false, true, true, true, true, true, false, false, false, false, false] rfl rfl (one_of HT_.out (by kernel_rfl)) (by decide) (fun K hK => ?_)
                      refine goes_ Try.func14 (by kernel_rfl) rfl #[.agg #[.int .i64 x, .int .i64 y, .int .i64 u]] (by rfl) rfl rfl (by (try simp only [List.map_toArray, List.map_cons, List.map_nil]); first | done | rfl | (simp only [List.length_drop, List.length_take]; rfl)) ?_
                      refine (spec_l05Spot.calls x y u qn _ HSN.out).mono ?_
                      rintro e w10 ⟨rfl, hb⟩
                      refine ⟨_, rfl, ?_⟩
                      have HS10 := Aside0.mk (HS9.out.below hb)
                      have HX10 := Aside0.mk (blk_below HX9.out hb)
                      have hclpB := pw_cell_below hb hclpA
                      have hxpB := pw_cell_below hb hxpA
                      have hclcB := pw_cell_below hb hclcA
                      have hxcB := pw_cell_below hb hxcA
                      clear hb hclpA hxpA hclcA hxcA HS9 HX9
                      refine hK.out _ _ ⟨hclpB, hxpB, hclcB, hxcB, (blk_cell HX10.out 0).trans rfl, (blk_cell HX10.out 1).trans rfl, (blk_cell HX10.out 2).trans rfl, (blk_cell HS10.out.cur 0).trans rfl, (blk_cell HS10.out.cur 1).trans rfl, (blk_cell HS10.out.cur 2).trans rfl⟩ (fun hHeld => ?_)
                      clear hK K
                      refine norm_ (a' := ?_) ?_ ?_
                      rotate_left
                      · show Act.put _ (some 90) _ = _
                        simp only [Act.put, List.setIfInBounds_toArray, List.set_cons_zero, List.set_cons_succ, i64_w, i32_w]
                        rfl
                      refine pure_ (i := 21) (N := some 91) (v := ?_) (a' := ?_) #[true, true, true, true, true, true, true, true, true, true, true, true, true, true, true, true, true, true, true, true, true, true, false, true, false, true, true, true, true, true, false, false, false, false, false] rfl rfl (any_of HT_.out (by kernel_rfl)) (fun _ _ _ h => h) (Or.inl ⟨by rfl, ?_⟩) ?_ ?_
                      rotate_left
                      · intro w'
                        go_simp
                        with_reducible rfl
                      rotate_left
                      · simp only [Act.put, List.setIfInBounds_toArray, List.set_cons_zero, List.set_cons_succ, i64_w, i32_w]
                        rfl
                      refine take_ (i := 22) (N := some 92) (v := ?_) (a' := ?_) #[true, true, true, true, true, true, true, true, true, true, true, true, true, true, true, true, true, true, true, true, true, true, true, true, false, true, true, true, true, true, false, false, false, false, false] rfl rfl (take_ofW HT_.out HW_.out (by kernel_rfl)) (fun _ _ _ h => h) (Or.inl ⟨by rfl, ?_⟩) hHeld ?_ ?_
                      rotate_left
                      · rintro w' ⟨s0, s1, s2_, s3, s4, s5, s6, s7, s8, s9⟩
                        go_simp
                        with_reducible rfl
                      rotate_left
                      · simp only [Act.put, List.setIfInBounds_toArray, List.set_cons_zero, List.set_cons_succ, i64_w, i32_w]
                        rfl
                      refine pure_ (i := 24) (N := some 94) (v := ?_) (a' := ?_) #[true, true, true, true, true, true, true, true, true, true, true, true, true, true, true, true, true, true, true, true, true, true, true, true, true, true, true, true, true, true, false, false, false, false, false] rfl rfl (any_of HT_.out (by kernel_rfl)) (fun _ _ _ h => h) (Or.inl ⟨by rfl, ?_⟩) ?_ ?_
                      rotate_left
                      · intro w'
                        go_simp
                        with_reducible rfl
                      rotate_left
                      · simp only [Act.put, List.setIfInBounds_toArray, List.set_cons_zero, List.set_cons_succ, i64_w, i32_w]
                        rfl
                      refine one_ (i := 30) (N := some 100) #[true, true, true, true, true, true, true, true, true, true, true, true, true, true, true, true, true, true, true, true, true, true, true, true, true, true, true, true, true, true, true, false, false, false, false] rfl rfl (one_of HT_.out (by kernel_rfl)) (by decide) (fun K hK => ?_)
                      refine goes_ Try.func14 (by kernel_rfl) rfl #[.agg #[.int .i64 c0', .int .i64 c1', .int .i64 c2']] (by rfl) rfl rfl (by (try simp only [List.map_toArray, List.map_cons, List.map_nil]); first | done | rfl | (simp only [List.length_drop, List.length_take]; rfl)) ?_
                      refine (spec_l05Spot.calls c0' c1' c2' qc _ HSC.out).mono ?_
                      rintro e w11 ⟨rfl, hb⟩
                      refine ⟨_, rfl, ?_⟩
                      have HS11 := Aside0.mk (HS10.out.below hb)
                      have HX11 := Aside0.mk (blk_below HX10.out hb)
                      have hclpC := pw_cell_below hb hclpB
                      have hxpC := pw_cell_below hb hxpB
                      have hclcC := pw_cell_below hb hclcB
                      have hxcC := pw_cell_below hb hxcB
                      clear hb hclpB hxpB hclcB hxcB HS10 HX10
                      refine hK.out _ _ ⟨hclpC, hxpC, hclcC, hxcC, (blk_cell HX11.out 0).trans rfl, (blk_cell HX11.out 1).trans rfl, (blk_cell HX11.out 2).trans rfl, (blk_cell HS11.out.cur 0).trans rfl, (blk_cell HS11.out.cur 1).trans rfl, (blk_cell HS11.out.cur 2).trans rfl⟩ (fun hHeld => ?_)
                      clear hK K
                      refine norm_ (a' := ?_) ?_ ?_
                      rotate_left
                      · show Act.put _ (some 100) _ = _
                        simp only [Act.put, List.setIfInBounds_toArray, List.set_cons_zero, List.set_cons_succ, i64_w, i32_w]
                        rfl
                      refine pure_ (i := 31) (N := some 101) (v := ?_) (a' := ?_) #[true, true, true, true, true, true, true, true, true, true, true, true, true, true, true, true, true, true, true, true, true, true, true, true, true, true, true, true, true, true, true, true, false, false, false] rfl rfl (any_of HT_.out (by kernel_rfl)) (fun _ _ _ h => h) (Or.inl ⟨by rfl, ?_⟩) ?_ ?_
                      rotate_left
                      · intro w'
                        go_simp
                        with_reducible rfl
                      rotate_left
                      · simp only [Act.put, List.setIfInBounds_toArray, List.set_cons_zero, List.set_cons_succ, i64_w, i32_w]
                        rfl
                      refine take_ (i := 32) (N := some 102) (v := ?_) (a' := ?_) #[true, true, true, true, true, true, true, true, true, true, true, true, true, true, true, true, true, true, true, true, true, true, true, true, true, true, true, true, true, true, true, true, true, false, false] rfl rfl (take_ofW HT_.out HW_.out (by kernel_rfl)) (fun _ _ _ h => h) (Or.inl ⟨by rfl, ?_⟩) hHeld ?_ ?_
                      rotate_left
                      · rintro w' ⟨s0, s1, s2_, s3, s4, s5, s6, s7, s8, s9⟩
                        go_simp
                        with_reducible rfl
                      rotate_left
                      · simp only [Act.put, List.setIfInBounds_toArray, List.set_cons_zero, List.set_cons_succ, i64_w, i32_w]
                        rfl
                      refine pure_ (i := 33) (N := some 103) (v := ?_) (a' := ?_) #[true, true, true, true, true, true, true, true, true, true, true, true, true, true, true, true, true, true, true, true, true, true, true, true, true, true, true, true, true, true, true, true, true, true, false] rfl rfl (any_of HT_.out (by kernel_rfl)) (fun _ _ _ h => h) (Or.inl ⟨by rfl, ?_⟩) ?_ ?_
                      rotate_left
                      · intro w'
                        go_simp
                        with_reducible rfl
                      rotate_left
                      · simp only [Act.put, List.setIfInBounds_toArray, List.set_cons_zero, List.set_cons_succ, i64_w, i32_w]
                        rfl
                      refine pure_ (i := 34) (N := some 104) (v := ?_) (a' := ?_) #[true, true, true, true, true, true, true, true, true, true, true, true, true, true, true, true, true, true, true, true, true, true, true, true, true, true, true, true, true, true, true, true, true, true, true] rfl rfl (any_of HT_.out (by kernel_rfl)) (fun _ _ _ h => h) (Or.inl ⟨by rfl, ?_⟩) ?_ ?_
                      rotate_left
                      · intro w'
                        go_simp
                        with_reducible rfl
                      rotate_left
                      · simp only [Act.put, List.setIfInBounds_toArray, List.set_cons_zero, List.set_cons_succ, i64_w, i32_w]
                        rfl
                      refine done_ (done_of HT_.out (by kernel_rfl)) ?_
                      clear hHeld hclpC hxpC hclcC hxcC
                      have HSF := Aside0.mk HS11.out
                      go_wp2
                      go_roundg (a - u).toNat
                      case measure => have := HU.out; omega
                      case rel => exact ⟨u + 1, by first | rfl | rw [hwu], ⟨by omega, by omega, by omega⟩, HFD5, HSF⟩
                  · have hposb : decide (0 < n1) = false := decide_eq_false hpos
                    have hfd := HFD4.out
                    rw [hposb, Bool.false_and, if_neg (by decide)] at hfd
                    have HFD5 := Aside0.mk hfd
                    clear hfd
                    go_wp2_with (first
                      | (go_at_call 15; go_loud ((with_reducible refine (spec_l05Next.calls 1 a b c0' c1' c2' u x y u true _ HNX.out).mono ?_); rintro e w6 ⟨rfl, hb6⟩; have HS6 := Aside0.mk (HS.out.below hb6); clear hb6))
                      | ((with_reducible refine gate_dst (N := 63) rfl ?_); (with_reducible refine gen_box ?_); go_loud (intro w7 hbox hbw; have HX7 := Aside0.mk hbox; have HS7 := Aside0.mk (HS6.out.below hbw); clear hbox hbw; have hc70 : w7.cell? ⟨gc, 0, none⟩ = some (.int .i64 c0') := (blk_cell HS7.out.cur 0).trans rfl; have hc71 : w7.cell? ⟨gc, 1, none⟩ = some (.int .i64 c1') := (blk_cell HS7.out.cur 1).trans rfl; have hc72 : w7.cell? ⟨gc, 2, none⟩ = some (.int .i64 c2') := (blk_cell HS7.out.cur 2).trans rfl)))
                    have HS8 := Aside0.mk (HS7.out.below (below_drew (Below.refl _ _)))
                    have HX8 := Aside0.mk (blk_drew HX7.out)
                    clear HS7 HX7
                    generalize hw7 : w7.drew = w8 at HS8 HX8
                    obtain ⟨adM, A0, cP, eL, hclp, hCp⟩ := at_LL (Kd.N_reads' HS8.out.out).2.2 m1 (of_eq_true i1t) (of_eq_true i2t)
                    cases eL
                    rw [← HPV.out] at hclp hCp
                    obtain ⟨adP, eP, hxp⟩ := Kd.at_int hCp qn (of_eq_true j1t) (of_eq_true j2t)
                    subst eP
                    rw [← HN1.out] at hxp
                    obtain ⟨adN, A1, cC, eN, hclc, hCc⟩ := at_LL (Kd.N_reads' HS8.out.out).2.2 m (of_eq_true i3t) (of_eq_true i4t)
                    cases eN
                    rw [← HCV.out] at hclc hCc
                    obtain ⟨adC, eC, hxc⟩ := Kd.at_int hCc qc (of_eq_true j3t) (of_eq_true j4t)
                    subst eC
                    rw [← HCU.out] at hxc
                    clear hCp hCc
                    refine start_ (n := 35) (S := fun w' => w'.cell? (adL.add m1.toNat) = some (.slice (some adP) prev.length cP) ∧ w'.cell? (adP.add qn.toNat) = some (.int .i64 n1) ∧ w'.cell? (adL.add m.toNat) = some (.slice (some adC) cur.length cC) ∧ w'.cell? (adC.add qc.toNat) = some (.int .i64 cu) ∧ w'.cell? ⟨w6.heap.size, 0, none⟩ = some (.int .i64 x) ∧ w'.cell? ⟨w6.heap.size, 1, none⟩ = some (.int .i64 y) ∧ w'.cell? ⟨w6.heap.size, 2, none⟩ = some (.int .i64 u) ∧ w'.cell? ⟨gc, 0, none⟩ = some (.int .i64 c0') ∧ w'.cell? ⟨gc, 1, none⟩ = some (.int .i64 c1') ∧ w'.cell? ⟨gc, 2, none⟩ = some (.int .i64 c2')) (ds := []) #[false, false, false, false, false, false, false, false, false, false, false, false, false, false, false, false, false, false, false, false, false, false, false, false, false, false, false, false, false, false, false, false, false, false, false] (by kernel_rfl) rfl rfl (by rw [hw7]; exact ⟨hclp, hxp, hclc, hxc, (blk_cell HX8.out 0).trans rfl, (blk_cell HX8.out 1).trans rfl, (blk_cell HX8.out 2).trans rfl, (blk_cell HS8.out.cur 0).trans rfl, (blk_cell HS8.out.cur 1).trans rfl, (blk_cell HS8.out.cur 2).trans rfl⟩) (fun hHeld => ?_)
                    refine with_tabW specS_tab16 specS_bits16 (fun HT_ HW_ => ?_)
                    rw [hw7] at hHeld ⊢
                    clear hw7
                    refine pure_ (i := 0) (N := some 70) (v := ?_) (a' := ?_) #[true, false, false, false, false, false, false, false, false, false, false, false, false, false, false, false, false, false, false, false, false, false, false, false, false, false, false, false, false, false, false, false, false, false, false] rfl rfl (any_of HT_.out (by kernel_rfl)) (fun _ _ _ h => h) (Or.inl ⟨by rfl, ?_⟩) ?_ ?_
                    rotate_left
                    · intro w'
                      go_simp
                      with_reducible rfl
                    rotate_left
                    · simp only [Act.put, List.setIfInBounds_toArray, List.set_cons_zero, List.set_cons_succ, i64_w, i32_w]
                      rfl
                    refine pure_ (i := 1) (N := some 71) (v := ?_) (a' := ?_) #[true, true, false, false, false, false, false, false, false, false, false, false, false, false, false, false, false, false, false, false, false, false, false, false, false, false, false, false, false, false, false, false, false, false, false] rfl rfl (any_of HT_.out (by kernel_rfl)) (fun _ _ _ h => h) (Or.inl ⟨by rfl, ?_⟩) ?_ ?_
                    rotate_left
                    · intro w'
                      go_simp
                      with_reducible rfl
                    rotate_left
                    · simp only [Act.put, List.setIfInBounds_toArray, List.set_cons_zero, List.set_cons_succ, i64_w, i32_w]
                      rfl
                    refine pure_ (i := 2) (N := some 72) (v := ?_) (a' := ?_) #[true, true, true, false, false, false, false, false, false, false, false, false, false, false, false, false, false, false, false, false, false, false, false, false, false, false, false, false, false, false, false, false, false, false, false] rfl rfl (any_of HT_.out (by kernel_rfl)) (fun _ _ _ h => h) (Or.inl ⟨by rfl, ?_⟩) ?_ ?_
                    rotate_left
                    · intro w'
                      go_simp
                      with_reducible rfl
                    rotate_left
                    · simp only [Act.put, List.setIfInBounds_toArray, List.set_cons_zero, List.set_cons_succ, i64_w, i32_w]
                      rfl
                    refine pure_ (i := 3) (N := some 73) (v := ?_) (a' := ?_) #[true, true, true, true, false, false, false, false, false, false, false, false, false, false, false, false, false, false, false, false, false, false, false, false, false, false, false, false, false, false, false, false, false, false, false] rfl rfl (any_of HT_.out (by kernel_rfl)) (fun _ _ _ h => h) (Or.inl ⟨by rfl, ?_⟩) ?_ ?_
                    rotate_left
                    · intro w'
                      go_simp
                      with_reducible rfl
                    rotate_left
                    · simp only [Act.put, List.setIfInBounds_toArray, List.set_cons_zero, List.set_cons_succ, i64_w, i32_w]
                      rfl
                    refine pure_ (i := 4) (N := some 74) (v := ?_) (a' := ?_) #[true, true, true, true, true, false, false, false, false, false, false, false, false, false, false, false, false, false, false, false, false, false, false, false, false, false, false, false, false, false, false, false, false, false, false] rfl rfl (any_of HT_.out (by kernel_rfl)) (fun _ _ _ h => h) (Or.inl ⟨by rfl, ?_⟩) ?_ ?_
                    rotate_left
                    · intro w'
                      go_simp
                      with_reducible rfl
                    rotate_left
                    · simp only [Act.put, List.setIfInBounds_toArray, List.set_cons_zero, List.set_cons_succ, i64_w, i32_w]
                      rfl
                    refine pure_ (i := 5) (N := some 75) (v := ?_) (a' := ?_) #[true, true, true, true, true, true, false, false, false, false, false, false, false, false, false, false, false, false, false, false, false, false, false, false, false, false, false, false, false, false, false, false, false, false, false] rfl rfl (any_of HT_.out (by kernel_rfl)) (fun _ _ _ h => h) (Or.inl ⟨by rfl, ?_⟩) ?_ ?_
                    rotate_left
                    · intro w'
                      go_simp
                      with_reducible rfl
                    rotate_left
                    · simp only [Act.put, List.setIfInBounds_toArray, List.set_cons_zero, List.set_cons_succ, i64_w, i32_w]
                      rfl
                    refine take_ (i := 6) (N := some 76) (v := ?_) (a' := ?_) #[true, true, true, true, true, true, true, false, false, false, false, false, false, false, false, false, false, false, false, false, false, false, false, false, false, false, false, false, false, false, false, false, false, false, false] rfl rfl (take_ofW HT_.out HW_.out (by kernel_rfl)) (fun _ _ _ h => h) (Or.inl ⟨by rfl, ?_⟩) hHeld ?_ ?_
                    rotate_left
                    · rintro w' ⟨s0, s1, s2_, s3, s4, s5, s6, s7, s8, s9⟩
                      go_simp
                      with_reducible rfl
                    rotate_left
                    · simp only [Act.put, List.setIfInBounds_toArray, List.set_cons_zero, List.set_cons_succ, i64_w, i32_w]
                      rfl
                    refine take_ (i := 7) (N := some 77) (v := ?_) (a' := ?_) #[true, true, true, true, true, true, true, true, false, false, false, false, false, false, false, false, false, false, false, false, false, false, false, false, false, false, false, false, false, false, false, false, false, false, false] rfl rfl (take_ofW HT_.out HW_.out (by kernel_rfl)) (fun _ _ _ h => h) (Or.inl ⟨by rfl, ?_⟩) hHeld ?_ ?_
                    rotate_left
                    · rintro w' ⟨s0, s1, s2_, s3, s4, s5, s6, s7, s8, s9⟩
                      go_simp
                      with_reducible rfl
                    rotate_left
                    · simp only [Act.put, List.setIfInBounds_toArray, List.set_cons_zero, List.set_cons_succ, i64_w, i32_w]
                      rfl
                    refine one_ (i := 8) (N := some 78) #[true, true, true, true, true, true, true, true, true, false, false, false, false, false, false, false, false, false, false, false, false, false, false, false, false, false, false, false, false, false, false, false, false, false, false] rfl rfl (one_of HT_.out (by kernel_rfl)) (by decide) (fun K hK => ?_)
                    refine goes_ Try.func14 (by kernel_rfl) rfl #[.agg #[.int .i64 x, .int .i64 y, .int .i64 u]] (by rfl) rfl rfl (by (try simp only [List.map_toArray, List.map_cons, List.map_nil]); first | done | rfl | (simp only [List.length_drop, List.length_take]; rfl)) ?_
                    refine (spec_l05Spot.calls x y u qn _ HSN.out).mono ?_
                    rintro e w9 ⟨rfl, hb⟩
                    refine ⟨_, rfl, ?_⟩
                    have HS9 := Aside0.mk (HS8.out.below hb)
                    have HX9 := Aside0.mk (blk_below HX8.out hb)
                    have hclpA := pw_cell_below hb hclp
                    have hxpA := pw_cell_below hb hxp
                    have hclcA := pw_cell_below hb hclc
                    have hxcA := pw_cell_below hb hxc
                    clear hb hclp hxp hclc hxc HS8 HX8
                    refine hK.out _ _ ⟨hclpA, hxpA, hclcA, hxcA, (blk_cell HX9.out 0).trans rfl, (blk_cell HX9.out 1).trans rfl, (blk_cell HX9.out 2).trans rfl, (blk_cell HS9.out.cur 0).trans rfl, (blk_cell HS9.out.cur 1).trans rfl, (blk_cell HS9.out.cur 2).trans rfl⟩ (fun hHeld => ?_)
                    clear hK K
                    refine norm_ (a' := ?_) ?_ ?_
                    rotate_left
                    · show Act.put _ (some 78) _ = _
                      simp only [Act.put, List.setIfInBounds_toArray, List.set_cons_zero, List.set_cons_succ, i64_w, i32_w]
                      rfl
                    refine pure_ (i := 9) (N := some 79) (v := ?_) (a' := ?_) #[true, true, true, true, true, true, true, true, true, true, false, false, false, false, false, false, false, false, false, false, false, false, false, false, false, false, false, false, false, false, false, false, false, false, false] rfl rfl (any_of HT_.out (by kernel_rfl)) (fun _ _ _ h => h) (Or.inl ⟨by rfl, ?_⟩) ?_ ?_
                    rotate_left
                    · intro w'
                      go_simp
                      with_reducible rfl
                    rotate_left
                    · simp only [Act.put, List.setIfInBounds_toArray, List.set_cons_zero, List.set_cons_succ, i64_w, i32_w]
                      rfl
                    refine take_ (i := 10) (N := some 80) (v := ?_) (a' := ?_) #[true, true, true, true, true, true, true, true, true, true, true, false, false, false, false, false, false, false, false, false, false, false, false, false, false, false, false, false, false, false, false, false, false, false, false] rfl rfl (take_ofW HT_.out HW_.out (by kernel_rfl)) (fun _ _ _ h => h) (Or.inl ⟨by rfl, ?_⟩) hHeld ?_ ?_
                    rotate_left
                    · rintro w' ⟨s0, s1, s2_, s3, s4, s5, s6, s7, s8, s9⟩
                      go_simp
                      with_reducible rfl
                    rotate_left
                    · simp only [Act.put, List.setIfInBounds_toArray, List.set_cons_zero, List.set_cons_succ, i64_w, i32_w]
                      rfl
                    refine pure_ (i := 11) (N := some 81) (v := ?_) (a' := ?_) #[true, true, true, true, true, true, true, true, true, true, true, true, false, false, false, false, false, false, false, false, false, false, false, false, false, false, false, false, false, false, false, false, false, false, false] rfl rfl (any_of HT_.out (by kernel_rfl)) (fun _ _ _ h => h) (Or.inl ⟨by rfl, ?_⟩) ?_ ?_
                    rotate_left
                    · intro w'
                      go_simp
                      with_reducible rfl
                    rotate_left
                    · simp only [Act.put, List.setIfInBounds_toArray, List.set_cons_zero, List.set_cons_succ, i64_w, i32_w]
                      rfl
                    refine pure_ (i := 12) (N := some 82) (v := ?_) (a' := ?_) #[true, true, true, true, true, true, true, true, true, true, true, true, true, false, false, false, false, false, false, false, false, false, false, false, false, false, false, false, false, false, false, false, false, false, false] rfl rfl (any_of HT_.out (by kernel_rfl)) (fun _ _ _ h => h) (Or.inl ⟨by rfl, ?_⟩) ?_ ?_
                    rotate_left
                    · intro w'
                      go_simp
                      with_reducible rfl
                    rotate_left
                    · simp only [Act.put, List.setIfInBounds_toArray, List.set_cons_zero, List.set_cons_succ, i64_w, i32_w]
                      rfl
                    refine pure_ (i := 13) (N := some 83) (v := ?_) (a' := ?_) #[true, true, true, true, true, true, true, true, true, true, true, true, true, true, false, false, false, false, false, false, false, false, false, false, false, false, false, false, false, false, false, false, false, false, false] rfl rfl (any_of HT_.out (by kernel_rfl)) (fun _ _ _ h => h) (Or.inl ⟨by rfl, ?_⟩) ?_ ?_
                    rotate_left
                    · intro w'
                      go_simp
                      with_reducible rfl
                    rotate_left
                    · simp only [Act.put, List.setIfInBounds_toArray, List.set_cons_zero, List.set_cons_succ, i64_w, i32_w]
                      rfl
                    refine pure_ (i := 14) (N := some 84) (v := undef) (a' := ?_) #[true, true, true, true, true, true, true, true, true, true, true, true, true, true, true, false, false, false, false, false, false, false, false, false, false, false, false, false, false, false, false, false, false, false, false] rfl rfl (any_of HT_.out (by kernel_rfl)) (fun _ _ _ h => h) (Or.inr ⟨by rfl, rfl⟩) ?_ ?_
                    rotate_left
                    · simp only [Act.put, List.setIfInBounds_toArray, List.set_cons_zero, List.set_cons_succ, i64_w, i32_w]
                      rfl
                    refine pure_ (i := 15) (N := some 85) (v := undef) (a' := ?_) #[true, true, true, true, true, true, true, true, true, true, true, true, true, true, true, true, false, false, false, false, false, false, false, false, false, false, false, false, false, false, false, false, false, false, false] rfl rfl (any_of HT_.out (by kernel_rfl)) (fun _ _ _ h => h) (Or.inr ⟨by rfl, rfl⟩) ?_ ?_
                    rotate_left
                    · simp only [Act.put, List.setIfInBounds_toArray, List.set_cons_zero, List.set_cons_succ, i64_w, i32_w]
                      rfl
                    refine pure_ (i := 16) (N := some 86) (v := undef) (a' := ?_) #[true, true, true, true, true, true, true, true, true, true, true, true, true, true, true, true, true, false, false, false, false, false, false, false, false, false, false, false, false, false, false, false, false, false, false] rfl rfl (any_of HT_.out (by kernel_rfl)) (fun _ _ _ h => h) (Or.inr ⟨by rfl, rfl⟩) ?_ ?_
                    rotate_left
                    · simp only [Act.put, List.setIfInBounds_toArray, List.set_cons_zero, List.set_cons_succ, i64_w, i32_w]
                      rfl
                    refine pure_ (i := 17) (N := some 87) (v := undef) (a' := ?_) #[true, true, true, true, true, true, true, true, true, true, true, true, true, true, true, true, true, true, false, false, false, false, false, false, false, false, false, false, false, false, false, false, false, false, false] rfl rfl (any_of HT_.out (by kernel_rfl)) (fun _ _ _ h => h) (Or.inr ⟨by rfl, rfl⟩) ?_ ?_
                    rotate_left
                    · simp only [Act.put, List.setIfInBounds_toArray, List.set_cons_zero, List.set_cons_succ, i64_w, i32_w]
                      rfl
                    refine pure_ (i := 18) (N := some 88) (v := undef) (a' := ?_) #[true, true, true, true, true, true, true, true, true, true, true, true, true, true, true, true, true, true, true, false, false, false, false, false, false, false, false, false, false, false, false, false, false, false, false] rfl rfl (any_of HT_.out (by kernel_rfl)) (fun _ _ _ h => h) (Or.inr ⟨by rfl, rfl⟩) ?_ ?_
                    rotate_left
                    · simp only [Act.put, List.setIfInBounds_toArray, List.set_cons_zero, List.set_cons_succ, i64_w, i32_w]
                      rfl
                    refine pure_ (i := 19) (N := some 89) (v := undef) (a' := ?_) #[true, true, true, true, true, true, true, true, true, true, true, true, true, true, true, true, true, true, true, true, false, false, false, false, false, false, false, false, false, false, false, false, false, false, false] rfl rfl (any_of HT_.out (by kernel_rfl)) (fun _ _ _ h => h) (Or.inr ⟨by rfl, rfl⟩) ?_ ?_
                    rotate_left
                    · simp only [Act.put, List.setIfInBounds_toArray, List.set_cons_zero, List.set_cons_succ, i64_w, i32_w]
                      rfl
                    refine pure_ (i := 20) (N := some 90) (v := undef) (a' := ?_) #[true, true, true, true, true, true, true, true, true, true, true, true, true, true, true, true, true, true, true, true, true, false, false, false, false, false, false, false, false, false, false, false, false, false, false] rfl rfl (any_of HT_.out (by kernel_rfl)) (fun _ _ _ h => h) (Or.inr ⟨by rfl, rfl⟩) ?_ ?_
                    rotate_left
                    · simp only [Act.put, List.setIfInBounds_toArray, List.set_cons_zero, List.set_cons_succ, i64_w, i32_w]
                      rfl
                    refine pure_ (i := 21) (N := some 91) (v := undef) (a' := ?_) #[true, true, true, true, true, true, true, true, true, true, true, true, true, true, true, true, true, true, true, true, true, true, false, false, false, false, false, false, false, false, false, false, false, false, false] rfl rfl (any_of HT_.out (by kernel_rfl)) (fun _ _ _ h => h) (Or.inr ⟨by rfl, rfl⟩) ?_ ?_
                    rotate_left
                    · simp only [Act.put, List.setIfInBounds_toArray, List.set_cons_zero, List.set_cons_succ, i64_w, i32_w]
                      rfl
                    refine pure_ (i := 22) (N := some 92) (v := undef) (a' := ?_) #[true, true, true, true, true, true, true, true, true, true, true, true, true, true, true, true, true, true, true, true, true, true, true, false, false, false, false, false, false, false, false, false, false, false, false] rfl rfl (any_of HT_.out (by kernel_rfl)) (fun _ _ _ h => h) (Or.inr ⟨by rfl, rfl⟩) ?_ ?_
                    rotate_left
                    · simp only [Act.put, List.setIfInBounds_toArray, List.set_cons_zero, List.set_cons_succ, i64_w, i32_w]
                      rfl
                    refine pure_ (i := 23) (N := some 93) (v := undef) (a' := ?_) #[true, true, true, true, true, true, true, true, true, true, true, true, true, true, true, true, true, true, true, true, true, true, true, true, false, false, false, false, false, false, false, false, false, false, false] rfl rfl (any_of HT_.out (by kernel_rfl)) (fun _ _ _ h => h) (Or.inr ⟨by rfl, rfl⟩) ?_ ?_
                    rotate_left
                    · simp only [Act.put, List.setIfInBounds_toArray, List.set_cons_zero, List.set_cons_succ, i64_w, i32_w]
                      rfl
                    refine pure_ (i := 24) (N := some 94) (v := undef) (a' := ?_) #[true, true, true, true, true, true, true, true, true, true, true, true, true, true, true, true, true, true, true, true, true, true, true, true, true, false, false, false, false, false, false, false, false, false, false] rfl rfl (any_of HT_.out (by kernel_rfl)) (fun _ _ _ h => h) (Or.inr ⟨by rfl, rfl⟩) ?_ ?_
                    rotate_left
                    · simp only [Act.put, List.setIfInBounds_toArray, List.set_cons_zero, List.set_cons_succ, i64_w, i32_w]
                      rfl
                    refine pure_ (i := 25) (N := some 95) (v := undef) (a' := ?_) #[true, true, true, true, true, true, true, true, true, true, true, true, true, true, true, true, true, true, true, true, true, true, true, true, true, true, false, false, false, false, false, false, false, false, false] rfl rfl (any_of HT_.out (by kernel_rfl)) (fun _ _ _ h => h) (Or.inr ⟨by rfl, rfl⟩) ?_ ?_
                    rotate_left
                    · simp only [Act.put, List.setIfInBounds_toArray, List.set_cons_zero, List.set_cons_succ, i64_w, i32_w]
                      rfl
                    refine pure_ (i := 26) (N := some 96) (v := undef) (a' := ?_) #[true, true, true, true, true, true, true, true, true, true, true, true, true, true, true, true, true, true, true, true, true, true, true, true, true, true, true, false, false, false, false, false, false, false, false] rfl rfl (any_of HT_.out (by kernel_rfl)) (fun _ _ _ h => h) (Or.inr ⟨by rfl, rfl⟩) ?_ ?_
                    rotate_left
                    · simp only [Act.put, List.setIfInBounds_toArray, List.set_cons_zero, List.set_cons_succ, i64_w, i32_w]
                      rfl
                    refine pure_ (i := 27) (N := some 97) (v := undef) (a' := ?_) #[true, true, true, true, true, true, true, true, true, true, true, true, true, true, true, true, true, true, true, true, true, true, true, true, true, true, true, true, false, false, false, false, false, false, false] rfl rfl (any_of HT_.out (by kernel_rfl)) (fun _ _ _ h => h) (Or.inr ⟨by rfl, rfl⟩) ?_ ?_
                    rotate_left
                    · simp only [Act.put, List.setIfInBounds_toArray, List.set_cons_zero, List.set_cons_succ, i64_w, i32_w]
                      rfl
                    refine pure_ (i := 28) (N := some 98) (v := undef) (a' := ?_) #[true, true, true, true, true, true, true, true, true, true, true, true, true, true, true, true, true, true, true, true, true, true, true, true, true, true, true, true, true, false, false, false, false, false, false] rfl rfl (any_of HT_.out (by kernel_rfl)) (fun _ _ _ h => h) (Or.inr ⟨by rfl, rfl⟩) ?_ ?_
                    rotate_left
                    · simp only [Act.put, List.setIfInBounds_toArray, List.set_cons_zero, List.set_cons_succ, i64_w, i32_w]
                      rfl
                    refine pure_ (i := 29) (N := some 99) (v := undef) (a' := ?_) #[true, true, true, true, true, true, true, true, true, true, true, true, true, true, true, true, true, true, true, true, true, true, true, true, true, true, true, true, true, true, false, false, false, false, false] rfl rfl (any_of HT_.out (by kernel_rfl)) (fun _ _ _ h => h) (Or.inr ⟨by rfl, rfl⟩) ?_ ?_
                    rotate_left
                    · simp only [Act.put, List.setIfInBounds_toArray, List.set_cons_zero, List.set_cons_succ, i64_w, i32_w]
                      rfl
                    refine pure_ (i := 30) (N := some 100) (v := undef) (a' := ?_) #[true, true, true, true, true, true, true, true, true, true, true, true, true, true, true, true, true, true, true, true, true, true, true, true, true, true, true, true, true, true, true, false, false, false, false] rfl rfl (any_of HT_.out (by kernel_rfl)) (fun _ _ _ h => h) (Or.inr ⟨by rfl, rfl⟩) ?_ ?_
                    rotate_left
                    · simp only [Act.put, List.setIfInBounds_toArray, List.set_cons_zero, List.set_cons_succ, i64_w, i32_w]
                      rfl
                    refine pure_ (i := 31) (N := some 101) (v := undef) (a' := ?_) #[true, true, true, true, true, true, true, true, true, true, true, true, true, true, true, true, true, true, true, true, true, true, true, true, true, true, true, true, true, true, true, true, false, false, false] rfl rfl (any_of HT_.out (by kernel_rfl)) (fun _ _ _ h => h) (Or.inr ⟨by rfl, rfl⟩) ?_ ?_
                    rotate_left
                    · simp only [Act.put, List.setIfInBounds_toArray, List.set_cons_zero, List.set_cons_succ, i64_w, i32_w]
                      rfl
                    refine pure_ (i := 32) (N := some 102) (v := undef) (a' := ?_) #[true, true, true, true, true, true, true, true, true, true, true, true, true, true, true, true, true, true, true, true, true, true, true, true, true, true, true, true, true, true, true, true, true, false, false] rfl rfl (any_of HT_.out (by kernel_rfl)) (fun _ _ _ h => h) (Or.inr ⟨by rfl, rfl⟩) ?_ ?_
                    rotate_left
                    · simp only [Act.put, List.setIfInBounds_toArray, List.set_cons_zero, List.set_cons_succ, i64_w, i32_w]
                      rfl
                    refine pure_ (i := 33) (N := some 103) (v := undef) (a' := ?_) #[true, true, true, true, true, true, true, true, true, true, true, true, true, true, true, true, true, true, true, true, true, true, true, true, true, true, true, true, true, true, true, true, true, true, false] rfl rfl (any_of HT_.out (by kernel_rfl)) (fun _ _ _ h => h) (Or.inr ⟨by rfl, rfl⟩) ?_ ?_
                    rotate_left
                    · simp only [Act.put, List.setIfInBounds_toArray, List.set_cons_zero, List.set_cons_succ, i64_w, i32_w]
                      rfl
                    refine pure_ (i := 34) (N := some 104) (v := ?_) (a' := ?_) #[true, true, true, true, true, true, true, true, true, true, true, true, true, true, true, true, true, true, true, true, true, true, true, true, true, true, true, true, true, true, true, true, true, true, true] rfl rfl (any_of HT_.out (by kernel_rfl)) (fun _ _ _ h => h) (Or.inl ⟨by rfl, ?_⟩) ?_ ?_
                    rotate_left
                    · intro w'
                      go_simp
                      with_reducible rfl
                    rotate_left
                    · simp only [Act.put, List.setIfInBounds_toArray, List.set_cons_zero, List.set_cons_succ, i64_w, i32_w]
                      rfl
                    refine done_ (done_of HT_.out (by kernel_rfl)) ?_
                    clear hHeld hclpA hxpA hclcA hxcA
                    have HSF := Aside0.mk HS9.out
                    go_wp2
                    go_roundg (a - u).toNat
                    case measure => have := HU.out; omega
                    case rel => exact ⟨u + 1, by first | rfl | rw [hwu], ⟨by omega, by omega, by omega⟩, HFD5, HSF⟩
              · have eu : u = a + 1 := by have := HU.out; omega
                subst eu
                have hfd := HFD.out
                rw [show (a + 1 - (a + 1)).toNat = 0 from by omega] at hfd
                have hfd : none = FO := hfd
                have hp := HP2.out
                rw [← hfd] at hp
                have hp : planC D a b (m - 1).toNat (m - 1) ⟨c0', c1', c2'⟩ acc = RR := hp
                have HP3 := Aside0.mk hp
                clear hp hfd
                go_wp2
                go_roundg (m - 1).toNat
                case measure => have := HM.out; omega
                case rel => exact ⟨m - 1, ⟨c0', c1', c2'⟩, acc, by first | rfl | rw [hwm], ⟨by omega, by have := HM.out; omega, Nat.le_refl _⟩, HC, ⟨by have := HAL.out; omega⟩, HP3, HS⟩
          · have em : m = 0 := by have := HM.out; omega
            subst em
            have hp : acc = RR := HPL.out
            subst hp
            go_wp2
            go_ret3
            rw [HF.out]
            try rw [hwt]
            exact ⟨_, rfl, Kd.R_mono HS.out.acc (fun _ _ => trivial), HS.out.made⟩
    · rw [if_neg hk] at h
      have HK : Aside0 (spec_l00In.f k 0 8 = some false) := ⟨by rw [cin_eq, decide_eq_false hk]⟩
      simp only [Option.some.injEq, Prod.mk.injEq] at h
      obtain ⟨rfl, rfl, rfl⟩ := h
      clear hv ha hb hi hk
      go_enter Try.func4, Try.ntmps4
      go_wp2_with (first
        | ((with_reducible refine gate_dst (N := 3) rfl ?_); go_loud (refine box_event ?hg (N := 3) ?hd (cs := #[.int .i64 a, .int .i64 b]) (t := 29) ?hr ?_; (case hd => rfl); (case hg => rfl); (case hr => first | (go_simp; done) | (go_simp; rfl)); intro gl hgl w1 hbox hbw; have HL1 := Aside0.mk hbox; have HB1 := Aside0.mk hbw; clear hgl hbox hbw))
        | ((with_reducible refine gate_dst (N := 4) rfl ?_); go_loud (refine box_event ?hg (N := 4) ?hd (cs := #[.int .i64 c0, .int .i64 c1, .int .i64 c2]) (t := 31) ?hr ?_; (case hd => rfl); (case hg => rfl); (case hr => first | (go_simp; done) | (go_simp; rfl)); intro gc hgc w2 hbox hbw; have HC2 := Aside0.mk hbox; have HGC : Aside0 (w.heap.size ≤ gc) := ⟨(by rw [hgc]; exact HB1.out.size)⟩; have HL2 := Aside0.mk (blk_below HL1.out hbw); have HB2 := Aside0.mk (below_step HB1.out hbw); clear hgc hbox hbw; have hl0 : w2.cell? ⟨gl, 0, none⟩ = some (.int .i64 a) := (blk_cell HL2.out 0).trans rfl; have hl1 : w2.cell? ⟨gl, 1, none⟩ = some (.int .i64 b) := (blk_cell HL2.out 1).trans rfl; have hc0 : w2.cell? ⟨gc, 0, none⟩ = some (.int .i64 c0) := (blk_cell HC2.out 0).trans rfl; have hc1 : w2.cell? ⟨gc, 1, none⟩ = some (.int .i64 c1) := (blk_cell HC2.out 1).trans rfl; have hc2 : w2.cell? ⟨gc, 2, none⟩ = some (.int .i64 c2) := (blk_cell HC2.out 2).trans rfl))
        | (go_at_call 11; go_loud ((with_reducible refine (spec_l05Is.calls a b c0 c1 c2 true _ HV.out).mono ?_); rintro e w3 ⟨rfl, hb3⟩; have HL3 := Aside0.mk (blk_below HL2.out hb3); have HC3 := Aside0.mk (blk_below HC2.out hb3); have HB3 := Aside0.mk (below_step HB2.out hb3); clear hb3; have hl30 : w3.cell? ⟨gl, 0, none⟩ = some (.int .i64 a) := (blk_cell HL3.out 0).trans rfl; have hl31 : w3.cell? ⟨gl, 1, none⟩ = some (.int .i64 b) := (blk_cell HL3.out 1).trans rfl; have hc30 : w3.cell? ⟨gc, 0, none⟩ = some (.int .i64 c0) := (blk_cell HC3.out 0).trans rfl; have hc31 : w3.cell? ⟨gc, 1, none⟩ = some (.int .i64 c1) := (blk_cell HC3.out 1).trans rfl; have hc32 : w3.cell? ⟨gc, 2, none⟩ = some (.int .i64 c2) := (blk_cell HC3.out 2).trans rfl))
        | (go_at_call 12; go_loud ((with_reducible refine (spec_l00In.calls k 0 8 false _ HK.out).mono ?_); rintro e w' ⟨rfl, ⟨nd, rfl⟩⟩)))
      go_ret3
      rw [HF.out]
      exact ⟨_, rfl, Kd.R_nil _ _ _ _ _, by repeat (first | exact HB3.out | apply pw_below_drewN | apply below_drew1)⟩

end Go.Proofs.Ytpccannjeppmbaa.Q
