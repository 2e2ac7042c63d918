/- A contract by hand for impl.plan: the plain plan over distD, if the course stands in it. -/
import Derived.Test.YtibmehephlngfaaQ0
import Derived.Test.YtibmehephlngfaaQ7
import Derived.Test.YtibmehephlngfaaQ11
import Derived.Test.YtibmehephlngfaaGPlanP
namespace Go.Proofs.Ytibmehephlngfaa.Q
open Go.RowKit Go.Maps Go.Proofs.YtibmehephlngfaaW.PrintWords Go.Proofs.YtibmehephlngfaaW.PrintLast Go.Proofs.YtibmehephlngfaaW.PrintMore
set_option linter.unusedVariables false
set_option linter.unusedSimpArgs false

def impl_Limits_plan.f (a0_0 : Int) (a0_1 : Int) (a1_0 : Int) (a1_1 : Int) (a1_2 : Int) : Option (List Int × Bool) :=
  if (1 ≤ a0_0 ∧ a0_0 ≤ 3) ∧ (1 ≤ a0_1 ∧ a0_1 ≤ 6) ∧ insS a0_0 ⟨a1_0, a1_1, a1_2⟩ = true then
    match mget (distD a0_0 a0_1) ⟨a1_0, a1_1, a1_2⟩ with
    | none => some ([], false)
    | some n => if 0 ≤ n ∧ n ≤ 40 then some (planP (distD a0_0 a0_1) a0_0 a0_1 n.toNat n ⟨a1_0, a1_1, a1_2⟩ [], true) else none
  else none
def impl_Limits_plan.T1 : Bool × List (List Nat × List Nat) := (true, [([], []), ([], []), ([1], [1]), ([0, 2], [0, 2]), ([], []), ([3, 3, 0, 1, 2, 3], [0, 3]), ([4, 5, 0, 1, 2, 3, 4, 5], [4])])
def impl_Limits_plan.B1 : List Nat := [0, 0, 2, 7, 0, 15, 63]
theorem impl_Limits_plan.tab1 : rtab .any (opsOf Try.f63 14) = impl_Limits_plan.T1 := by kernel_rfl
theorem impl_Limits_plan.bits1 : waitsOk impl_Limits_plan.T1.2 impl_Limits_plan.B1 = true := by kernel_rfl
def PlanPost (w : World) (r1 : List Int) (r2 : Bool) (e : Ending) (w' : World) : Prop := ∃ v0_ : Value, e = .returned (.tuple #[v0_, .bool r2]) ∧ Kd.R (Kd.int .i64) 2 w' w.heap.size (fun _ => True) v0_ r1 ∧ Below w.heap.size w w'

set_option maxHeartbeats 8000000 in
set_option maxRecDepth 100000 in
theorem plan_calls (a b : Int) (c : S24) (ha : 1 ≤ a ∧ a ≤ 3) (hb : 1 ≤ b ∧ b ≤ 6) (hc : insS a c = true) (w : World) (M : List (S24 × Int)) (hM : M = distD a b) :
    (mget M c = none → Calls Try.prog 63 #[.agg #[.int .i64 a, .int .i64 b], .agg #[.int .i64 c.f0, .int .i64 c.f1, .int .i64 c.f2]] w (PlanPost w [] false)) ∧
    (∀ n, mget M c = some n → 0 ≤ n ∧ n ≤ 40 → Calls Try.prog 63 #[.agg #[.int .i64 a, .int .i64 b], .agg #[.int .i64 c.f0, .int .i64 c.f1, .int .i64 c.f2]] w (PlanPost w (planP M a b n.toNat n c []) true)) := by
  have hu40 := Try.underlying40
  have hu24 := Try.underlying24
  have hu80 := Try.underlying80
  have hu43 := Try.underlying43
  obtain ⟨j0, j1, j2⟩ := insS_iff.1 hc
  obtain ⟨kl, hkl⟩ := keyC c (wf64 (by omega)) (wf64 (by omega)) (wf64 (by omega))
  have HKL := Aside0.mk hkl
  have HA := Aside0.mk ha
  have HBb := Aside0.mk hb
  have HC := Aside0.mk hc
  have HM := Aside0.mk hM
  clear hkl ha hb hc hM j0 j1 j2
  refine ⟨fun hg => ?_, fun n hg hn => ?_⟩
  · have HG : Aside0 (mgv M c = none) := ⟨by unfold mgv; rw [hg]; rfl⟩
    clear hg
    obtain ⟨c0, c1, c2⟩ := c
    obtain ⟨F, hF⟩ : ∃ F : Ending → World → Prop, F = PlanPost w [] false := ⟨_, rfl⟩
    have HF := Aside0.mk hF
    rw [← hF]
    clear hF
    go_enter Try.func63, Try.ntmps63
    go_wp2_with (first
      | ((with_reducible refine gate_dst (N := 2) rfl ?_); go_loud (refine box_event ?hg (N := 2) ?hd (cs := #[.int .i64 a, .int .i64 b]) (t := 40) ?hr ?_; (case hd => rfl); (case hg => rfl); (case hr => first | (go_simp; done) | (go_simp; rfl)); intro gl hgl w1 hbox hbw; have HL1 := Aside0.mk hbox; have HB1 := Aside0.mk hbw; clear hgl hbox hbw))
      | ((with_reducible refine gate_dst (N := 3) rfl ?_); go_loud (refine box_event ?hg (N := 3) ?hd (cs := #[.int .i64 c0, .int .i64 c1, .int .i64 c2]) (t := 24) ?hr ?_; (case hd => rfl); (case hg => rfl); (case hr => first | (go_simp; done) | (go_simp; rfl)); intro gc hgc w2 hbox hbw; have HC2 := Aside0.mk hbox; have HGC : Aside0 (w.heap.size ≤ gc) := ⟨by rw [hgc]; exact HB1.out.size⟩; have HL2 := Aside0.mk (blk_below HL1.out hbw); have HB2 := Aside0.mk (below_step HB1.out hbw); clear hgc hbox hbw HL1 HB1; have hl0 : w2.cell? ⟨gl, 0, none⟩ = some (.int .i64 a) := (blk_cell HL2.out 0).trans rfl; have hl1 : w2.cell? ⟨gl, 1, none⟩ = some (.int .i64 b) := (blk_cell HL2.out 1).trans rfl))
      | (go_at_call 61; go_loud (refine (dist_calls a b HA.out HBb.out _).mono ?_; rintro e w3 ⟨gm, rfl, hgm, hmap, hb3⟩; have HM3 := Aside0.mk hmap; rw [← HM.out] at HM3; have HL3 := Aside0.mk (blk_below HL2.out hb3); have HC3 := Aside0.mk (blk_below HC2.out hb3); have HB3 := Aside0.mk (below_step HB2.out hb3); clear hgm hmap hb3 HL2 HC2 HB2; have hc0 : w3.cell? ⟨gc, 0, none⟩ = some (.int .i64 c0) := (blk_cell HC3.out 0).trans rfl; have hc1 : w3.cell? ⟨gc, 1, none⟩ = some (.int .i64 c1) := (blk_cell HC3.out 1).trans rfl; have hc2 : w3.cell? ⟨gc, 2, none⟩ = some (.int .i64 c2) := (blk_cell HC3.out 2).trans rfl))
      | (at_lookup; go_loud (refine wpList_look (x := (⟨c0, c1, c2⟩ : S24)) true rfl _ _ rfl keyedC hu80 (by rfl) rfl HM3.out rfl HKL.out ?_; rw [HG.out]; simp only [Option.getD, Option.isSome, if_true])))
    try go_ret2
    rw [HF.out]
    exact ⟨_, rfl, Kd.R_nil _ _ _ _ _, HB3.out⟩
  · have HG : Aside0 (mgv M c = some (.int .i64 n)) := ⟨by unfold mgv; rw [hg]; rfl⟩
    have HN0 := Aside0.mk hn
    obtain ⟨R, hR⟩ : ∃ R, R = planP M a b n.toNat n c [] := ⟨_, rfl⟩
    rw [← hR]
    have HR := Aside0.mk hR
    clear hg hn hR
    obtain ⟨c0, c1, c2⟩ := c
    obtain ⟨F, hF⟩ : ∃ F : Ending → World → Prop, F = PlanPost w R true := ⟨_, rfl⟩
    have HF := Aside0.mk hF
    rw [← hF]
    clear hF
    go_enter Try.func63, Try.ntmps63
    go_wp2_with (first
      | ((with_reducible refine gate_dst (N := 2) rfl ?_); go_loud (refine box_event ?hg (N := 2) ?hd (cs := #[.int .i64 a, .int .i64 b]) (t := 40) ?hr ?_; (case hd => rfl); (case hg => rfl); (case hr => first | (go_simp; done) | (go_simp; rfl)); intro gl hgl w1 hbox hbw; have HL1 := Aside0.mk hbox; have HB1 := Aside0.mk hbw; clear hgl hbox hbw))
      | ((with_reducible refine gate_dst (N := 3) rfl ?_); go_loud (refine box_event ?hg (N := 3) ?hd (cs := #[.int .i64 c0, .int .i64 c1, .int .i64 c2]) (t := 24) ?hr ?_; (case hd => rfl); (case hg => rfl); (case hr => first | (go_simp; done) | (go_simp; rfl)); intro gc hgc w2 hbox hbw; have HC2 := Aside0.mk hbox; have HGC : Aside0 (w.heap.size ≤ gc) := ⟨by rw [hgc]; exact HB1.out.size⟩; have HL2 := Aside0.mk (blk_below HL1.out hbw); have HB2 := Aside0.mk (below_step HB1.out hbw); clear hgc hbox hbw HL1 HB1; have hl0 : w2.cell? ⟨gl, 0, none⟩ = some (.int .i64 a) := (blk_cell HL2.out 0).trans rfl; have hl1 : w2.cell? ⟨gl, 1, none⟩ = some (.int .i64 b) := (blk_cell HL2.out 1).trans rfl))
      | (go_at_call 61; go_loud (refine (dist_calls a b HA.out HBb.out _).mono ?_; rintro e w3 ⟨gm, rfl, hgm, hmap, hb3⟩; have HM3 := Aside0.mk hmap; rw [← HM.out] at HM3; have HL3 := Aside0.mk (blk_below HL2.out hb3); have HC3 := Aside0.mk (blk_below HC2.out hb3); have HB3 := Aside0.mk (below_step HB2.out hb3); clear hgm hmap hb3 HL2 HC2 HB2; have hc0 : w3.cell? ⟨gc, 0, none⟩ = some (.int .i64 c0) := (blk_cell HC3.out 0).trans rfl; have hc1 : w3.cell? ⟨gc, 1, none⟩ = some (.int .i64 c1) := (blk_cell HC3.out 1).trans rfl; have hc2 : w3.cell? ⟨gc, 2, none⟩ = some (.int .i64 c2) := (blk_cell HC3.out 2).trans rfl))
      | (at_lookup; go_loud (refine wpList_look (x := (⟨c0, c1, c2⟩ : S24)) true rfl _ _ rfl keyedC hu80 (by rfl) rfl HM3.out rfl HKL.out ?_; rw [HG.out]; simp only [Option.getD, Option.isSome, if_true]))
      | ((with_reducible refine gate_dst (N := 26) rfl ?_); go_loud (refine Kd.R_lit (Kd.int .i64) (w0 := w3) w3.heap.size 2 ?hg (N := 26) ?hd (xs := ([] : List Int)) (inner := []) (ok := fun _ => True) (okp := fun _ => False) ?hr ?hp (fun _ hk => hk.elim) trivial (Below.refl _ _) (Nat.le_refl _) (by simp) ?_; (case hd => rfl); (case hg => rfl); (case hr => first | (go_simp; done) | (go_simp; rfl)); (case hp => exact Reps.none _ _); intro v9 w4 ho hbw hg_ hnew_; have HS4 : Aside0 (PS w a b gm gl gc M ⟨c0, c1, c2⟩ v9 [] w4) := ⟨HM3.out.below hbw, blk_below HL3.out hbw, blk_below HC3.out hbw, Kd.R_lower ho HB3.out.size, below_step HB3.out hbw, HGC.out⟩; clear ho hbw hg_ hnew_)))
    clear HM3 HL3 HC3 HB3 hl0 hl1 hc0 hc1 hc2
    go_loopg [7, 9] n.toNat (fun gg v7 v9 w' => ∃ (m : Int) (q : S24) (out : List Int), v7 = .int .i64 m ∧ Aside0 (0 ≤ m ∧ m ≤ 40 ∧ m.toNat ≤ gg ∧ (out.length : Int) + m ≤ 40) ∧ Aside0 (insS a q = true) ∧ Aside0 (planP M a b m.toNat m q out = R) ∧ Aside0 (PS w a b gm gl gc M q v9 out w'))
    case atStart => exact ⟨n, ⟨c0, c1, c2⟩, [], rfl, ⟨HN0.out.1, HN0.out.2, Nat.le_refl _, by have := HN0.out; simp; omega⟩, HC, ⟨HR.out.symm⟩, HS4⟩
    case round =>
      clear HS4
      obtain ⟨m, q, out, rfl, HMm, HQ, HP, HS⟩ := hrel
      by_cases hm : 0 < m
      · obtain ⟨L, hL⟩ : ∃ L, L = turnsP a b q := ⟨_, rfl⟩
        obtain ⟨FO, hFO⟩ : ∃ FO, FO = findL M (m - 1) q L := ⟨_, rfl⟩
        have hp := HP.out
        have hm1 := HMm.out
        rw [show m.toNat = (m - 1).toNat + 1 from by omega, planP, ← hL, ← hFO] at hp
        have HP2 := Aside0.mk hp
        have HLL := Aside0.mk hL
        have HFO := Aside0.mk hFO
        have hlen : L.length ≤ 7 := by rw [hL]; exact turnsP_len HA.out
        have htu := dturns HA.out HBb.out HQ.out 20 (Nat.le_refl _)
        rw [← hL] at htu
        have HTU := Aside0.mk htu
        have hwm : wrap64 (m - 1) = m - 1 := dw64 (by omega)
        clear hp hm1 hL hFO htu HP
        obtain ⟨q0, q1, q2⟩ := q
        have hl0 : wr.cell? ⟨gl, 0, none⟩ = some (.int .i64 a) := (blk_cell HS.out.box 0).trans rfl
        have hl1 : wr.cell? ⟨gl, 1, none⟩ = some (.int .i64 b) := (blk_cell HS.out.box 1).trans rfl
        have hc0 : wr.cell? ⟨gc, 0, none⟩ = some (.int .i64 q0) := (blk_cell HS.out.cur 0).trans rfl
        have hc1 : wr.cell? ⟨gc, 1, none⟩ = some (.int .i64 q1) := (blk_cell HS.out.cur 1).trans rfl
        have hc2 : wr.cell? ⟨gc, 2, none⟩ = some (.int .i64 q2) := (blk_cell HS.out.cur 2).trans rfl
        go_wp2_with (first
          | (go_at_call 56; go_loud ((with_reducible refine (impl_Limits_turns.calls 20 a b q0 q1 q2 L _ HTU.out).mono ?_); rintro e w5 ⟨v33, rfl, ho, hb5⟩; obtain ⟨At, ct, et⟩ := Kd.R_slice ho; subst et; have HT5 := Aside0.mk (Kd.R_lower ho HS.out.size); have HS5 := Aside0.mk (HS.out.below hb5); clear ho hb5)))
        clear HS hl0 hl1 hc0 hc1 hc2
        go_loopg [9, 35] L.length (fun gg v9 v35 w' => ∃ (i : Int), v35 = .int .i64 i ∧ Aside0 (0 ≤ i ∧ i ≤ L.length ∧ L.length - i.toNat ≤ gg) ∧ Aside0 (findL M (m - 1) ⟨q0, q1, q2⟩ (L.drop i.toNat) = FO) ∧ Aside0 (Kd.R (Kd.int .i64) 2 w' w.heap.size (fun _ => True) (.slice At L.length ct) L) ∧ Aside0 (PS w a b gm gl gc M ⟨q0, q1, q2⟩ v9 out w'))
        case atStart => exact ⟨0, rfl, ⟨by omega, by omega, by simp⟩, ⟨HFO.out.symm⟩, HT5, HS5⟩
        case round =>
          clear HS5 HT5
          obtain ⟨i, rfl, HI, HFI, HT, HS⟩ := hrel
          by_cases hi : i < (L.length : Int)
          · have hi0 : 0 ≤ i := HI.out.1
            obtain ⟨ad, e4, hx⟩ := Kd.at_int (Kd.R_reads' HT.out).2.2 i hi0 hi
            cases e4
            have hst := findL_at M (m - 1) ⟨q0, q1, q2⟩ L i hi0 hi
            have hmem : rd L i ∈ turnsP a b ⟨q0, q1, q2⟩ := by
              rw [← HLL.out]
              have hl : i.toNat < L.length := by omega
              have e2 : rd L i = L[i.toNat] := by simp [rd, hl]
              rw [e2]
              exact List.getElem_mem _
            obtain ⟨g0, g1⟩ := turnsP_mem HA.out hmem
            generalize rd L i = u at hx hst g0 g1
            obtain ⟨x, hxx⟩ : ∃ x, x = (stepTo ⟨q0, q1, q2⟩ u).f0 := ⟨_, rfl⟩
            obtain ⟨y, hyy⟩ : ∃ y, y = (stepTo ⟨q0, q1, q2⟩ u).f1 := ⟨_, rfl⟩
            have hstp : stepTo ⟨q0, q1, q2⟩ u = ⟨x, y, u⟩ := by rw [hxx, hyy]; rfl
            have hnx := dnextTo HA.out HBb.out HQ.out g1 0
            rw [if_pos g0, hstp] at hnx
            have HNX := Aside0.mk hnx
            have hin : insS a ⟨x, y, u⟩ = true := by rw [← hstp]; exact (Bool.and_eq_true_iff.1 g0).2
            obtain ⟨j0, j1, j2⟩ := insS_iff.1 hin
            obtain ⟨kx, hkx⟩ := keyC ⟨x, y, u⟩ (wf64 (by simp only at j0 ⊢; omega)) (wf64 (by simp only at j1 ⊢; omega)) (wf64 (by have := HA.out; simp only at j2 ⊢; omega))
            have HKX := Aside0.mk hkx
            have HIN := Aside0.mk hin
            have HSP := Aside0.mk hstp
            rw [HFI.out, hstp] at hst
            have HST := Aside0.mk hst
            have hwi : wrap64 (i + 1) = i + 1 := dw64 (by omega)
            clear hst hmem g0 g1 hxx hyy hnx hin j0 j1 j2 hkx hstp
            have hl0 : wr.cell? ⟨gl, 0, none⟩ = some (.int .i64 a) := (blk_cell HS.out.box 0).trans rfl
            have hl1 : wr.cell? ⟨gl, 1, none⟩ = some (.int .i64 b) := (blk_cell HS.out.box 1).trans rfl
            have hc0 : wr.cell? ⟨gc, 0, none⟩ = some (.int .i64 q0) := (blk_cell HS.out.cur 0).trans rfl
            have hc1 : wr.cell? ⟨gc, 1, none⟩ = some (.int .i64 q1) := (blk_cell HS.out.cur 1).trans rfl
            have hc2 : wr.cell? ⟨gc, 2, none⟩ = some (.int .i64 q2) := (blk_cell HS.out.cur 2).trans rfl
            cases hg : mget M ⟨x, y, u⟩ with
            | none =>
              have HG2 : Aside0 (mgv M ⟨x, y, u⟩ = none) := ⟨by unfold mgv; rw [hg]; rfl⟩
              have hst := HST.out
              rw [hg, if_neg (by simp)] at hst
              have HST2 := Aside0.mk hst
              clear hst hg
              go_wp2_with (first
                | (go_at_call 55; go_loud ((with_reducible refine (impl_Limits_next.calls 1 a b q0 q1 q2 u x y u true _ HNX.out).mono ?_); rintro e w6 ⟨rfl, hb6⟩; have HB6 := Aside0.mk hb6; clear hb6))
                | ((with_reducible refine gate_dst (N := 48) rfl ?_); (with_reducible refine gen_alloc ?_); go_loud (intro w7 hbox hbw; have HX7 := Aside0.mk hbox; have HB7 := Aside0.mk (below_step HB6.out hbw); have HS7 := Aside0.mk (HS.out.below HB7.out); have HT7 := Aside0.mk (Kd.R_below HT.out HB7.out); clear hbox hbw; have hx0 : w7.cell? ⟨w6.heap.size, 0, none⟩ = some (.int .i64 x) := (blk_cell HX7.out 0).trans rfl; have hx1 : w7.cell? ⟨w6.heap.size, 1, none⟩ = some (.int .i64 y) := (blk_cell HX7.out 1).trans rfl; have hx2 : w7.cell? ⟨w6.heap.size, 2, none⟩ = some (.int .i64 u) := (blk_cell HX7.out 2).trans rfl))
                | (at_lookup; go_loud (refine wpList_look (x := (⟨x, y, u⟩ : S24)) true rfl _ _ rfl keyedC hu80 (by rfl) rfl HS7.out.map rfl HKX.out ?_; rw [HG2.out]; simp only [Option.getD, Option.isSome, if_true])))
              go_roundg (L.length - (i + 1).toNat)
              case measure => have := HI.out; omega
              case rel => exact ⟨i + 1, by first | rfl | rw [hwi], ⟨by omega, by omega, by omega⟩, ⟨HST2.out.symm⟩, HT7, HS7⟩
            | some mm =>
              have HG2 : Aside0 (mgv M ⟨x, y, u⟩ = some (.int .i64 mm)) := ⟨by unfold mgv; rw [hg]; rfl⟩
              by_cases hmm : mm = m - 1
              · subst hmm
                have hst := HST.out
                rw [hg, if_pos rfl] at hst
                have HST2 := Aside0.mk hst
                clear hst hg
                go_wp2_with (first
                | (go_at_call 55; go_loud ((with_reducible refine (impl_Limits_next.calls 1 a b q0 q1 q2 u x y u true _ HNX.out).mono ?_); rintro e w6 ⟨rfl, hb6⟩; have HB6 := Aside0.mk hb6; clear hb6))
                | ((with_reducible refine gate_dst (N := 48) rfl ?_); (with_reducible refine gen_alloc ?_); go_loud (intro w7 hbox hbw; have HX7 := Aside0.mk hbox; have HB7 := Aside0.mk (below_step HB6.out hbw); have HS7 := Aside0.mk (HS.out.below HB7.out); have HT7 := Aside0.mk (Kd.R_below HT.out HB7.out); clear hbox hbw; have hx0 : w7.cell? ⟨w6.heap.size, 0, none⟩ = some (.int .i64 x) := (blk_cell HX7.out 0).trans rfl; have hx1 : w7.cell? ⟨w6.heap.size, 1, none⟩ = some (.int .i64 y) := (blk_cell HX7.out 1).trans rfl; have hx2 : w7.cell? ⟨w6.heap.size, 2, none⟩ = some (.int .i64 u) := (blk_cell HX7.out 2).trans rfl))
                | (at_lookup; go_loud (refine wpList_look (x := (⟨x, y, u⟩ : S24)) true rfl _ _ rfl keyedC hu80 (by rfl) rfl HS7.out.map rfl HKX.out ?_; rw [HG2.out]; simp only [Option.getD, Option.isSome, if_true])))
                have hgx : w6.heap.size ≠ gc := by have := blk_lt HS.out.cur; have := HB6.out.size; omega
                have HS8 := Aside0.mk (HS7.out.below (below_drew (Below.refl _ _)))
                have HX8 := Aside0.mk (blk_drew HX7.out)
                clear HS7 HX7 HT7 hx0 hx1 hx2
                refine start_ (n := 7) (S := fun w' => w'.cell? ⟨w6.heap.size, 0, none⟩ = some (.int .i64 x) ∧ w'.cell? ⟨w6.heap.size, 1, none⟩ = some (.int .i64 y) ∧ w'.cell? ⟨w6.heap.size, 2, none⟩ = some (.int .i64 u)) (ds := []) #[false, false, false, false, false, false, false] (by kernel_rfl) rfl rfl ⟨(blk_cell HX8.out 0).trans rfl, (blk_cell HX8.out 1).trans rfl, (blk_cell HX8.out 2).trans rfl⟩ (fun hHeld => ?_)
                refine with_tabW impl_Limits_plan.tab1 impl_Limits_plan.bits1 (fun HT_ HW_ => ?_)
                generalize w7.drew = w8 at HS8 HX8 hHeld ⊢
                refine take_ (i := 4) (N := some 63) (v := ?_) (a' := ?_) #[false, false, false, false, true, false, false] rfl rfl (take_ofW HT_.out HW_.out (by kernel_rfl)) (fun _ _ _ h => h) (Or.inl ⟨by rfl, ?_⟩) hHeld ?_ ?_
                rotate_left
                · rintro w' ⟨s0, s1, s2⟩
                  go_simp
                  with_reducible rfl
                rotate_left
                · simp only [Act.put, List.setIfInBounds_toArray, List.set_cons_zero, List.set_cons_succ, i64_w, i32_w]
                  rfl
                refine pure_ (i := 0) (N := some 59) (v := ?_) (a' := ?_) #[true, false, false, false, true, false, false] rfl rfl (any_of HT_.out (by kernel_rfl)) (fun _ _ _ h => h) (Or.inl ⟨by rfl, ?_⟩) ?_ ?_
                rotate_left
                · intro w'
                  go_simp
                  with_reducible rfl
                rotate_left
                · simp only [Act.put, List.setIfInBounds_toArray, List.set_cons_zero, List.set_cons_succ, i64_w, i32_w]
                  rfl
                refine pure_ (i := 1) (N := some 60) (v := ?_) (a' := ?_) #[true, true, false, false, true, false, false] rfl rfl (any_of HT_.out (by kernel_rfl)) (fun _ _ _ h => h) (Or.inl ⟨by rfl, ?_⟩) ?_ ?_
                rotate_left
                · intro w'
                  go_simp
                  with_reducible rfl
                rotate_left
                · simp only [Act.put, List.setIfInBounds_toArray, List.set_cons_zero, List.set_cons_succ, i64_w, i32_w]
                  rfl
                refine one_ (i := 2) (N := some 61) #[true, true, true, false, true, false, false] rfl rfl (one_of HT_.out (by kernel_rfl)) (by decide) (fun K hK => ?_)
                refine value_ (v := .slice (some ⟨w8.heap.size, 0, none⟩) 1 1) (w1 := w8.alloc (.cells [.int .i64 u].toArray 2)) (by rfl) rfl (by go_simp; first | done | rfl | exact ⟨rfl, rfl⟩) ?_
                refine hK.out _ _ ⟨(blk_cell (blk_alloc HX8.out _) 0).trans rfl, (blk_cell (blk_alloc HX8.out _) 1).trans rfl, (blk_cell (blk_alloc HX8.out _) 2).trans rfl⟩ (fun hHeld => ?_)
                clear hK K
                refine norm_ (a' := ?_) ?_ ?_
                rotate_left
                · show Act.put _ (some 61) _ = _
                  simp only [Act.put, List.setIfInBounds_toArray, List.set_cons_zero, List.set_cons_succ, i64_w, i32_w]
                  rfl
                refine one_ (i := 3) (N := some 62) #[true, true, true, true, true, false, false] rfl rfl (one_of HT_.out (by kernel_rfl)) (by decide) (fun K hK => ?_)
                refine Kd.R_append_step (Kd.int .i64) (w0 := w) w.heap.size (by rfl) (.tmp 59) (.tmp 61) 43 2 (.int .i64 0) 8 rfl hu43 info2 rfl (by decide) (by omega) u9 out u [.int .i64 u] (fun _ => True) (fun _ => False) rfl rfl ?aP (fun _ hk => hk.elim) ?aF ?aO ?aB ?aS ?aL ?_
                case aP => exact rfl
                case aF => exact fun _ _ => trivial
                case aO => exact HS8.out.out
                case aB => exact HS8.out.made
                case aS => exact HS8.out.size
                case aL => have := HMm.out; omega
                intro v9 w9 ho hb hg hat
                have HX9 := Aside0.mk (blk_grown HX8.out hg (Kd.R_ne HS8.out.out HX8.out (by decide)))
                have HS9 := Aside0.mk (HS8.out.app hg hb ho)
                clear ho hb hg hat HS8 HX8
                refine hK.out _ _ ⟨(blk_cell HX9.out 0).trans rfl, (blk_cell HX9.out 1).trans rfl, (blk_cell HX9.out 2).trans rfl⟩ (fun hHeld => ?_)
                clear hK K
                refine norm_ (a' := ?_) ?_ ?_
                rotate_left
                · show Act.put _ (some 62) _ = _
                  simp only [Act.put, List.setIfInBounds_toArray, List.set_cons_zero, List.set_cons_succ, i64_w, i32_w]
                  rfl
                refine pure_ (i := 5) (N := some 9) (v := ?_) (a' := ?_) #[true, true, true, true, true, true, false] rfl rfl (any_of HT_.out (by kernel_rfl)) (fun _ _ _ h => h) (Or.inl ⟨by rfl, ?_⟩) ?_ ?_
                rotate_left
                · intro w'
                  go_simp
                  with_reducible rfl
                rotate_left
                · simp only [Act.put, List.setIfInBounds_toArray, List.set_cons_zero, List.set_cons_succ, i64_w, i32_w]
                  rfl
                refine one_ (i := 6) (N := none) #[true, true, true, true, true, true, true] rfl rfl (one_of HT_.out (by kernel_rfl)) (by decide) (fun K hK => ?_)
                have hs0 : w9.cell? ⟨gc, 0, none⟩ = some (.int .i64 q0) := (blk_cell HS9.out.cur 0).trans rfl
                have hs1 : w9.cell? ⟨gc, 1, none⟩ = some (.int .i64 q1) := (blk_cell HS9.out.cur 1).trans rfl
                have hs2 : w9.cell? ⟨gc, 2, none⟩ = some (.int .i64 q2) := (blk_cell HS9.out.cur 2).trans rfl
                have hf0 := blk_frozen HS9.out.cur 0
                have hf1 := blk_frozen HS9.out.cur 1
                have hf2 := blk_frozen HS9.out.cur 2
                refine skip_ (w1 := ((w9.setCell ⟨gc, 0, none⟩ (.int .i64 x)).setCell ⟨gc, 1, none⟩ (.int .i64 y)).setCell ⟨gc, 2, none⟩ (.int .i64 u)) (by rfl) rfl ?_ ?_
                · go_simp
                have HX10 := Aside0.mk (blk_far (p := ⟨gc, 2, none⟩) (blk_far (p := ⟨gc, 1, none⟩) (blk_far (p := ⟨gc, 0, none⟩) HX9.out hgx (.int .i64 x)) hgx (.int .i64 y)) hgx (.int .i64 u))
                have HS10 := Aside0.mk (HS9.out.store x y u)
                clear hs0 hs1 hs2 hf0 hf1 hf2
                refine hK.out _ _ ⟨(blk_cell HX10.out 0).trans rfl, (blk_cell HX10.out 1).trans rfl, (blk_cell HX10.out 2).trans rfl⟩ (fun hHeld => ?_)
                clear hK K
                generalize ((w9.setCell ⟨gc, 0, none⟩ (.int .i64 x)).setCell ⟨gc, 1, none⟩ (.int .i64 y)).setCell ⟨gc, 2, none⟩ (.int .i64 u) = w10 at HS10 HX10 hHeld ⊢
                refine done_ (done_of HT_.out (by kernel_rfl)) ?_
                have hp := HP2.out
                rw [HST2.out] at hp
                have hp : planP M a b (m - 1).toNat (m - 1) (stepTo ⟨q0, q1, q2⟩ u) (out ++ [u]) = R := hp
                rw [HSP.out] at hp
                have HP3 := Aside0.mk hp
                clear hp hHeld
                go_wp2
                go_roundg (m - 1).toNat
                case measure => have := HMm.out; omega
                case rel => exact ⟨m - 1, ⟨x, y, u⟩, out ++ [u], by first | rfl | rw [hwm], ⟨by omega, by have := HMm.out; omega, by omega, by have := HMm.out; simp only [List.length_append, List.length_cons, List.length_nil]; omega⟩, HIN, HP3, HS10⟩
              · have hst := HST.out
                rw [hg, if_neg (by simpa using hmm)] at hst
                have HST2 := Aside0.mk hst
                have hdm : decide (mm = m - 1) = false := decide_eq_false hmm
                clear hst hg
                go_wp2_with (first
                | (go_at_call 55; go_loud ((with_reducible refine (impl_Limits_next.calls 1 a b q0 q1 q2 u x y u true _ HNX.out).mono ?_); rintro e w6 ⟨rfl, hb6⟩; have HB6 := Aside0.mk hb6; clear hb6))
                | ((with_reducible refine gate_dst (N := 48) rfl ?_); (with_reducible refine gen_alloc ?_); go_loud (intro w7 hbox hbw; have HX7 := Aside0.mk hbox; have HB7 := Aside0.mk (below_step HB6.out hbw); have HS7 := Aside0.mk (HS.out.below HB7.out); have HT7 := Aside0.mk (Kd.R_below HT.out HB7.out); clear hbox hbw; have hx0 : w7.cell? ⟨w6.heap.size, 0, none⟩ = some (.int .i64 x) := (blk_cell HX7.out 0).trans rfl; have hx1 : w7.cell? ⟨w6.heap.size, 1, none⟩ = some (.int .i64 y) := (blk_cell HX7.out 1).trans rfl; have hx2 : w7.cell? ⟨w6.heap.size, 2, none⟩ = some (.int .i64 u) := (blk_cell HX7.out 2).trans rfl))
                | (at_lookup; go_loud (refine wpList_look (x := (⟨x, y, u⟩ : S24)) true rfl _ _ rfl keyedC hu80 (by rfl) rfl HS7.out.map rfl HKX.out ?_; rw [HG2.out]; simp only [Option.getD, Option.isSome, if_true])))
                go_roundg (L.length - (i + 1).toNat)
                case measure => have := HI.out; omega
                case rel => exact ⟨i + 1, by first | rfl | rw [hwi], ⟨by omega, by omega, by omega⟩, ⟨HST2.out.symm⟩, HT7, HS7⟩
          · have hst := HFI.out
            rw [List.drop_eq_nil_of_le (by omega)] at hst
            have hst : none = FO := hst
            have hp := HP2.out
            rw [← hst] at hp
            have HP3 := Aside0.mk hp
            clear hst hp
            go_wp2
            go_roundg (m - 1).toNat
            case measure => have := HMm.out; omega
            case rel => exact ⟨m - 1, ⟨q0, q1, q2⟩, out, by first | rfl | rw [hwm], ⟨by omega, by have := HMm.out; omega, by omega, by have := HMm.out; omega⟩, HQ, HP3, HS⟩
      · have em : m = 0 := by have := HMm.out; omega
        subst em
        have HP2 : Aside0 (out = R) := ⟨HP.out⟩
        go_wp2
        try go_ret2
        rw [HF.out]
        exact ⟨_, rfl, by rw [← HP2.out]; exact HS.out.out, HS.out.made⟩

theorem impl_Limits_plan.calls (a0_0 : Int) (a0_1 : Int) (a1_0 : Int) (a1_1 : Int) (a1_2 : Int) (r1 : List Int) (r2 : Bool) (w : World) (h : impl_Limits_plan.f a0_0 a0_1 a1_0 a1_1 a1_2 = some (r1, r2)) :
    Calls Try.prog 63 #[.agg #[.int .i64 a0_0, .int .i64 a0_1], .agg #[.int .i64 a1_0, .int .i64 a1_1, .int .i64 a1_2]] w fun e w' => ∃ v0_ : Value, e = .returned (.tuple #[v0_, .bool r2]) ∧ Kd.R (Kd.int .i64) 2 w' w.heap.size (fun _ => True) v0_ r1 ∧ Below w.heap.size w w' := by
  unfold impl_Limits_plan.f at h
  by_cases hv : (1 ≤ a0_0 ∧ a0_0 ≤ 3) ∧ (1 ≤ a0_1 ∧ a0_1 ≤ 6) ∧ insS a0_0 ⟨a1_0, a1_1, a1_2⟩ = true
  · rw [if_pos hv] at h
    have hpl := plan_calls a0_0 a0_1 ⟨a1_0, a1_1, a1_2⟩ hv.1 hv.2.1 hv.2.2 w _ rfl
    cases hg : mget (distD a0_0 a0_1) ⟨a1_0, a1_1, a1_2⟩ with
    | none =>
      rw [hg] at h
      simp only [Option.some.injEq, Prod.mk.injEq] at h
      obtain ⟨rfl, rfl⟩ := h
      exact hpl.1 hg
    | some n =>
      rw [hg] at h
      dsimp only at h
      by_cases hn : 0 ≤ n ∧ n ≤ 40
      · rw [if_pos hn] at h
        simp only [Option.some.injEq, Prod.mk.injEq] at h
        obtain ⟨rfl, rfl⟩ := h
        exact hpl.2 n hg hn
      · rw [if_neg hn] at h
        cases h
  · rw [if_neg hv] at h
    cases h

end Go.Proofs.Ytibmehephlngfaa.Q
