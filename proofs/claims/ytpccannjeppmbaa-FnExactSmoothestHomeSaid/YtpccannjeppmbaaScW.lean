/- A contract by hand for spec.l05Costs: the plain tables. -/
import Derived.Test.YtpccannjeppmbaaQ0
import Derived.Test.YtpccannjeppmbaaQ2
import Derived.Test.YtpccannjeppmbaaQ11
import Derived.Test.YtpccannjeppmbaaScQ
namespace Go.Proofs.Ytpccannjeppmbaa.Q
open Go.RowKit Go.Proofs.YtpccannjeppmbaaW.PrintWords Go.Proofs.YtpccannjeppmbaaW.PrintLast Go.Proofs.YtpccannjeppmbaaW.PrintMore
set_option linter.unusedVariables false
set_option linter.unusedSimpArgs false

def costs_T : Bool × List (List Nat × List Nat) := (true, [([], []), ([], []), ([0, 1], [0, 1]), ([2], [2]), ([], []), ([4], [4]), ([3, 5], [3, 5]), ([6], [6]), ([], []), ([8], [8]), ([], []), ([9, 10], [9, 10]), ([], []), ([12], [12]), ([], []), ([13, 14], [13, 14]), ([11, 15], [11, 15]), ([7, 16], [7, 16]), ([17, 5, 0, 1, 2, 3, 4, 5, 6, 7, 8, 9, 10, 11, 12, 13, 14, 15, 16, 17], [17])])
def costs_B : List Nat := [0, 0, 3, 7, 0, 16, 63, 127, 0, 256, 0, 1792, 0, 4096, 0, 28672, 65280, 131071, 262143]
theorem costs_tab : rtab .any (opsOf Try.f13 21) = costs_T := by kernel_rfl
theorem costs_bits : waitsOk costs_T.2 costs_B = true := by kernel_rfl
def CostPost (D : List (List Int)) (w : World) (e : Ending) (w' : World) : Prop := ∃ v, e = .returned v ∧ Kd.N (Kd.slice 2 (Kd.int .i64)) 26 w' w.heap.size (fun k => w.heap.size ≤ k) v D ∧ Below w.heap.size w w'

set_option maxHeartbeats 16000000 in
set_option maxRecDepth 100000 in
theorem costs_calls (a b k : Int) (ha : 1 ≤ a ∧ a ≤ 3) (hb : 1 ≤ b ∧ b ≤ 6) (hk : 0 ≤ k ∧ k ≤ 8) (w : World) : Calls Try.prog 13 #[.agg #[.int .i64 a, .int .i64 b], .int .i64 k] w (CostPost (costsP a b k) w) := by
  have hu29 := Try.underlying29
  have hu31 := Try.underlying31
  have hu26 := Try.underlying26
  have hu38 := Try.underlying38
  have hu49 := Try.underlying49
  have hins0 : insS a ⟨0, 0, 0⟩ = true := insS_iff.2 ⟨by decide, by decide, by show -a ≤ 0 ∧ 0 ≤ a; omega⟩
  obtain ⟨q0, hq0⟩ : ∃ q0, q0 = spotZ home := ⟨_, rfl⟩
  have HT0 : Aside0 (spec_l05Spot.f 0 0 0 = some q0) := ⟨by rw [cspot_eq ha hins0, hq0]; rfl⟩
  have hqb := spotZ_le ha.2 hins0
  have hqb : 0 ≤ q0 ∧ q0 < 11907 := by rw [hq0]; exact hqb
  have p0t : (0 ≤ q0) = True := eq_true hqb.1
  have q0t : (q0 < (zerosC.length : Int)) = True := eq_true (by rw [zlen]; exact hqb.2)
  have HFI : Aside0 (zerosC.set q0.toNat 1 = firstC) := ⟨by rw [hq0]; rfl⟩
  have HH : Aside0 (∀ c ∈ [home], insS a c = true) := ⟨fun c hc => by simp only [List.mem_singleton] at hc; rw [hc]; exact hins0⟩
  have HA := Aside0.mk ha
  have HBb := Aside0.mk hb
  have HK := Aside0.mk hk
  have HQB := Aside0.mk hqb
  obtain ⟨D, hD⟩ : ∃ D, D = costsP a b k := ⟨_, rfl⟩
  obtain ⟨F, hF⟩ : ∃ F : Ending → World → Prop, F = CostPost D w := ⟨_, rfl⟩
  rw [← hD, ← hF]
  have HD := Aside0.mk hD
  have HF := Aside0.mk hF
  clear hD hF ha hb hk hins0 hqb hq0
  go_enter Try.func13, Try.ntmps13
  go_wp2_with (first
    | ((with_reducible refine gate_dst (N := 2) rfl ?_); go_loud (refine box_event ?hg (N := 2) ?hd (cs := #[.int .i64 a, .int .i64 b]) (t := 29) ?hr ?_; (case hd => rfl); (case hg => rfl); (case hr => first | (go_simp; done) | (go_simp; rfl)); intro gl hgl w1 hbox hbw; have HL1 := Aside0.mk hbox; have HB1 := Aside0.mk hbw; clear hgl hbox hbw))
    | ((with_reducible refine gate_dst (N := 18) rfl ?_); go_loud (refine Kd.R_make (Kd.int .i64) (w0 := w1) w1.heap.size 2 rfl (N := 18) rfl 26 _ _ rfl 11907 rfl rfl hu26 (.int .i64 0) 8 info2 rfl (by decide) (by omega) 0 (ok := fun _ => True) (okp := fun _ => True) rfl (fun _ hk => hk) trivial (by omega) (by omega) (Below.refl _ _) (Nat.le_refl _) ?_; intro v18 w2 ho hbw hg_ hnew_; clear hg_ hnew_; replace ho : Kd.R (Kd.int .i64) 2 w2 w1.heap.size (fun _ => True) v18 zerosC := ho; obtain ⟨gT, cT, eT, gb_, gl_, cl_, hT_⟩ := Kd.R_form ho (by have := zlen; omega); subst eT; clear gl_ hT_; have HGT : Aside0 (w.heap.size ≤ gT) := ⟨Nat.le_trans HB1.out.size gb_⟩; have HO2 := Aside0.mk (Kd.R_lower ho HB1.out.size); have HL2 := Aside0.mk (blk_below HL1.out hbw); have HB2 := Aside0.mk (below_step HB1.out hbw); clear ho hbw gb_ HL1 HB1))
    | (go_at_call 14; go_loud ((with_reducible refine (spec_l05Spot.calls 0 0 0 q0 _ HT0.out).mono ?_); rintro e w3 ⟨rfl, hb3⟩; have HO3 := Aside0.mk (Kd.R_below HO2.out hb3); have HL3 := Aside0.mk (blk_below HL2.out hb3); have HB3 := Aside0.mk (below_step HB2.out hb3); clear hb3; obtain ⟨hx3, hf3⟩ := Kd.R_celln 0 HO3.out q0 HQB.out.1 (by rw [zlen]; exact HQB.out.2)))
    | ((with_reducible refine gate_dst (N := 24) rfl ?_); go_loud (have HO4 := Aside0.mk (Kd.R_putg HO3.out q0 1).1; have HL4 := Aside0.mk (blk_grown HL3.out (Kd.R_putg HO3.out q0 1).2 (Kd.R_ne HO3.out HL3.out (by decide))); have HB4 := Aside0.mk (below_set (j := q0.toNat) (v := .int .i64 1) HB3.out HGT.out); rw [HFI.out] at HO4; clear hx3 hf3 HO3 HL3 HB3; generalize w3.setCell ⟨gT, q0.toNat, none⟩ (.int .i64 1) = w4 at HO4 HL4 HB4 ⊢; refine Kd.N_lit (Kd.slice 2 (Kd.int .i64)) (w0 := w4) w4.heap.size 26 ?hg (N' := 24) ?hd (xs := [firstC]) (inner := [.slice (some ⟨gT, 0, none⟩) zerosC.length cT]) (ok := fun k => w.heap.size ≤ k) (okp := fun k => w.heap.size ≤ k) ?hr ?hp (fun _ hk => hk) HB4.out.size (Below.refl _ _) (Nat.le_refl _) (by simp) ?_; (case hd => rfl); (case hg => rfl); (case hr => first | (go_simp; done) | (go_simp; rfl)); (case hp => exact Reps.one (FK_tab (Kd.R_mono (Kd.R_bound HO4.out) (fun k hk => hk.2.1))) (Reps.none _ _)); intro v24 w5 ho hbw hg_ hnew_; have HN5 := Aside0.mk (Kd.N_lower ho HB4.out.size); have HL5 := Aside0.mk (blk_below HL4.out hbw); have HB5 := Aside0.mk (below_step HB4.out hbw); clear ho hbw hg_ hnew_ HO4 HL4 HB4))
    | ((with_reducible refine gate_dst (N := 26) rfl ?_); go_loud (refine Kd.R_lit k31 (w0 := w5) w5.heap.size 31 ?hg (N := 26) ?hd (xs := [home]) (inner := [.int .i64 0, .int .i64 0, .int .i64 0]) (ok := fun _ => True) (okp := fun _ => True) ?hr ?hp (fun _ hk => hk) trivial (Below.refl _ _) (Nat.le_refl _) (by simp) ?_; (case hd => rfl); (case hg => rfl); (case hr => first | (go_simp; done) | (go_simp; rfl)); (case hp => exact (Reps.c3 (show Kd.M k31 _ _ _ home [.int .i64 0, .int .i64 0, .int .i64 0] from (k31_mkM _ _ _ home)) (Reps.none _ _))); intro v26 w6 ho hbw hg_ hnew_; have HS6 : Aside0 (CO w a b gl w6.heap.size v24 v26 [firstC] [home] w6) := ⟨⟨Kd.N_mono (Kd.N_bound (Kd.N_below HN5.out hbw)) (fun k hk => hk), Kd.R_mono (Kd.R_bound (Kd.R_lower ho HB5.out.size)) (fun k hk => hk.2.2.1), blk_below HL5.out hbw, below_step HB5.out hbw, blk_lt (blk_below HL5.out hbw), Nat.le_refl _⟩⟩; clear ho hbw hg_ hnew_ HN5 HL5 HB5)))
  go_loopg [7, 8, 9] k.toNat (fun gg v7 v8 v9 w' => ∃ (i : Int) (outs : List (List Int)) (nows : List S31), v9 = .int .i64 i ∧ Aside0 (0 ≤ i ∧ i ≤ k ∧ (k - i).toNat ≤ gg) ∧ Aside0 (levelsC a b (k - i).toNat i outs nows = D) ∧ Aside0 ((outs.length : Int) = i + 1 ∧ TabOk (1 + 36 * i) (rdL outs i)) ∧ Aside0 (∀ c ∈ nows, insS a c = true) ∧ Aside0 (nows.length ≤ pow7 i.toNat) ∧ Aside0 (CO w a b gl w'.heap.size v7 v8 outs nows w'))
  case atStart => exact ⟨0, [firstC], [home], rfl, ⟨by omega, HK.out.1, by omega⟩, ⟨by rw [HD.out, show (k - 0) = k from by omega]; rfl⟩, ⟨rfl, first_ok⟩, HH, ⟨Nat.le_refl _⟩, HS6⟩
  case round =>
    clear HS6
    obtain ⟨i, outs, nows, rfl, HI, HLV, HOL, HIN, HPW, HS⟩ := hrel
    obtain ⟨A7, c7, e7⟩ := Kd.N_slice HS.out.out
    subst e7
    obtain ⟨A8, c8, e8⟩ := Kd.R_slice HS.out.now
    subst e8
    by_cases hi : i < k
    · have hi0 : 0 ≤ i := HI.out.1
      have hilt : i < (outs.length : Int) := by have := HOL.out.1; omega
      obtain ⟨adL, A0, cL, eL, hcl_, hC_⟩ := at_LL (Kd.N_reads' HS.out.out).2.2 i hi0 hilt
      subst eL
      clear A0 cL hcl_ hC_
      obtain ⟨prev, hprev⟩ : ∃ prev, prev = rdL outs i := ⟨_, rfl⟩
      obtain ⟨S, hS⟩ : ∃ S, S = ringC a b prev nows (zerosC, []) := ⟨_, rfl⟩
      have hlv := HLV.out
      rw [show (k - i).toNat = (k - (i + 1)).toNat + 1 from by omega, levelsC, ← hprev, ← hS] at hlv
      have HLV2 := Aside0.mk hlv
      have HPV := Aside0.mk hprev
      have HRS := Aside0.mk hS
      have HTP : Aside0 (TabOk (1 + 36 * i) prev) := ⟨by rw [hprev]; exact HOL.out.2⟩
      have HI2 : Aside0 (0 ≤ i ∧ i ≤ 7 ∧ (prev.length : Int) = 11907) := ⟨⟨hi0, by have := HK.out; omega, by have := HTP.out.1; omega⟩⟩
      have HPW2 : Aside0 (nows.length ≤ 5764801) := ⟨Nat.le_trans HPW.out (pow7_le _ (by have := HK.out; omega))⟩
      have hiltt : (i < (outs.length : Int)) = True := eq_true hilt
      have hi0t : (0 ≤ i) = True := eq_true hi0
      clear hlv hprev hS hilt hi0
      go_wp2_with (first
        | ((with_reducible refine gate_dst (N := 33) rfl ?_); go_loud (refine Kd.R_make (Kd.int .i64) (w0 := wr) wr.heap.size 2 rfl (N := 33) rfl 26 _ _ rfl 11907 rfl rfl hu26 (.int .i64 0) 8 info2 rfl (by decide) (by omega) 0 (ok := fun _ => True) (okp := fun _ => True) rfl (fun _ hk => hk) trivial (by omega) (by omega) (Below.refl _ _) (Nat.le_refl _) ?_; intro v33 w1 ho hbw hg_ hnew_; clear hg_ hnew_; replace ho : Kd.R (Kd.int .i64) 2 w1 wr.heap.size (fun _ => True) v33 zerosC := ho; obtain ⟨gT, cT, eT, gb_, gl_, cl_, hT_⟩ := Kd.R_form ho (by have := zlen; omega); subst eT; clear gl_ hT_; have HGT : Aside0 (wr.heap.size ≤ gT) := ⟨gb_⟩; have HO1 := Aside0.mk (Kd.R_lower ho (Nat.le_refl _)); have HB1 := Aside0.mk hbw; clear ho hbw gb_))
        | ((with_reducible refine gate_dst (N := 34) rfl ?_); go_loud (refine Kd.R_lit k31 (w0 := w1) w1.heap.size 31 ?hg (N := 34) ?hd (xs := ([] : List S31)) (inner := []) (ok := fun k => w1.heap.size ≤ k) (okp := fun _ => False) ?hr ?hp (fun _ hk => hk.elim) (Nat.le_refl _) (Below.refl _ _) (Nat.le_refl _) (by simp) ?_; (case hd => rfl); (case hg => rfl); (case hr => first | (go_simp; done) | (go_simp; rfl)); (case hp => exact Reps.none _ _); intro v34 w2 ho hbw hg_ hnew_; have HB2 := Aside0.mk (below_step HB1.out hbw); have HS2 : Aside0 (CI w a b gl wr.heap.size (.slice (some adL) outs.length c7) (.slice A8 nows.length c8) (.slice (some ⟨gT, 0, none⟩) zerosC.length cT) v34 outs nows (fun _ => True) (zerosC, []) w2) := ⟨⟨HS.out.below HB2.out, Kd.R_lower (Kd.R_mono (Kd.R_bound (Kd.R_below HO1.out hbw)) (fun k hk => hk.2.1)) HS.out.size, Kd.R_mono (Kd.R_lower ho (Nat.le_trans HS.out.size HB1.out.size)) (fun k hk => ⟨Nat.le_trans HB1.out.size hk, trivial⟩)⟩⟩; clear ho hbw hg_ hnew_)))
      clear HO1 HB1 HB2
      have HGT2 : Aside0 (w.heap.size ≤ gT) := ⟨Nat.le_trans HS.out.size HGT.out⟩
      have HWB : Aside0 (w.heap.size ≤ wr.heap.size) := ⟨HS.out.size⟩
      clear HS
      generalize wr.heap.size = B4 at HS2 HGT HWB
      go_loopg [11, 12] nows.length (fun gg v11 v12 w' => ∃ (j : Int) (s : CB), v12 = .int .i64 j ∧ Aside0 (0 ≤ j ∧ j ≤ nows.length ∧ nows.length - j.toNat ≤ gg) ∧ Aside0 (ringC a b prev (nows.drop j.toNat) s = S) ∧ Aside0 (InvC a (1 + 36 * i + 36) (7 * j.toNat) s) ∧ Aside0 (CI w a b gl B4 (.slice (some adL) outs.length c7) (.slice A8 nows.length c8) (.slice (some ⟨gT, 0, none⟩) zerosC.length cT) v11 outs nows (fun _ => True) s w'))
      case atStart => exact ⟨0, (zerosC, []), rfl, ⟨by omega, by omega, by simp⟩, ⟨by rw [HRS.out]; rfl⟩, ⟨zeros_ok (by have := HI2.out; omega), (fun c hc => by cases hc), Nat.le_refl _⟩, HS2⟩
      case round =>
        clear HS2
        obtain ⟨j, s, rfl, HJ, HRG, HV, HS⟩ := hrel
        by_cases hj : j < (nows.length : Int)
        · have hj0 : 0 ≤ j := HJ.out.1
          obtain ⟨ad, e4, hx0, hx1, hx2⟩ := at_T31 (Kd.R_reads' HS.out.co.now).2.2 j hj0 hj
          cases e4
          have hstep := ringC_at a b prev nows j hj0 hj s
          have hc : insS a (rd_T31 nows j) = true := by
            have hl : j.toNat < nows.length := by omega
            have e2 : rd_T31 nows j = nows[j.toNat] := by simp [rd_T31, hl]
            rw [e2]
            exact HIN.out _ (List.getElem_mem _)
          have hrdt : rdT nows j = rd_T31 nows j := rfl
          rw [hrdt] at hstep
          generalize rd_T31 nows j = c at hx0 hx1 hx2 hstep hc
          obtain ⟨c0, c1, c2⟩ := c
          obtain ⟨S3, hS3⟩ : ∃ S3, S3 = innerC a b prev ⟨c0, c1, c2⟩ (2 * a + 1).toNat (-a) s := ⟨_, rfl⟩
          rw [HRG.out, ← hS3] at hstep
          have HSTEP := Aside0.mk hstep
          have HS3 := Aside0.mk hS3
          have HC := Aside0.mk hc
          have hwa : wrap64 (-a) = -a := cw64 (by have := HA.out; omega)
          clear hstep hS3 hc hrdt
          go_wp2_with (first
            | ((with_reducible refine gate_dst (N := 46) rfl ?_); (with_reducible refine gen_box ?_); go_loud (intro w5 hbox hbw; have HC5 := Aside0.mk hbox; have HS5 := Aside0.mk ((HS.out.elder wr.heap.size (Nat.le_refl _)).below hbw); clear hbox hbw; have hl50 : w5.cell? ⟨gl, 0, none⟩ = some (.int .i64 a) := (blk_cell HS5.out.co.box 0).trans rfl)))
          clear HS
          generalize wr.heap.size = gc at HC5 HS5 ⊢
          clear hl50 hx0 hx1 hx2
          go_loopg [11, 14] (2 * a + 1).toNat (fun gg v11 v14 w' => ∃ (u : Int) (s2 : CB), v14 = .int .i64 u ∧ Aside0 (-a ≤ u ∧ u ≤ a + 1 ∧ (a + 1 - u).toNat ≤ gg) ∧ Aside0 (innerC a b prev ⟨c0, c1, c2⟩ (a + 1 - u).toNat u s2 = S3) ∧ Aside0 (InvC a (1 + 36 * i + 36) (7 * j.toNat + (u + a).toNat) s2) ∧ Aside0 (w'.heap[gc]? = some (.cells #[.int .i64 c0, .int .i64 c1, .int .i64 c2] 31 (0, 0))) ∧ Aside0 (CI w a b gl B4 (.slice (some adL) outs.length c7) (.slice (some ad) nows.length c8) (.slice (some ⟨gT, 0, none⟩) zerosC.length cT) v11 outs nows (fun k => k ≠ gc) s2 w'))
          case atStart => exact ⟨-a, s, rfl, ⟨by have := HA.out; omega, by have := HA.out; omega, by omega⟩, ⟨by rw [HS3.out, show (a + 1 - -a).toNat = (2 * a + 1).toNat from by omega]⟩, ⟨by rw [show (-a + a).toNat = 0 from by omega]; exact HV.out⟩, HC5, ⟨HS5.out.mono (fun k hk => hk.2)⟩⟩
          case round =>
            clear HS5 HC5
            obtain ⟨u, s2, rfl, HU, HIR, HV2, HKC, HS⟩ := hrel
            obtain ⟨A11, c11, e11⟩ := Kd.R_slice HS.out.nxt
            subst e11
            have hl0 : wr.cell? ⟨gl, 0, none⟩ = some (.int .i64 a) := (blk_cell HS.out.co.box 0).trans rfl
            have hl1 : wr.cell? ⟨gl, 1, none⟩ = some (.int .i64 b) := (blk_cell HS.out.co.box 1).trans rfl
            by_cases hu : u ≤ a
            · have hc0 : wr.cell? ⟨gc, 0, none⟩ = some (.int .i64 c0) := (blk_cell HKC.out 0).trans rfl
              have hc1 : wr.cell? ⟨gc, 1, none⟩ = some (.int .i64 c1) := (blk_cell HKC.out 1).trans rfl
              have hc2 : wr.cell? ⟨gc, 2, none⟩ = some (.int .i64 c2) := (blk_cell HKC.out 2).trans rfl
              have hu0 : -a ≤ u := HU.out.1
              obtain ⟨k0, k1, k2⟩ := insS_iff.1 HC.out
              simp only at k0 k1 k2
              obtain ⟨p1, hp1⟩ : ∃ p1 : Int, p1 = c1 - c2 := ⟨_, rfl⟩
              obtain ⟨p0, hp0⟩ : ∃ p0 : Int, p0 = c0 - p1 := ⟨_, rfl⟩
              obtain ⟨dd, hdd⟩ : ∃ dd : Int, dd = c2 - u := ⟨_, rfl⟩
              have hpr : prevOf ⟨c0, c1, c2⟩ u = ⟨p0, p1, u⟩ := by unfold prevOf; rw [hp0, hp1]
              have hw1 : wrap64 (c1 - c2) = p1 := by rw [hp1]; exact cw64 (by have := HA.out; omega)
              have hw0 : wrap64 (c0 - p1) = p0 := by rw [hp0, hp1]; exact cw64 (by have := HA.out; omega)
              have hwd : wrap64 (c2 - u) = dd := by rw [hdd]; exact cw64 (by have := HA.out; omega)
              have hwb : wrap64 (-b) = -b := cw64 (by have := HBb.out; omega)
              have hwu : wrap64 (u + 1) = u + 1 := cw64 (by have := HA.out; omega)
              have hst := HIR.out
              rw [show (a + 1 - u).toNat = (a + 1 - (u + 1)).toNat + 1 from by omega] at hst
              have hst : innerC a b prev ⟨c0, c1, c2⟩ (a + 1 - (u + 1)).toNat (u + 1) (stepC a b prev ⟨c0, c1, c2⟩ s2 u) = S3 := hst
              have hsv := stepC_inv (b := b) HA.out HTP.out HC.out ⟨hu0, hu⟩ HV2.out
              have hcle := costC_le HA.out HTP.out HC.out ⟨hu0, hu⟩
              rw [show 7 * j.toNat + (u + a).toNat + 1 = 7 * j.toNat + (u + 1 + a).toNat from by omega] at hsv
              unfold stepC fitP at hst hsv
              rw [hpr] at hst hsv
              have hde : (decide (-b ≤ (⟨c0, c1, c2⟩ : S31).f2 - u ∧ (⟨c0, c1, c2⟩ : S31).f2 - u ≤ b)) = decide (-b ≤ dd ∧ dd ≤ b) := by rw [hdd]
              rw [hde] at hst hsv
              obtain ⟨cst, hcst⟩ : ∃ cst, cst = costC prev ⟨c0, c1, c2⟩ u := ⟨_, rfl⟩
              rw [← hcst] at hst hsv hcle
              have HST := Aside0.mk hst
              have HSV := Aside0.mk hsv
              have HCS : Aside0 (cst = rd prev (spotZ ⟨c0, c1, c2⟩) + dd * dd) := ⟨by rw [hcst, hdd]; rfl⟩
              have HCB := Aside0.mk hcle
              have HDD : Aside0 (-6 ≤ dd ∧ dd ≤ 6) := ⟨by have := HA.out; omega⟩
              have HI20 : Aside0 (spec_l00In.f dd (-b) b = some (decide (-b ≤ dd ∧ dd ≤ b))) := ⟨cin_eq _ _ _⟩
              clear hst hsv hcle hcst hde hpr k0 k1 k2 hp0 hp1 hdd
              have hinse := cins_eq HA.out p0 p1 u
              cases hin : insS a ⟨p0, p1, u⟩ with
              | false =>
                rw [hin] at hinse
                have HINS := Aside0.mk hinse
                clear hinse
                have hst := HST.out
                have hsv := HSV.out
                rw [hin, Bool.false_and, if_neg (by decide)] at hst hsv
                have HST2 := Aside0.mk hst
                have HSV2 := Aside0.mk hsv
                clear hst hsv
                clear hin
                go_wp2_with (first
                  | ((with_reducible refine gate_dst (N := 62) rfl ?_); (with_reducible refine gen_box ?_); go_loud (intro w6 hbox hbw; have HP6 := Aside0.mk hbox; have HB6 := Aside0.mk hbw; have HK6 := Aside0.mk (blk_below HKC.out hbw); clear hbox hbw; have hc60 : w6.cell? ⟨gc, 0, none⟩ = some (.int .i64 c0) := (blk_cell HK6.out 0).trans rfl; have hc61 : w6.cell? ⟨gc, 1, none⟩ = some (.int .i64 c1) := (blk_cell HK6.out 1).trans rfl; have hc62 : w6.cell? ⟨gc, 2, none⟩ = some (.int .i64 c2) := (blk_cell HK6.out 2).trans rfl; have hp60 : w6.cell? ⟨wr.heap.size, 0, none⟩ = some (.int .i64 0) := (blk_cell HP6.out 0).trans rfl; have hp61 : w6.cell? ⟨wr.heap.size, 1, none⟩ = some (.int .i64 p1) := (blk_cell HP6.out 1).trans rfl; have hp62 : w6.cell? ⟨wr.heap.size, 2, none⟩ = some (.int .i64 u) := (blk_cell HP6.out 2).trans rfl; have hfp := blk_frozen HP6.out 0))
                  | ((with_reducible refine gate_dst (N := 68) rfl ?_); go_loud (have HP7 := Aside0.mk (blk_put (cs' := #[.int .i64 p0, .int .i64 p1, .int .i64 u]) HP6.out 0 (.int .i64 p0) rfl); have HB7 := Aside0.mk (below_set (j := 0) (v := .int .i64 p0) HB6.out (Nat.le_refl _)); clear HP6 HB6 HK6 hfp hc60 hc61 hc62 hp60 hp61 hp62; generalize w6.setCell ⟨wr.heap.size, 0, none⟩ (.int .i64 p0) = w7 at HP7 HB7 ⊢; have HS7 := Aside0.mk ((HS.out.elder wr.heap.size (Nat.le_refl _)).below HB7.out); have HK7 := Aside0.mk (blk_below HKC.out HB7.out); have hl70 : w7.cell? ⟨gl, 0, none⟩ = some (.int .i64 a) := (blk_cell HS7.out.co.box 0).trans rfl; have hl71 : w7.cell? ⟨gl, 1, none⟩ = some (.int .i64 b) := (blk_cell HS7.out.co.box 1).trans rfl; have hc70 : w7.cell? ⟨gc, 0, none⟩ = some (.int .i64 c0) := (blk_cell HK7.out 0).trans rfl; have hc71 : w7.cell? ⟨gc, 1, none⟩ = some (.int .i64 c1) := (blk_cell HK7.out 1).trans rfl; have hc72 : w7.cell? ⟨gc, 2, none⟩ = some (.int .i64 c2) := (blk_cell HK7.out 2).trans rfl; have hp70 : w7.cell? ⟨wr.heap.size, 0, none⟩ = some (.int .i64 p0) := (blk_cell HP7.out 0).trans rfl; have hp71 : w7.cell? ⟨wr.heap.size, 1, none⟩ = some (.int .i64 p1) := (blk_cell HP7.out 1).trans rfl; have hp72 : w7.cell? ⟨wr.heap.size, 2, none⟩ = some (.int .i64 u) := (blk_cell HP7.out 2).trans rfl))
                  | (go_at_call 20; go_loud ((with_reducible refine (spec_l05Inside.calls a p0 p1 u false _ HINS.out).mono ?_); rintro e w8 ⟨rfl, hb8⟩; have HS8 := Aside0.mk (HS7.out.below hb8); have HK8 := Aside0.mk (blk_below HK7.out hb8); have HP8 := Aside0.mk (blk_below HP7.out hb8); clear hb8; have hl80 : w8.cell? ⟨gl, 0, none⟩ = some (.int .i64 a) := (blk_cell HS8.out.co.box 0).trans rfl; have hl81 : w8.cell? ⟨gl, 1, none⟩ = some (.int .i64 b) := (blk_cell HS8.out.co.box 1).trans rfl; have hc80 : w8.cell? ⟨gc, 0, none⟩ = some (.int .i64 c0) := (blk_cell HK8.out 0).trans rfl; have hc81 : w8.cell? ⟨gc, 1, none⟩ = some (.int .i64 c1) := (blk_cell HK8.out 1).trans rfl; have hc82 : w8.cell? ⟨gc, 2, none⟩ = some (.int .i64 c2) := (blk_cell HK8.out 2).trans rfl; have hp80 : w8.cell? ⟨wr.heap.size, 0, none⟩ = some (.int .i64 p0) := (blk_cell HP8.out 0).trans rfl; have hp81 : w8.cell? ⟨wr.heap.size, 1, none⟩ = some (.int .i64 p1) := (blk_cell HP8.out 1).trans rfl; have hp82 : w8.cell? ⟨wr.heap.size, 2, none⟩ = some (.int .i64 u) := (blk_cell HP8.out 2).trans rfl)))
                go_roundg (a - u).toNat
                case measure => have := HU.out; omega
                case rel => exact ⟨u + 1, s2, by first | rfl | rw [hwu], ⟨by omega, by omega, by omega⟩, HST2, HSV2, HK8, ⟨HS8.out.mono (fun k hk => hk.1)⟩⟩
              | true =>
                rw [hin] at hinse
                have HINS := Aside0.mk hinse
                clear hinse
                cases hok : decide (-b ≤ dd ∧ dd ≤ b) with
                | false =>
                  rw [hok] at HI20
                  have hst := HST.out
                  have hsv := HSV.out
                  rw [hin, hok, Bool.true_and, if_neg (by decide)] at hst hsv
                  have HST2 := Aside0.mk hst
                  have HSV2 := Aside0.mk hsv
                  clear hst hsv
                  clear hin hok
                  go_wp2_with (first
                    | ((with_reducible refine gate_dst (N := 62) rfl ?_); (with_reducible refine gen_box ?_); go_loud (intro w6 hbox hbw; have HP6 := Aside0.mk hbox; have HB6 := Aside0.mk hbw; have HK6 := Aside0.mk (blk_below HKC.out hbw); clear hbox hbw; have hc60 : w6.cell? ⟨gc, 0, none⟩ = some (.int .i64 c0) := (blk_cell HK6.out 0).trans rfl; have hc61 : w6.cell? ⟨gc, 1, none⟩ = some (.int .i64 c1) := (blk_cell HK6.out 1).trans rfl; have hc62 : w6.cell? ⟨gc, 2, none⟩ = some (.int .i64 c2) := (blk_cell HK6.out 2).trans rfl; have hp60 : w6.cell? ⟨wr.heap.size, 0, none⟩ = some (.int .i64 0) := (blk_cell HP6.out 0).trans rfl; have hp61 : w6.cell? ⟨wr.heap.size, 1, none⟩ = some (.int .i64 p1) := (blk_cell HP6.out 1).trans rfl; have hp62 : w6.cell? ⟨wr.heap.size, 2, none⟩ = some (.int .i64 u) := (blk_cell HP6.out 2).trans rfl; have hfp := blk_frozen HP6.out 0))
                    | ((with_reducible refine gate_dst (N := 68) rfl ?_); go_loud (have HP7 := Aside0.mk (blk_put (cs' := #[.int .i64 p0, .int .i64 p1, .int .i64 u]) HP6.out 0 (.int .i64 p0) rfl); have HB7 := Aside0.mk (below_set (j := 0) (v := .int .i64 p0) HB6.out (Nat.le_refl _)); clear HP6 HB6 HK6 hfp hc60 hc61 hc62 hp60 hp61 hp62; generalize w6.setCell ⟨wr.heap.size, 0, none⟩ (.int .i64 p0) = w7 at HP7 HB7 ⊢; have HS7 := Aside0.mk ((HS.out.elder wr.heap.size (Nat.le_refl _)).below HB7.out); have HK7 := Aside0.mk (blk_below HKC.out HB7.out); have hl70 : w7.cell? ⟨gl, 0, none⟩ = some (.int .i64 a) := (blk_cell HS7.out.co.box 0).trans rfl; have hl71 : w7.cell? ⟨gl, 1, none⟩ = some (.int .i64 b) := (blk_cell HS7.out.co.box 1).trans rfl; have hc70 : w7.cell? ⟨gc, 0, none⟩ = some (.int .i64 c0) := (blk_cell HK7.out 0).trans rfl; have hc71 : w7.cell? ⟨gc, 1, none⟩ = some (.int .i64 c1) := (blk_cell HK7.out 1).trans rfl; have hc72 : w7.cell? ⟨gc, 2, none⟩ = some (.int .i64 c2) := (blk_cell HK7.out 2).trans rfl; have hp70 : w7.cell? ⟨wr.heap.size, 0, none⟩ = some (.int .i64 p0) := (blk_cell HP7.out 0).trans rfl; have hp71 : w7.cell? ⟨wr.heap.size, 1, none⟩ = some (.int .i64 p1) := (blk_cell HP7.out 1).trans rfl; have hp72 : w7.cell? ⟨wr.heap.size, 2, none⟩ = some (.int .i64 u) := (blk_cell HP7.out 2).trans rfl))
                    | (go_at_call 20; go_loud ((with_reducible refine (spec_l05Inside.calls a p0 p1 u true _ HINS.out).mono ?_); rintro e w8 ⟨rfl, hb8⟩; have HS8 := Aside0.mk (HS7.out.below hb8); have HK8 := Aside0.mk (blk_below HK7.out hb8); have HP8 := Aside0.mk (blk_below HP7.out hb8); clear hb8; have hl80 : w8.cell? ⟨gl, 0, none⟩ = some (.int .i64 a) := (blk_cell HS8.out.co.box 0).trans rfl; have hl81 : w8.cell? ⟨gl, 1, none⟩ = some (.int .i64 b) := (blk_cell HS8.out.co.box 1).trans rfl; have hc80 : w8.cell? ⟨gc, 0, none⟩ = some (.int .i64 c0) := (blk_cell HK8.out 0).trans rfl; have hc81 : w8.cell? ⟨gc, 1, none⟩ = some (.int .i64 c1) := (blk_cell HK8.out 1).trans rfl; have hc82 : w8.cell? ⟨gc, 2, none⟩ = some (.int .i64 c2) := (blk_cell HK8.out 2).trans rfl; have hp80 : w8.cell? ⟨wr.heap.size, 0, none⟩ = some (.int .i64 p0) := (blk_cell HP8.out 0).trans rfl; have hp81 : w8.cell? ⟨wr.heap.size, 1, none⟩ = some (.int .i64 p1) := (blk_cell HP8.out 1).trans rfl; have hp82 : w8.cell? ⟨wr.heap.size, 2, none⟩ = some (.int .i64 u) := (blk_cell HP8.out 2).trans rfl))
                    | (go_at_call 12; go_loud ((with_reducible refine (spec_l00In.calls dd (-b) b false _ HI20.out).mono ?_); rintro e w' ⟨rfl, ⟨nd, rfl⟩⟩)))
                  go_roundg (a - u).toNat
                  case measure => have := HU.out; omega
                  case rel => exact ⟨u + 1, s2, by first | rfl | rw [hwu], ⟨by omega, by omega, by omega⟩, HST2, HSV2, ⟨blk_at rfl HK8.out⟩, ⟨(HS8.out.mono (fun k hk => hk.1)).below (pw_below_drewN (Below.refl _ _) _)⟩⟩
                | true =>
                  rw [hok] at HI20
                  obtain ⟨q, hq⟩ : ∃ q, q = spotZ ⟨p0, p1, u⟩ := ⟨_, rfl⟩
                  obtain ⟨qc, hqc⟩ : ∃ qc, qc = spotZ ⟨c0, c1, c2⟩ := ⟨_, rfl⟩
                  have HSP : Aside0 (spec_l05Spot.f p0 p1 u = some q) := ⟨by rw [hq]; exact cspot_eq HA.out hin⟩
                  have HSC : Aside0 (spec_l05Spot.f c0 c1 c2 = some qc) := ⟨by rw [hqc]; exact cspot_eq HA.out HC.out⟩
                  have hqb := spotZ_le HA.out.2 hin
                  have hqcb := spotZ_le HA.out.2 HC.out
                  rw [← hq] at hqb
                  rw [← hqc] at hqcb
                  have HQ := Aside0.mk hqb
                  have HQC := Aside0.mk hqcb
                  have p7t : (0 ≤ q) = True := eq_true hqb.1
                  have q7t : (q < (zerosC.length : Int)) = True := eq_true (by rw [zlen]; exact hqb.2)
                  have p8t : (0 ≤ qc) = True := eq_true hqcb.1
                  have q8t : (qc < (prev.length : Int)) = True := eq_true (by rw [HI2.out.2.2]; exact hqcb.2)
                  have hcs := HCS.out
                  rw [← hqc] at hcs
                  have hprb := HTP.out.2 qc
                  have hqq := square_le HDD.out
                  obtain ⟨qq, hqq2⟩ : ∃ qq, qq = dd * dd := ⟨_, rfl⟩
                  obtain ⟨rp, hrp⟩ : ∃ rp, rp = rd prev qc := ⟨_, rfl⟩
                  have HRP := Aside0.mk hrp
                  rw [← hqq2] at hcs hqq
                  rw [← hrp] at hcs hprb
                  have hwq : wrap64 (dd * dd) = qq := by rw [← hqq2]; exact cw64 (by omega)
                  have hwc : wrap64 (rp + qq) = cst := by rw [← hcs]; exact cw64 (by have := HCB.out; have := HI2.out; omega)
                  have HIN2 := Aside0.mk hin
                  obtain ⟨t, ht⟩ : ∃ t, t = rd s2.1 q := ⟨_, rfl⟩
                  have HTT := Aside0.mk ht
                  have hst := HST.out
                  have hsv := HSV.out
                  rw [hin, hok, Bool.true_and, if_pos rfl] at hst hsv
                  unfold putC at hst hsv
                  rw [← hq, ← ht] at hst hsv
                  have HST1 := Aside0.mk hst
                  have HSV1 := Aside0.mk hsv
                  clear hst hsv ht hcs hprb hqq hqq2 hrp hqb hqcb hq hqc hin hok HST HSV HCS
                  go_wp2_with (first
                    | ((with_reducible refine gate_dst (N := 62) rfl ?_); (with_reducible refine gen_box ?_); go_loud (intro w6 hbox hbw; have HP6 := Aside0.mk hbox; have HB6 := Aside0.mk hbw; have HK6 := Aside0.mk (blk_below HKC.out hbw); clear hbox hbw; have hc60 : w6.cell? ⟨gc, 0, none⟩ = some (.int .i64 c0) := (blk_cell HK6.out 0).trans rfl; have hc61 : w6.cell? ⟨gc, 1, none⟩ = some (.int .i64 c1) := (blk_cell HK6.out 1).trans rfl; have hc62 : w6.cell? ⟨gc, 2, none⟩ = some (.int .i64 c2) := (blk_cell HK6.out 2).trans rfl; have hp60 : w6.cell? ⟨wr.heap.size, 0, none⟩ = some (.int .i64 0) := (blk_cell HP6.out 0).trans rfl; have hp61 : w6.cell? ⟨wr.heap.size, 1, none⟩ = some (.int .i64 p1) := (blk_cell HP6.out 1).trans rfl; have hp62 : w6.cell? ⟨wr.heap.size, 2, none⟩ = some (.int .i64 u) := (blk_cell HP6.out 2).trans rfl; have hfp := blk_frozen HP6.out 0))
                    | ((with_reducible refine gate_dst (N := 68) rfl ?_); go_loud (have HP7 := Aside0.mk (blk_put (cs' := #[.int .i64 p0, .int .i64 p1, .int .i64 u]) HP6.out 0 (.int .i64 p0) rfl); have HB7 := Aside0.mk (below_set (j := 0) (v := .int .i64 p0) HB6.out (Nat.le_refl _)); clear HP6 HB6 HK6 hfp hc60 hc61 hc62 hp60 hp61 hp62; generalize w6.setCell ⟨wr.heap.size, 0, none⟩ (.int .i64 p0) = w7 at HP7 HB7 ⊢; have HS7 := Aside0.mk ((HS.out.elder wr.heap.size (Nat.le_refl _)).below HB7.out); have HK7 := Aside0.mk (blk_below HKC.out HB7.out); have hl70 : w7.cell? ⟨gl, 0, none⟩ = some (.int .i64 a) := (blk_cell HS7.out.co.box 0).trans rfl; have hl71 : w7.cell? ⟨gl, 1, none⟩ = some (.int .i64 b) := (blk_cell HS7.out.co.box 1).trans rfl; have hc70 : w7.cell? ⟨gc, 0, none⟩ = some (.int .i64 c0) := (blk_cell HK7.out 0).trans rfl; have hc71 : w7.cell? ⟨gc, 1, none⟩ = some (.int .i64 c1) := (blk_cell HK7.out 1).trans rfl; have hc72 : w7.cell? ⟨gc, 2, none⟩ = some (.int .i64 c2) := (blk_cell HK7.out 2).trans rfl; have hp70 : w7.cell? ⟨wr.heap.size, 0, none⟩ = some (.int .i64 p0) := (blk_cell HP7.out 0).trans rfl; have hp71 : w7.cell? ⟨wr.heap.size, 1, none⟩ = some (.int .i64 p1) := (blk_cell HP7.out 1).trans rfl; have hp72 : w7.cell? ⟨wr.heap.size, 2, none⟩ = some (.int .i64 u) := (blk_cell HP7.out 2).trans rfl))
                    | (go_at_call 20; go_loud ((with_reducible refine (spec_l05Inside.calls a p0 p1 u true _ HINS.out).mono ?_); rintro e w8 ⟨rfl, hb8⟩; have HS8 := Aside0.mk (HS7.out.below hb8); have HK8 := Aside0.mk (blk_below HK7.out hb8); have HP8 := Aside0.mk (blk_below HP7.out hb8); clear hb8; have hl80 : w8.cell? ⟨gl, 0, none⟩ = some (.int .i64 a) := (blk_cell HS8.out.co.box 0).trans rfl; have hl81 : w8.cell? ⟨gl, 1, none⟩ = some (.int .i64 b) := (blk_cell HS8.out.co.box 1).trans rfl; have hc80 : w8.cell? ⟨gc, 0, none⟩ = some (.int .i64 c0) := (blk_cell HK8.out 0).trans rfl; have hc81 : w8.cell? ⟨gc, 1, none⟩ = some (.int .i64 c1) := (blk_cell HK8.out 1).trans rfl; have hc82 : w8.cell? ⟨gc, 2, none⟩ = some (.int .i64 c2) := (blk_cell HK8.out 2).trans rfl; have hp80 : w8.cell? ⟨wr.heap.size, 0, none⟩ = some (.int .i64 p0) := (blk_cell HP8.out 0).trans rfl; have hp81 : w8.cell? ⟨wr.heap.size, 1, none⟩ = some (.int .i64 p1) := (blk_cell HP8.out 1).trans rfl; have hp82 : w8.cell? ⟨wr.heap.size, 2, none⟩ = some (.int .i64 u) := (blk_cell HP8.out 2).trans rfl))
                    | (go_at_call 12; go_loud ((with_reducible refine (spec_l00In.calls dd (-b) b true _ HI20.out).mono ?_); rintro e w' ⟨rfl, ⟨nd, rfl⟩⟩)))
                  have HS9 := Aside0.mk (HS8.out.below (pw_below_drewN (Below.refl _ _) nd))
                  have HK9 : Aside0 ((w8.drewN nd).heap[gc]? = some (.cells #[.int .i64 c0, .int .i64 c1, .int .i64 c2] 31 (0, 0))) := ⟨HK8.out⟩
                  have HP9 : Aside0 ((w8.drewN nd).heap[wr.heap.size]? = some (.cells #[.int .i64 p0, .int .i64 p1, .int .i64 u] 31 (0, 0))) := ⟨HP8.out⟩
                  clear HS7 HK7 HP7 HS8 HK8 HP8 hl70 hl71 hc70 hc71 hc72 hp70 hp71 hp72 hl80 hl81 hc80 hc81 hc82 hp80 hp81 hp82
                  generalize hw8 : w8.drewN nd = w9 at HS9 HK9 HP9 ⊢
                  clear hw8
                  have HS10 := Aside0.mk (HS9.out.below (below_drew (Below.refl _ _)))
                  have HK10 := Aside0.mk (blk_drew HK9.out)
                  have HP10 := Aside0.mk (blk_drew HP9.out)
                  clear HS9 HK9 HP9
                  generalize hw9 : w9.drew = w10 at HS10 HK10 HP10
                  obtain ⟨adM, A0, cL, eL, hcl, hC0⟩ := at_LL (Kd.N_reads' HS10.out.co.out).2.2 i (of_eq_true hi0t) (of_eq_true hiltt)
                  cases eL
                  rw [← HPV.out] at hcl hC0
                  obtain ⟨adP, eP, hxp⟩ := Kd.at_int hC0 qc (of_eq_true p8t) (of_eq_true q8t)
                  subst eP
                  rw [← HRP.out] at hxp
                  refine start_ (n := 19) (S := fun w' => w'.cell? (adL.add i.toNat) = some (.slice (some adP) prev.length cL) ∧ w'.cell? (adP.add qc.toNat) = some (.int .i64 rp) ∧ w'.cell? ⟨gc, 0, none⟩ = some (.int .i64 c0) ∧ w'.cell? ⟨gc, 1, none⟩ = some (.int .i64 c1) ∧ w'.cell? ⟨gc, 2, none⟩ = some (.int .i64 c2)) (ds := []) #[false, false, false, false, false, false, false, false, false, false, false, false, false, false, false, false, false, false, false] (by kernel_rfl) rfl rfl (by rw [hw9]; exact ⟨hcl, hxp, (blk_cell HK10.out 0).trans rfl, (blk_cell HK10.out 1).trans rfl, (blk_cell HK10.out 2).trans rfl⟩) (fun hHeld => ?_)
                  refine with_tabW costs_tab costs_bits (fun HT_ HW_ => ?_)
                  rw [hw9] at hHeld ⊢
                  clear hw9
                  refine pure_ (i := 0) (N := some 85) (v := ?_) (a' := ?_) #[true, false, false, false, false, false, false, false, false, false, false, false, false, false, false, false, false, false, false] rfl rfl (any_of HT_.out (by kernel_rfl)) (fun _ _ _ h => h) (Or.inl ⟨by rfl, ?_⟩) ?_ ?_
                  rotate_left
                  · intro w'
                    go_simp
                    with_reducible rfl
                  rotate_left
                  · simp only [Act.put, List.setIfInBounds_toArray, List.set_cons_zero, List.set_cons_succ, i64_w, i32_w]
                    rfl
                  refine pure_ (i := 1) (N := some 86) (v := ?_) (a' := ?_) #[true, true, false, false, false, false, false, false, false, false, false, false, false, false, false, false, false, false, false] rfl rfl (any_of HT_.out (by kernel_rfl)) (fun _ _ _ h => h) (Or.inl ⟨by rfl, ?_⟩) ?_ ?_
                  rotate_left
                  · intro w'
                    go_simp
                    with_reducible rfl
                  rotate_left
                  · simp only [Act.put, List.setIfInBounds_toArray, List.set_cons_zero, List.set_cons_succ, i64_w, i32_w]
                    rfl
                  refine pure_ (i := 2) (N := some 87) (v := ?_) (a' := ?_) #[true, true, true, false, false, false, false, false, false, false, false, false, false, false, false, false, false, false, false] rfl rfl (any_of HT_.out (by kernel_rfl)) (fun _ _ _ h => h) (Or.inl ⟨by rfl, ?_⟩) ?_ ?_
                  rotate_left
                  · intro w'
                    go_simp
                    with_reducible rfl
                  rotate_left
                  · simp only [Act.put, List.setIfInBounds_toArray, List.set_cons_zero, List.set_cons_succ, i64_w, i32_w]
                    rfl
                  refine take_ (i := 3) (N := some 88) (v := ?_) (a' := ?_) #[true, true, true, true, false, false, false, false, false, false, false, false, false, false, false, false, false, false, false] rfl rfl (take_ofW HT_.out HW_.out (by kernel_rfl)) (fun _ _ _ h => h) (Or.inl ⟨by rfl, ?_⟩) hHeld ?_ ?_
                  rotate_left
                  · rintro w' ⟨s0, s1, s2_, s3, s4⟩
                    go_simp
                    with_reducible rfl
                  rotate_left
                  · simp only [Act.put, List.setIfInBounds_toArray, List.set_cons_zero, List.set_cons_succ, i64_w, i32_w]
                    rfl
                  refine take_ (i := 4) (N := some 89) (v := ?_) (a' := ?_) #[true, true, true, true, true, false, false, false, false, false, false, false, false, false, false, false, false, false, false] rfl rfl (take_ofW HT_.out HW_.out (by kernel_rfl)) (fun _ _ _ h => h) (Or.inl ⟨by rfl, ?_⟩) hHeld ?_ ?_
                  rotate_left
                  · rintro w' ⟨s0, s1, s2_, s3, s4⟩
                    go_simp
                    with_reducible rfl
                  rotate_left
                  · simp only [Act.put, List.setIfInBounds_toArray, List.set_cons_zero, List.set_cons_succ, i64_w, i32_w]
                    rfl
                  refine pure_ (i := 8) (N := some 93) (v := ?_) (a' := ?_) #[true, true, true, true, true, false, false, false, true, false, false, false, false, false, false, false, false, false, false] rfl rfl (any_of HT_.out (by kernel_rfl)) (fun _ _ _ h => h) (Or.inl ⟨by rfl, ?_⟩) ?_ ?_
                  rotate_left
                  · intro w'
                    go_simp
                    with_reducible rfl
                  rotate_left
                  · simp only [Act.put, List.setIfInBounds_toArray, List.set_cons_zero, List.set_cons_succ, i64_w, i32_w]
                    rfl
                  refine take_ (i := 9) (N := some 94) (v := ?_) (a' := ?_) #[true, true, true, true, true, false, false, false, true, true, false, false, false, false, false, false, false, false, false] rfl rfl (take_ofW HT_.out HW_.out (by kernel_rfl)) (fun _ _ _ h => h) (Or.inl ⟨by rfl, ?_⟩) hHeld ?_ ?_
                  rotate_left
                  · rintro w' ⟨s0, s1, s2_, s3, s4⟩
                    go_simp
                    with_reducible rfl
                  rotate_left
                  · simp only [Act.put, List.setIfInBounds_toArray, List.set_cons_zero, List.set_cons_succ, i64_w, i32_w]
                    rfl
                  refine pure_ (i := 10) (N := some 95) (v := ?_) (a' := ?_) #[true, true, true, true, true, false, false, false, true, true, true, false, false, false, false, false, false, false, false] rfl rfl (any_of HT_.out (by kernel_rfl)) (fun _ _ _ h => h) (Or.inl ⟨by rfl, ?_⟩) ?_ ?_
                  rotate_left
                  · intro w'
                    go_simp
                    with_reducible rfl
                  rotate_left
                  · simp only [Act.put, List.setIfInBounds_toArray, List.set_cons_zero, List.set_cons_succ, i64_w, i32_w]
                    rfl
                  refine pure_ (i := 11) (N := some 96) (v := ?_) (a' := ?_) #[true, true, true, true, true, false, false, false, true, true, true, true, false, false, false, false, false, false, false] rfl rfl (any_of HT_.out (by kernel_rfl)) (fun _ _ _ h => h) (Or.inl ⟨by rfl, ?_⟩) ?_ ?_
                  rotate_left
                  · intro w'
                    go_simp
                    with_reducible rfl
                  rotate_left
                  · simp only [Act.put, List.setIfInBounds_toArray, List.set_cons_zero, List.set_cons_succ, i64_w, i32_w]
                    rfl
                  refine pure_ (i := 12) (N := some 97) (v := ?_) (a' := ?_) #[true, true, true, true, true, false, false, false, true, true, true, true, true, false, false, false, false, false, false] rfl rfl (any_of HT_.out (by kernel_rfl)) (fun _ _ _ h => h) (Or.inl ⟨by rfl, ?_⟩) ?_ ?_
                  rotate_left
                  · intro w'
                    go_simp
                    with_reducible rfl
                  rotate_left
                  · simp only [Act.put, List.setIfInBounds_toArray, List.set_cons_zero, List.set_cons_succ, i64_w, i32_w]
                    rfl
                  refine take_ (i := 13) (N := some 98) (v := ?_) (a' := ?_) #[true, true, true, true, true, false, false, false, true, true, true, true, true, true, false, false, false, false, false] rfl rfl (take_ofW HT_.out HW_.out (by kernel_rfl)) (fun _ _ _ h => h) (Or.inl ⟨by rfl, ?_⟩) hHeld ?_ ?_
                  rotate_left
                  · rintro w' ⟨s0, s1, s2_, s3, s4⟩
                    go_simp
                    with_reducible rfl
                  rotate_left
                  · simp only [Act.put, List.setIfInBounds_toArray, List.set_cons_zero, List.set_cons_succ, i64_w, i32_w]
                    rfl
                  refine pure_ (i := 14) (N := some 99) (v := ?_) (a' := ?_) #[true, true, true, true, true, false, false, false, true, true, true, true, true, true, true, false, false, false, false] rfl rfl (any_of HT_.out (by kernel_rfl)) (fun _ _ _ h => h) (Or.inl ⟨by rfl, ?_⟩) ?_ ?_
                  rotate_left
                  · intro w'
                    go_simp
                    with_reducible rfl
                  rotate_left
                  · simp only [Act.put, List.setIfInBounds_toArray, List.set_cons_zero, List.set_cons_succ, i64_w, i32_w]
                    rfl
                  refine pure_ (i := 15) (N := some 100) (v := ?_) (a' := ?_) #[true, true, true, true, true, false, false, false, true, true, true, true, true, true, true, true, false, false, false] rfl rfl (any_of HT_.out (by kernel_rfl)) (fun _ _ _ h => h) (Or.inl ⟨by rfl, ?_⟩) ?_ ?_
                  rotate_left
                  · intro w'
                    go_simp
                    with_reducible rfl
                  rotate_left
                  · simp only [Act.put, List.setIfInBounds_toArray, List.set_cons_zero, List.set_cons_succ, i64_w, i32_w]
                    rfl
                  refine pure_ (i := 16) (N := some 101) (v := ?_) (a' := ?_) #[true, true, true, true, true, false, false, false, true, true, true, true, true, true, true, true, true, false, false] rfl rfl (any_of HT_.out (by kernel_rfl)) (fun _ _ _ h => h) (Or.inl ⟨by rfl, ?_⟩) ?_ ?_
                  rotate_left
                  · intro w'
                    go_simp
                    with_reducible rfl
                  rotate_left
                  · simp only [Act.put, List.setIfInBounds_toArray, List.set_cons_zero, List.set_cons_succ, i64_w, i32_w]
                    rfl
                  refine one_ (i := 5) (N := some 90) #[true, true, true, true, true, true, false, false, true, true, true, true, true, true, true, true, true, false, false] rfl rfl (one_of HT_.out (by kernel_rfl)) (by decide) (fun K hK => ?_)
                  refine goes_ Try.func14 (by kernel_rfl) rfl #[.agg #[.int .i64 c0, .int .i64 c1, .int .i64 c2]] (by rfl) rfl rfl (by (try simp only [List.map_toArray, List.map_cons, List.map_nil]); first | done | rfl | (simp only [List.length_drop, List.length_take]; rfl)) ?_
                  refine (spec_l05Spot.calls c0 c1 c2 qc _ HSC.out).mono ?_
                  rintro e w11 ⟨rfl, hb⟩
                  refine ⟨_, rfl, ?_⟩
                  have HS11 := Aside0.mk (HS10.out.below hb)
                  have HK11 := Aside0.mk (blk_below HK10.out hb)
                  have HP11 := Aside0.mk (blk_below HP10.out hb)
                  have hcl1 := pw_cell_below hb hcl
                  have hxp1 := pw_cell_below hb hxp
                  clear hb hcl hxp hC0 HS10 HK10 HP10
                  refine hK.out _ _ ⟨hcl1, hxp1, (blk_cell HK11.out 0).trans rfl, (blk_cell HK11.out 1).trans rfl, (blk_cell HK11.out 2).trans rfl⟩ (fun hHeld => ?_)
                  clear hK K
                  refine norm_ (a' := ?_) ?_ ?_
                  rotate_left
                  · show Act.put _ (some 90) _ = _
                    simp only [Act.put, List.setIfInBounds_toArray, List.set_cons_zero, List.set_cons_succ, i64_w, i32_w]
                    rfl
                  refine pure_ (i := 6) (N := some 91) (v := ?_) (a' := ?_) #[true, true, true, true, true, true, true, false, true, true, true, true, true, true, true, true, true, false, false] rfl rfl (any_of HT_.out (by kernel_rfl)) (fun _ _ _ h => h) (Or.inl ⟨by rfl, ?_⟩) ?_ ?_
                  rotate_left
                  · intro w'
                    go_simp
                    with_reducible rfl
                  rotate_left
                  · simp only [Act.put, List.setIfInBounds_toArray, List.set_cons_zero, List.set_cons_succ, i64_w, i32_w]
                    rfl
                  refine take_ (i := 7) (N := some 92) (v := ?_) (a' := ?_) #[true, true, true, true, true, true, true, true, true, true, true, true, true, true, true, true, true, false, false] rfl rfl (take_ofW HT_.out HW_.out (by kernel_rfl)) (fun _ _ _ h => h) (Or.inl ⟨by rfl, ?_⟩) hHeld ?_ ?_
                  rotate_left
                  · rintro w' ⟨s0, s1, s2_, s3, s4⟩
                    go_simp
                    with_reducible rfl
                  rotate_left
                  · simp only [Act.put, List.setIfInBounds_toArray, List.set_cons_zero, List.set_cons_succ, i64_w, i32_w]
                    rfl
                  refine pure_ (i := 17) (N := some 102) (v := ?_) (a' := ?_) #[true, true, true, true, true, true, true, true, true, true, true, true, true, true, true, true, true, true, false] rfl rfl (any_of HT_.out (by kernel_rfl)) (fun _ _ _ h => h) (Or.inl ⟨by rfl, ?_⟩) ?_ ?_
                  rotate_left
                  · intro w'
                    go_simp
                    with_reducible rfl
                  rotate_left
                  · simp only [Act.put, List.setIfInBounds_toArray, List.set_cons_zero, List.set_cons_succ, i64_w, i32_w]
                    rfl
                  refine pure_ (i := 18) (N := some 16) (v := ?_) (a' := ?_) #[true, true, true, true, true, true, true, true, true, true, true, true, true, true, true, true, true, true, true] rfl rfl (any_of HT_.out (by kernel_rfl)) (fun _ _ _ h => h) (Or.inl ⟨by rfl, ?_⟩) ?_ ?_
                  rotate_left
                  · intro w'
                    go_simp
                    with_reducible rfl
                  rotate_left
                  · simp only [Act.put, List.setIfInBounds_toArray, List.set_cons_zero, List.set_cons_succ, i64_w, i32_w]
                    rfl
                  refine done_ (done_of HT_.out (by kernel_rfl)) ?_
                  clear hHeld hcl1 hxp1
                  have hpp0 : w11.cell? ⟨wr.heap.size, 0, none⟩ = some (.int .i64 p0) := (blk_cell HP11.out 0).trans rfl
                  have hpp1 : w11.cell? ⟨wr.heap.size, 1, none⟩ = some (.int .i64 p1) := (blk_cell HP11.out 1).trans rfl
                  have hpp2 : w11.cell? ⟨wr.heap.size, 2, none⟩ = some (.int .i64 u) := (blk_cell HP11.out 2).trans rfl
                  obtain ⟨hct, hft⟩ := Kd.R_celln 0 HS11.out.tab q HQ.out.1 (by rw [zlen]; exact HQ.out.2)
                  rw [show rdOf 0 s2.1 q = t from HTT.out.symm] at hct
                  by_cases ht0 : t = 0
                  · have htb : (t == 0) = true := by rw [ht0]; rfl
                    have hst := HST1.out
                    have hsv := HSV1.out
                    rw [if_pos (Or.inl ht0), if_pos ht0] at hst hsv
                    have HST2 := Aside0.mk hst
                    have HSV2 := Aside0.mk hsv
                    clear hst hsv ht0
                    go_wp2_with (first
                      | ((with_reducible refine gate_dst (N := 105) rfl ?_); go_loud (refine goesL_ (some 105) rfl rfl Try.func14 (by kernel_rfl) rfl #[.agg #[.int .i64 p0, .int .i64 p1, .int .i64 u]] rfl (by (try simp only [List.map_toArray, List.map_cons, List.map_nil]); first | done | rfl) ?_; (with_reducible refine (spec_l05Spot.calls p0 p1 u q _ HSP.out).mono ?_); rintro e w12 ⟨rfl, hb⟩; refine ⟨_, rfl, ?_⟩; have HS12 := Aside0.mk (HS11.out.below hb); have HK12 := Aside0.mk (blk_below HK11.out hb); have HP12 := Aside0.mk (blk_below HP11.out hb); clear hb; have hpp12_0 : w12.cell? ⟨wr.heap.size, 0, none⟩ = some (.int .i64 p0) := (blk_cell HP12.out 0).trans rfl; have hpp12_1 : w12.cell? ⟨wr.heap.size, 1, none⟩ = some (.int .i64 p1) := (blk_cell HP12.out 1).trans rfl; have hpp12_2 : w12.cell? ⟨wr.heap.size, 2, none⟩ = some (.int .i64 u) := (blk_cell HP12.out 2).trans rfl; obtain ⟨hct12, hft12⟩ := Kd.R_celln 0 HS12.out.tab q HQ.out.1 (by rw [zlen]; exact HQ.out.2); rw [show rdOf 0 s2.1 q = t from HTT.out.symm] at hct12))
                      | ((with_reducible refine gate_builtin (b := .append) (xs := #[.tmp 109, .tmp 111]) rfl ?_); at_builtin; go_loud (refine Kd.R_append k31 (w0 := w) w.heap.size rfl (.tmp 109) (.tmp 111) 49 31 (.agg #[(.int .i64 0), (.int .i64 0), (.int .i64 0)]) 24 rfl hu49 info31' rfl (by decide) (by omega) (.slice A11 s2.2.length c11) s2.2 (⟨p0, p1, u⟩ : S31) [.int .i64 p0, .int .i64 p1, .int .i64 u] (fun k => B4 ≤ k ∧ k ≠ gc ∧ k ≠ wr.heap.size) (fun _ => False) rfl rfl ?aP (fun _ hk => hk.elim) ?aF ?aO ?aB ?aS ?aL ?_; (case aP => exact k31_mkM _ _ _ (⟨p0, p1, u⟩ : S31)); (case aB => exact HS12.out.co.made); (case aF => exact (fun k hk => ⟨Nat.le_trans HS12.out.co.lim hk, by have := blk_lt HK12.out; omega, by have := blk_lt HP12.out; omega⟩)); (case aO => exact HS12.out.nxt); (case aS => exact HS12.out.size); (case aL => have h1 := HV2.out.2.2; have h2 := HPW2.out; have h3 := HJ.out; have h4 := HU.out; have h5 := HA.out; omega); intro v23 w13 ho hb hg hat; obtain ⟨A23, c23, e23⟩ := Kd.R_slice ho; have e24 : v23 = .slice A23 (s2.2.length + 1) c23 := (by rw [e23, List.length_append]; try rfl); clear e23; subst e24; have HK13 := Aside0.mk (blk_grown HK12.out hg (Kd.R_away HS12.out.nxt (fun _ hk => hk.2.1))); have HP13 := Aside0.mk (blk_grown HP12.out hg (Kd.R_away HS12.out.nxt (fun _ hk => hk.2.2))); have HS13 := Aside0.mk (HS12.out.app (p := ⟨p0, p1, u⟩) hg hb ho); clear ho hb hg hat; have hpp13_0 : w13.cell? ⟨wr.heap.size, 0, none⟩ = some (.int .i64 p0) := (blk_cell HP13.out 0).trans rfl; have hpp13_1 : w13.cell? ⟨wr.heap.size, 1, none⟩ = some (.int .i64 p1) := (blk_cell HP13.out 1).trans rfl; have hpp13_2 : w13.cell? ⟨wr.heap.size, 2, none⟩ = some (.int .i64 u) := (blk_cell HP13.out 2).trans rfl; obtain ⟨hct13, hft13⟩ := Kd.R_celln 0 HS13.out.tab q HQ.out.1 (by rw [zlen]; exact HQ.out.2); rw [show rdOf 0 s2.1 q = t from HTT.out.symm] at hct13))
                      | ((with_reducible refine gate_dst (N := 115) rfl ?_); go_loud (refine goesL_ (some 115) rfl rfl Try.func14 (by kernel_rfl) rfl #[.agg #[.int .i64 p0, .int .i64 p1, .int .i64 u]] rfl (by (try simp only [List.map_toArray, List.map_cons, List.map_nil]); first | done | rfl) ?_; (with_reducible refine (spec_l05Spot.calls p0 p1 u q _ HSP.out).mono ?_); rintro e w14 ⟨rfl, hb⟩; refine ⟨_, rfl, ?_⟩; have HS14 := Aside0.mk (HS13.out.below hb); have HK14 := Aside0.mk (blk_below HK13.out hb); have HP14 := Aside0.mk (blk_below HP13.out hb); clear hb; have hpp14_0 : w14.cell? ⟨wr.heap.size, 0, none⟩ = some (.int .i64 p0) := (blk_cell HP14.out 0).trans rfl; have hpp14_1 : w14.cell? ⟨wr.heap.size, 1, none⟩ = some (.int .i64 p1) := (blk_cell HP14.out 1).trans rfl; have hpp14_2 : w14.cell? ⟨wr.heap.size, 2, none⟩ = some (.int .i64 u) := (blk_cell HP14.out 2).trans rfl; obtain ⟨hct14, hft14⟩ := Kd.R_celln 0 HS14.out.tab q HQ.out.1 (by rw [zlen]; exact HQ.out.2); rw [show rdOf 0 s2.1 q = t from HTT.out.symm] at hct14))
                      | ((with_reducible refine gate_dst (N := 130) rfl ?_); go_loud (refine goesL_ (some 130) rfl rfl Try.func14 (by kernel_rfl) rfl #[.agg #[.int .i64 p0, .int .i64 p1, .int .i64 u]] rfl (by (try simp only [List.map_toArray, List.map_cons, List.map_nil]); first | done | rfl) ?_; (with_reducible refine (spec_l05Spot.calls p0 p1 u q _ HSP.out).mono ?_); rintro e w15 ⟨rfl, hb⟩; refine ⟨_, rfl, ?_⟩; have HS15 := Aside0.mk (HS14.out.below hb); have HK15 := Aside0.mk (blk_below HK14.out hb); have HP15 := Aside0.mk (blk_below HP14.out hb); clear hb; have hpp15_0 : w15.cell? ⟨wr.heap.size, 0, none⟩ = some (.int .i64 p0) := (blk_cell HP15.out 0).trans rfl; have hpp15_1 : w15.cell? ⟨wr.heap.size, 1, none⟩ = some (.int .i64 p1) := (blk_cell HP15.out 1).trans rfl; have hpp15_2 : w15.cell? ⟨wr.heap.size, 2, none⟩ = some (.int .i64 u) := (blk_cell HP15.out 2).trans rfl; obtain ⟨hct15, hft15⟩ := Kd.R_celln 0 HS15.out.tab q HQ.out.1 (by rw [zlen]; exact HQ.out.2); rw [show rdOf 0 s2.1 q = t from HTT.out.symm] at hct15)))
                    have HSX := Aside0.mk (HS15.out.put q cst HGT2.out)
                    have HKX := Aside0.mk (blk_grown HK15.out (Kd.R_putg HS15.out.tab q cst).2 (Kd.R_ne HS15.out.tab HK15.out (by decide)))
                    go_roundg (a - u).toNat
                    case measure => have := HU.out; omega
                    case rel => exact ⟨u + 1, (s2.1.set q.toNat cst, s2.2 ++ [⟨p0, p1, u⟩]), by first | rfl | rw [hwu], ⟨by omega, by omega, by omega⟩, HST2, HSV2, HKX, ⟨HSX.out.mono (fun k hk => hk.1)⟩⟩
                  · have htb : (t == 0) = false := beq_eq_false_iff_ne.2 ht0
                    by_cases hlt : cst < t
                    · have hltb : decide (cst < t) = true := decide_eq_true hlt
                      have hst := HST1.out
                      have hsv := HSV1.out
                      rw [if_pos (Or.inr hlt), if_neg ht0] at hst hsv
                      have HST2 := Aside0.mk hst
                      have HSV2 := Aside0.mk hsv
                      clear hst hsv ht0
                      go_wp2_with (first
                        | ((with_reducible refine gate_dst (N := 105) rfl ?_); go_loud (refine goesL_ (some 105) rfl rfl Try.func14 (by kernel_rfl) rfl #[.agg #[.int .i64 p0, .int .i64 p1, .int .i64 u]] rfl (by (try simp only [List.map_toArray, List.map_cons, List.map_nil]); first | done | rfl) ?_; (with_reducible refine (spec_l05Spot.calls p0 p1 u q _ HSP.out).mono ?_); rintro e w12 ⟨rfl, hb⟩; refine ⟨_, rfl, ?_⟩; have HS12 := Aside0.mk (HS11.out.below hb); have HK12 := Aside0.mk (blk_below HK11.out hb); have HP12 := Aside0.mk (blk_below HP11.out hb); clear hb; have hpp12_0 : w12.cell? ⟨wr.heap.size, 0, none⟩ = some (.int .i64 p0) := (blk_cell HP12.out 0).trans rfl; have hpp12_1 : w12.cell? ⟨wr.heap.size, 1, none⟩ = some (.int .i64 p1) := (blk_cell HP12.out 1).trans rfl; have hpp12_2 : w12.cell? ⟨wr.heap.size, 2, none⟩ = some (.int .i64 u) := (blk_cell HP12.out 2).trans rfl; obtain ⟨hct12, hft12⟩ := Kd.R_celln 0 HS12.out.tab q HQ.out.1 (by rw [zlen]; exact HQ.out.2); rw [show rdOf 0 s2.1 q = t from HTT.out.symm] at hct12))
                        | ((with_reducible refine gate_dst (N := 115) rfl ?_); go_loud (refine goesL_ (some 115) rfl rfl Try.func14 (by kernel_rfl) rfl #[.agg #[.int .i64 p0, .int .i64 p1, .int .i64 u]] rfl (by (try simp only [List.map_toArray, List.map_cons, List.map_nil]); first | done | rfl) ?_; (with_reducible refine (spec_l05Spot.calls p0 p1 u q _ HSP.out).mono ?_); rintro e w13 ⟨rfl, hb⟩; refine ⟨_, rfl, ?_⟩; have HS13 := Aside0.mk (HS12.out.below hb); have HK13 := Aside0.mk (blk_below HK12.out hb); have HP13 := Aside0.mk (blk_below HP12.out hb); clear hb; have hpp13_0 : w13.cell? ⟨wr.heap.size, 0, none⟩ = some (.int .i64 p0) := (blk_cell HP13.out 0).trans rfl; have hpp13_1 : w13.cell? ⟨wr.heap.size, 1, none⟩ = some (.int .i64 p1) := (blk_cell HP13.out 1).trans rfl; have hpp13_2 : w13.cell? ⟨wr.heap.size, 2, none⟩ = some (.int .i64 u) := (blk_cell HP13.out 2).trans rfl; obtain ⟨hct13, hft13⟩ := Kd.R_celln 0 HS13.out.tab q HQ.out.1 (by rw [zlen]; exact HQ.out.2); rw [show rdOf 0 s2.1 q = t from HTT.out.symm] at hct13))
                        | (go_at_call 14; go_loud ((with_reducible refine (spec_l05Spot.calls p0 p1 u q _ HSP.out).mono ?_); rintro e w14 ⟨rfl, hb⟩; have HS14 := Aside0.mk (HS13.out.below hb); have HK14 := Aside0.mk (blk_below HK13.out hb); have HP14 := Aside0.mk (blk_below HP13.out hb); clear hb; have hpp14_0 : w14.cell? ⟨wr.heap.size, 0, none⟩ = some (.int .i64 p0) := (blk_cell HP14.out 0).trans rfl; have hpp14_1 : w14.cell? ⟨wr.heap.size, 1, none⟩ = some (.int .i64 p1) := (blk_cell HP14.out 1).trans rfl; have hpp14_2 : w14.cell? ⟨wr.heap.size, 2, none⟩ = some (.int .i64 u) := (blk_cell HP14.out 2).trans rfl; obtain ⟨hct14, hft14⟩ := Kd.R_celln 0 HS14.out.tab q HQ.out.1 (by rw [zlen]; exact HQ.out.2); rw [show rdOf 0 s2.1 q = t from HTT.out.symm] at hct14))
                        | ((with_reducible refine gate_dst (N := 130) rfl ?_); go_loud (refine goesL_ (some 130) rfl rfl Try.func14 (by kernel_rfl) rfl #[.agg #[.int .i64 p0, .int .i64 p1, .int .i64 u]] rfl (by (try simp only [List.map_toArray, List.map_cons, List.map_nil]); first | done | rfl) ?_; (with_reducible refine (spec_l05Spot.calls p0 p1 u q _ HSP.out).mono ?_); rintro e w15 ⟨rfl, hb⟩; refine ⟨_, rfl, ?_⟩; have HS15 := Aside0.mk (HS14.out.below hb); have HK15 := Aside0.mk (blk_below HK14.out hb); have HP15 := Aside0.mk (blk_below HP14.out hb); clear hb; have hpp15_0 : w15.cell? ⟨wr.heap.size, 0, none⟩ = some (.int .i64 p0) := (blk_cell HP15.out 0).trans rfl; have hpp15_1 : w15.cell? ⟨wr.heap.size, 1, none⟩ = some (.int .i64 p1) := (blk_cell HP15.out 1).trans rfl; have hpp15_2 : w15.cell? ⟨wr.heap.size, 2, none⟩ = some (.int .i64 u) := (blk_cell HP15.out 2).trans rfl; obtain ⟨hct15, hft15⟩ := Kd.R_celln 0 HS15.out.tab q HQ.out.1 (by rw [zlen]; exact HQ.out.2); rw [show rdOf 0 s2.1 q = t from HTT.out.symm] at hct15)))
                      have HSX := Aside0.mk (HS15.out.put q cst HGT2.out)
                      have HKX := Aside0.mk (blk_grown HK15.out (Kd.R_putg HS15.out.tab q cst).2 (Kd.R_ne HS15.out.tab HK15.out (by decide)))
                      go_roundg (a - u).toNat
                      case measure => have := HU.out; omega
                      case rel => exact ⟨u + 1, (s2.1.set q.toNat cst, s2.2), by first | rfl | rw [hwu], ⟨by omega, by omega, by omega⟩, HST2, HSV2, HKX, ⟨HSX.out.mono (fun k hk => hk.1)⟩⟩
                    · have hltb : decide (cst < t) = false := decide_eq_false hlt
                      have hst := HST1.out
                      have hsv := HSV1.out
                      rw [if_neg (fun h => h.elim ht0 hlt), if_neg ht0] at hst hsv
                      have HST2 := Aside0.mk hst
                      have HSV2 := Aside0.mk hsv
                      clear hst hsv ht0 hlt
                      go_wp2_with (first
                        | ((with_reducible refine gate_dst (N := 105) rfl ?_); go_loud (refine goesL_ (some 105) rfl rfl Try.func14 (by kernel_rfl) rfl #[.agg #[.int .i64 p0, .int .i64 p1, .int .i64 u]] rfl (by (try simp only [List.map_toArray, List.map_cons, List.map_nil]); first | done | rfl) ?_; (with_reducible refine (spec_l05Spot.calls p0 p1 u q _ HSP.out).mono ?_); rintro e w12 ⟨rfl, hb⟩; refine ⟨_, rfl, ?_⟩; have HS12 := Aside0.mk (HS11.out.below hb); have HK12 := Aside0.mk (blk_below HK11.out hb); have HP12 := Aside0.mk (blk_below HP11.out hb); clear hb; have hpp12_0 : w12.cell? ⟨wr.heap.size, 0, none⟩ = some (.int .i64 p0) := (blk_cell HP12.out 0).trans rfl; have hpp12_1 : w12.cell? ⟨wr.heap.size, 1, none⟩ = some (.int .i64 p1) := (blk_cell HP12.out 1).trans rfl; have hpp12_2 : w12.cell? ⟨wr.heap.size, 2, none⟩ = some (.int .i64 u) := (blk_cell HP12.out 2).trans rfl; obtain ⟨hct12, hft12⟩ := Kd.R_celln 0 HS12.out.tab q HQ.out.1 (by rw [zlen]; exact HQ.out.2); rw [show rdOf 0 s2.1 q = t from HTT.out.symm] at hct12))
                        | ((with_reducible refine gate_dst (N := 115) rfl ?_); go_loud (refine goesL_ (some 115) rfl rfl Try.func14 (by kernel_rfl) rfl #[.agg #[.int .i64 p0, .int .i64 p1, .int .i64 u]] rfl (by (try simp only [List.map_toArray, List.map_cons, List.map_nil]); first | done | rfl) ?_; (with_reducible refine (spec_l05Spot.calls p0 p1 u q _ HSP.out).mono ?_); rintro e w13 ⟨rfl, hb⟩; refine ⟨_, rfl, ?_⟩; have HS13 := Aside0.mk (HS12.out.below hb); have HK13 := Aside0.mk (blk_below HK12.out hb); have HP13 := Aside0.mk (blk_below HP12.out hb); clear hb; have hpp13_0 : w13.cell? ⟨wr.heap.size, 0, none⟩ = some (.int .i64 p0) := (blk_cell HP13.out 0).trans rfl; have hpp13_1 : w13.cell? ⟨wr.heap.size, 1, none⟩ = some (.int .i64 p1) := (blk_cell HP13.out 1).trans rfl; have hpp13_2 : w13.cell? ⟨wr.heap.size, 2, none⟩ = some (.int .i64 u) := (blk_cell HP13.out 2).trans rfl; obtain ⟨hct13, hft13⟩ := Kd.R_celln 0 HS13.out.tab q HQ.out.1 (by rw [zlen]; exact HQ.out.2); rw [show rdOf 0 s2.1 q = t from HTT.out.symm] at hct13))
                        | (go_at_call 14; go_loud ((with_reducible refine (spec_l05Spot.calls p0 p1 u q _ HSP.out).mono ?_); rintro e w14 ⟨rfl, hb⟩; have HS14 := Aside0.mk (HS13.out.below hb); have HK14 := Aside0.mk (blk_below HK13.out hb); have HP14 := Aside0.mk (blk_below HP13.out hb); clear hb; have hpp14_0 : w14.cell? ⟨wr.heap.size, 0, none⟩ = some (.int .i64 p0) := (blk_cell HP14.out 0).trans rfl; have hpp14_1 : w14.cell? ⟨wr.heap.size, 1, none⟩ = some (.int .i64 p1) := (blk_cell HP14.out 1).trans rfl; have hpp14_2 : w14.cell? ⟨wr.heap.size, 2, none⟩ = some (.int .i64 u) := (blk_cell HP14.out 2).trans rfl; obtain ⟨hct14, hft14⟩ := Kd.R_celln 0 HS14.out.tab q HQ.out.1 (by rw [zlen]; exact HQ.out.2); rw [show rdOf 0 s2.1 q = t from HTT.out.symm] at hct14)))
                      go_roundg (a - u).toNat
                      case measure => have := HU.out; omega
                      case rel => exact ⟨u + 1, (s2.1, s2.2), by first | rfl | rw [hwu], ⟨by omega, by omega, by omega⟩, HST2, HSV2, HK14, ⟨HS14.out.mono (fun k hk => hk.1)⟩⟩
            · have eu : u = a + 1 := by have := HU.out; omega
              subst eu
              have hst := HIR.out
              rw [show (a + 1 - (a + 1)).toNat = 0 from by omega] at hst
              have hst : s2 = S3 := hst
              have HST := Aside0.mk hst
              have HV3 : Aside0 (InvC a (1 + 36 * i + 36) (7 * (j + 1).toNat) s2) := ⟨⟨HV2.out.1, HV2.out.2.1, by have h1 := HV2.out.2.2; have h2 := HA.out; have h3 := HJ.out; omega⟩⟩
              clear hst
              have hwj : wrap64 (j + 1) = j + 1 := cw64 (by have := HPW2.out; omega)
              go_wp2
              go_roundg (nows.length - (j + 1).toNat)
              case measure => have := HJ.out; omega
              case rel => exact ⟨j + 1, s2, by first | rfl | rw [hwj], ⟨by omega, by omega, by omega⟩, ⟨by rw [HST.out]; exact HSTEP.out.symm⟩, HV3, ⟨HS.out.mono (fun _ _ => trivial)⟩⟩
        · have ej : nows.drop j.toNat = [] := List.drop_eq_nil_of_le (by have := HJ.out; omega)
          have hst := HRG.out
          rw [ej] at hst
          have hst : s = S := hst
          subst hst
          clear ej
          obtain ⟨A11, c11, e11⟩ := Kd.R_slice HS.out.nxt
          subst e11
          have hwi : wrap64 (i + 1) = i + 1 := cw64 (by have := HI2.out; omega)
          go_wp2_with (first
            | ((with_reducible refine gate_builtin (b := .append) (xs := #[.tmp 133, .tmp 135]) rfl ?_); at_builtin; go_loud (refine Kd.N_append (Kd.slice 2 (Kd.int .i64)) (w0 := w) w.heap.size rfl (.tmp 133) (.tmp 135) 38 26 (.slice none 0 0) 24 rfl hu38 info26 rfl (by decide) (by omega) (.slice (some adL) outs.length c7) outs s.1 [.slice (some ⟨gT, 0, none⟩) zerosC.length cT] (fun k => w.heap.size ≤ k) (fun k => B4 ≤ k) rfl rfl ?aP ?aK ?aF ?aO ?aB ?aS ?aL ?_; (case aP => exact FK_tab HS.out.tab); (case aK => exact (fun k hk => ⟨Nat.le_trans HWB.out hk, fun he => by have := (HS.out.co.out.1 k he.symm).2; omega⟩)); (case aF => exact (fun k hk => Nat.le_trans HS.out.size hk)); (case aO => exact Kd.N_mono HS.out.co.out (fun _ hk => hk.1)); (case aB => exact HS.out.co.made); (case aS => exact HS.out.size); (case aL => have h1 := HOL.out.1; have h2 := HI2.out; omega); intro v36 w20 ho hb hg hat; have HSN := Aside0.mk (HS.out.next hg hb ho); clear ho hb hg hat)))
          go_roundg (k - (i + 1)).toNat
          case measure => have := HI.out; omega
          case rel => exact ⟨i + 1, outs ++ [s.1], s.2, by first | rfl | rw [hwi], ⟨by have := HI2.out; omega, by omega, by omega⟩, HLV2, ⟨by have := HOL.out.1; simp only [List.length_append, List.length_cons, List.length_nil]; omega, by
            rw [rdL_last outs s.1 (i + 1) (by have := HOL.out.1; have := HI2.out; omega), show 1 + 36 * (i + 1) = 1 + 36 * i + 36 from by omega]
            exact HV.out.1⟩, ⟨HV.out.2.1⟩, ⟨by
            have h1 := HV.out.2.2
            have h2 := HPW.out
            have h3 := HJ.out
            rw [show (i + 1).toNat = i.toNat + 1 from by have := HI2.out; omega]
            show s.2.length ≤ 7 * pow7 i.toNat
            omega⟩, HSN⟩
    · have ei : i = k := by have := HI.out; omega
      subst ei
      have hlv := HLV.out
      rw [show (i - i).toNat = 0 from by omega] at hlv
      have hlv : outs = D := hlv
      subst hlv
      go_wp2
      rw [HF.out]
      exact ⟨_, rfl, Kd.N_mono HS.out.out (fun _ hk => hk.1), HS.out.made⟩

end Go.Proofs.Ytpccannjeppmbaa.Q
