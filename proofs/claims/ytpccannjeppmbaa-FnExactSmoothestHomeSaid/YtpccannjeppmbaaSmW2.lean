/- impl.smooth where the table does not know the plan: all turns are tried, and the best plan is put into the table. -/
import Derived.Test.YtpccannjeppmbaaQ0
import Derived.Test.YtpccannjeppmbaaQ5
import Derived.Test.YtpccannjeppmbaaQ7
import Derived.Test.YtpccannjeppmbaaSmR
namespace Go.Proofs.Ytpccannjeppmbaa.Q
open Go.RowKit Go.Maps Go.Proofs.YtpccannjeppmbaaW.PrintWords Go.Proofs.YtpccannjeppmbaaW.PrintLast Go.Proofs.YtpccannjeppmbaaW.PrintMore
set_option linter.unusedVariables false
set_option linter.unusedSimpArgs false

def smooth_T : Bool × List (List Nat × List Nat) := (true, [([], []), ([], []), ([0, 1], [0, 1]), ([], []), ([], []), ([2, 3, 4, 0, 1, 2, 3, 4], [2, 3, 4])])
def smooth_B : List Nat := [0, 0, 3, 0, 0, 31]
theorem smooth_tab : rtab .any (opsOf Try.f18 18) = smooth_T := by kernel_rfl
theorem smooth_bits : waitsOk smooth_T.2 smooth_B = true := by kernel_rfl

set_option maxHeartbeats 16000000 in
set_option maxRecDepth 100000 in
theorem smooth_miss (a b : Int) (ha : 1 ≤ a ∧ a ≤ 3) (hb : 1 ≤ b ∧ b ≤ 6) (w0 : World) (gm K : Nat) (kk kp : Int) (hkk : kk = kp + 1) (hkp : 0 ≤ kp ∧ kp ≤ 7) (f : S31 → Pl) (hf : ∀ d, insS a d = true → Fair kp.toNat (f d))
    (hih : ∀ d, insS a d = true → ∀ n W, n + K ≤ 4000000 → MemoE a b w0.heap.size gm n W → Below w0.heap.size w0 W → Calls Try.prog 18 #[.agg #[.int .i64 a, .int .i64 b], .agg #[.int .i64 d.f0, .int .i64 d.f1, .int .i64 d.f2], .int .i64 kp, .map (some gm)] W (SmPost w0 a b gm (n + K) (f d) W))
    (c : S31) (hc : insS a c = true) (hfold : smP a b kk.toNat c = foldS f c (turnsP a b c) (0, [], false)) (n : Nat) (hn : n + (7 * K + 2) ≤ 4000000) (w : World) (hw : Below w0.heap.size w0 w) (G : S31 → Option Nat) (HH : S31 → Int → Option Value) (hm : Memo a b w0.heap.size gm n G HH w) (hmiss : ∀ g, G c = some g → HH c kk = none) :
    Calls Try.prog 18 #[.agg #[.int .i64 a, .int .i64 b], .agg #[.int .i64 c.f0, .int .i64 c.f1, .int .i64 c.f2], .int .i64 kk, .map (some gm)] w (SmPost w0 a b gm (n + (7 * K + 2)) (foldS f c (turnsP a b c) (0, [], false)) w) := by
  have hu29 := Try.underlying29
  have hu31 := Try.underlying31
  have hu44 := Try.underlying44
  have hu26 := Try.underlying26
  have hu46 := Try.underlying46
  have hu52 := Try.underlying52
  have hqm : ∀ (W : World) (r : Option Nat), (binOp .eql 52 (.map r) (.map none)).run Try.prog W = .ok (.bool r.isNone) W := fun W r => run_eql_map_nil W _ _ _ r Try.underlying52
  obtain ⟨kc, hkc⟩ := keyC c (wf64 (by have := insS_iff.1 hc; omega)) (wf64 (by have := insS_iff.1 hc; omega)) (wf64 (by have := insS_iff.1 hc; omega))
  obtain ⟨kl, hkl⟩ := keyI kk (wf64 (by omega))
  have HKC := Aside0.mk hkc
  have HKL := Aside0.mk hkl
  obtain ⟨L, hL⟩ : ∃ L, L = turnsP a b c := ⟨_, rfl⟩
  have hlen : L.length ≤ 7 := by rw [hL]; exact turnsP_len ha
  have HLEN := Aside0.mk hlen
  have htu := dturns ha hb hc 20 (Nat.le_refl _)
  rw [← hL] at htu
  have HTU := Aside0.mk htu
  have HLL := Aside0.mk hL
  rw [← hL]
  rw [← hL] at hfold
  obtain ⟨FF, hFF⟩ : ∃ FF, FF = foldS f c L (0, [], false) := ⟨_, rfl⟩
  rw [← hFF]
  rw [← hFF] at hfold
  have HFF := Aside0.mk hFF
  have HFOLD := Aside0.mk hfold
  have hw2 : w0.heap.size ≤ w.heap.size := hw.size
  have HWS := Aside0.mk hw2
  have HFA : Aside0 (Fair (kp.toNat + 1) ((0, [], false) : Pl)) := ⟨⟨Int.le_refl 0, by show (0 : Int) ≤ 36 * ((kp.toNat + 1 : Nat) : Int); omega, Nat.zero_le _⟩⟩
  have HF := Aside0.mk hf
  have HIH := Aside0.mk hih
  have HA := Aside0.mk ha
  have HB0 := Aside0.mk hb
  have HC := Aside0.mk hc
  have HN := Aside0.mk hn
  have HW := Aside0.mk hw
  have HM := Aside0.mk hm
  have HMISS := Aside0.mk hmiss
  have HKP := Aside0.mk hkp
  have HKE := Aside0.mk hkk
  have hk0 : (kk == 0) = false := beq_eq_false_iff_ne.2 (by omega)
  have hwk : wrap64 (kk - 1) = kp := by rw [hkk, show kp + 1 - 1 = kp from by omega]; exact dw64 (by omega)
  obtain ⟨R0, hR0⟩ : ∃ R0 : Ending → World → Prop, R0 = SmPost w0 a b gm (n + (7 * K + 2)) FF w := ⟨_, rfl⟩
  have HR0 := Aside0.mk hR0
  rw [← hR0]
  obtain ⟨c0, c1, c2⟩ := c
  have hc2b := (insS_iff.1 hc).2.2
  have HC2 : Aside0 (-a ≤ c2 ∧ c2 ≤ a) := ⟨hc2b⟩
  clear hkc hkl hL hlen htu hFF hfold hw2 hf hih ha hb hc hn hw hm hmiss hkp hkk hR0 hc2b
  go_enter Try.func18, Try.ntmps18
  go_wp2_with (first
    | ((with_reducible refine gate_dst (N := 4) rfl ?_); go_loud (refine box_event ?hg (N := 4) ?hd (cs := #[.int .i64 a, .int .i64 b]) (t := 29) ?hr ?_; (case hd => rfl); (case hg => rfl); (case hr => first | (go_simp; done) | (go_simp; rfl)); intro gl hgl w1 hbox hbw; have HL1 := Aside0.mk hbox; have HB1 := Aside0.mk hbw; clear hgl hbox hbw))
    | ((with_reducible refine gate_dst (N := 5) rfl ?_); go_loud (refine box_event ?hg (N := 5) ?hd (cs := #[.int .i64 c0, .int .i64 c1, .int .i64 c2]) (t := 31) ?hr ?_; (case hd => rfl); (case hg => rfl); (case hr => first | (go_simp; done) | (go_simp; rfl)); intro gc hgc w2 hbox hbw; have HC2x := Aside0.mk hbox; have HL2 := Aside0.mk (blk_below HL1.out hbw); have HB2 := Aside0.mk (below_step HB1.out hbw); clear hgc hbox hbw))
    | ((with_reducible refine gate_dst (N := 8) rfl ?_); go_loud (refine box_event ?hg (N := 8) ?hd (cs := #[.int .i64 0, .slice none 0 0, .bool false]) (t := 44) ?hr ?_; (case hd => rfl); (case hg => rfl); (case hr => first | (go_simp; done) | (go_simp; rfl)); intro g8 hg8 w3 hbox hbw; have HS3 : Aside0 (SF w0 w a b ⟨c0, c1, c2⟩ gl gc g8 w3) := ⟨⟨blk_below HL2.out hbw, blk_below HC2x.out hbw, hbox, Kept.of_below (below_step HB2.out hbw) _, below_then HW.out HWS.out (below_step HB2.out hbw), HWS.out, by rw [hg8]; exact HB2.out.size⟩⟩; have HM3 := Aside0.mk (HM.out.below (below_step HB2.out hbw)); clear hg8 hbox hbw HL1 HB1 HC2x HL2 HB2; have hl0 : w3.cell? ⟨gl, 0, none⟩ = some (.int .i64 a) := (blk_cell HS3.out.bl 0).trans rfl; have hl1 : w3.cell? ⟨gl, 1, none⟩ = some (.int .i64 b) := (blk_cell HS3.out.bl 1).trans rfl; have hc0 : w3.cell? ⟨gc, 0, none⟩ = some (.int .i64 c0) := (blk_cell HS3.out.bc 0).trans rfl; have hc1 : w3.cell? ⟨gc, 1, none⟩ = some (.int .i64 c1) := (blk_cell HS3.out.bc 1).trans rfl; have hc2 : w3.cell? ⟨gc, 2, none⟩ = some (.int .i64 c2) := (blk_cell HS3.out.bc 2).trans rfl))
    | ((with_reducible refine gate_dst (N := 27) rfl ?_); go_loud (refine wpList_look (x := (⟨c0, c1, c2⟩ : S31)) false rfl _ _ rfl keyedC hu46 (by rfl) rfl HM3.out.map rfl HKC.out ?_; rw [mapv]; simp only [Bool.false_eq_true, if_false]; have hrun := HM3.out.miss (by have := HKE.out; have := HKP.out; omega) HMISS.out; unfold valI zero44 at hrun))
    | ((with_reducible refine gate_dst (N := 35) rfl ?_); (with_reducible refine gen_alloc2 ?_); go_loud (clear hrun; intro w5 hbox hbw; have HS5 : Aside0 (SS w0 w a b ⟨c0, c1, c2⟩ gl gc g8 (w3.heap.size + 1) gm n (0, [], false) (.slice none 0 0) w5) := ⟨⟨HS3.out.below hbw, ⟨G, HH, HM3.out.below hbw⟩, hbox, Kd.R_nil _ _ _ _ _, by have := blk_lt HS3.out.b8; omega⟩⟩; clear hbox hbw; have hl50 : w5.cell? ⟨gl, 0, none⟩ = some (.int .i64 a) := (blk_cell HS5.out.fr.bl 0).trans rfl; have hl51 : w5.cell? ⟨gl, 1, none⟩ = some (.int .i64 b) := (blk_cell HS5.out.fr.bl 1).trans rfl; have hc50 : w5.cell? ⟨gc, 0, none⟩ = some (.int .i64 c0) := (blk_cell HS5.out.fr.bc 0).trans rfl; have hc51 : w5.cell? ⟨gc, 1, none⟩ = some (.int .i64 c1) := (blk_cell HS5.out.fr.bc 1).trans rfl; have hc52 : w5.cell? ⟨gc, 2, none⟩ = some (.int .i64 c2) := (blk_cell HS5.out.fr.bc 2).trans rfl))
    | (go_at_call 23; go_loud ((with_reducible refine (impl_Limits_turns.calls 20 a b c0 c1 c2 L _ HTU.out).mono ?_); rintro e w6 ⟨v37, rfl, ho, hb6⟩; obtain ⟨At, ct, et⟩ := Kd.R_slice ho; subst et; have HT6 := Aside0.mk (Kd.R_lower ho HS5.out.fr.big); have HS6 := Aside0.mk (HS5.out.below hb6); clear ho hb6)))
  generalize w3.heap.size + 1 = g11 at HS6 ⊢
  clear HS3 HS5 HM3 hl0 hl1 hc0 hc1 hc2 hl50 hl51 hc50 hc51 hc52
  go_loopg [39] L.length (fun gg v39 w' => ∃ (i : Int) (s : Pl) (v11 : Value) (m : Nat), v39 = .int .i64 i ∧ Aside0 (0 ≤ i ∧ i ≤ L.length ∧ L.length - i.toNat ≤ gg) ∧ Aside0 (m ≤ n + i.toNat * K) ∧ Aside0 (Fair (kp.toNat + 1) s) ∧ Aside0 (foldS f ⟨c0, c1, c2⟩ (L.drop i.toNat) s = FF) ∧ Aside0 (Kd.R (Kd.int .i64) 2 w' w0.heap.size (fun _ => True) (.slice At L.length ct) L) ∧ Aside0 (SS w0 w a b ⟨c0, c1, c2⟩ gl gc g8 g11 gm m s v11 w'))
  case atStart => exact ⟨0, (0, [], false), .slice none 0 0, n, rfl, ⟨by omega, by omega, by simp⟩, ⟨by simp⟩, HFA, ⟨HFF.out.symm⟩, HT6, HS6⟩
  case round =>
    clear HS6 HT6
    obtain ⟨i, s, v11, m, rfl, HI, HMN, HFAIR, HFD, HT, HS⟩ := hrel
    obtain ⟨A11, c11, e11⟩ := Kd.R_slice HS.out.out
    subst e11
    by_cases hi : i < (L.length : Int)
    · have hi0 : 0 ≤ i := HI.out.1
      obtain ⟨ad, e4, hx⟩ := Kd.at_int (Kd.R_reads' HT.out).2.2 i hi0 hi
      cases e4
      have hst := foldS_at f ⟨c0, c1, c2⟩ L s i hi0 hi
      have hmem : rd L i ∈ turnsP a b ⟨c0, c1, c2⟩ := by
        rw [← HLL.out]
        have hl : i.toNat < L.length := by omega
        have e2 : rd L i = L[i.toNat] := by simp [rd, hl]
        rw [e2]
        exact List.getElem_mem _
      obtain ⟨g0, g1⟩ := turnsP_mem HA.out hmem
      generalize rd L i = u at hx hst g0 g1
      obtain ⟨x, hxx⟩ : ∃ x, x = (stepTo ⟨c0, c1, c2⟩ u).f0 := ⟨_, rfl⟩
      obtain ⟨y, hyy⟩ : ∃ y, y = (stepTo ⟨c0, c1, c2⟩ u).f1 := ⟨_, rfl⟩
      have hstp : stepTo ⟨c0, c1, c2⟩ u = ⟨x, y, u⟩ := by rw [hxx, hyy]; rfl
      have hnx := dnextTo HA.out HB0.out HC.out g1 0
      rw [if_pos g0, hstp] at hnx
      have HNX := Aside0.mk hnx
      have hin : insS a ⟨x, y, u⟩ = true := by rw [← hstp]; exact okTo_ins g0
      have HIN := Aside0.mk hin
      rw [HFD.out, hstp] at hst
      have hfr := HF.out _ hin
      have hcall := HIH.out _ hin
      obtain ⟨p, hp⟩ : ∃ p, p = f ⟨x, y, u⟩ := ⟨_, rfl⟩
      rw [← hp] at hst hfr hcall
      have hpf := pickS_fair (c := ⟨c0, c1, c2⟩) (u := u) hfr (by have h1 := HC2.out; have h2 := HA.out; show -6 ≤ u - c2 ∧ u - c2 ≤ 6; omega) HFAIR.out
      have HPF := Aside0.mk hpf
      have HCALL := Aside0.mk hcall
      obtain ⟨dd, hdd⟩ : ∃ dd, dd = u - c2 := ⟨_, rfl⟩
      obtain ⟨qq, hqq⟩ : ∃ qq, qq = dd * dd := ⟨_, rfl⟩
      have hd6 : -6 ≤ dd ∧ dd ≤ 6 := by have h1 := HC2.out; have h2 := HA.out; omega
      have hq36 := square_le hd6
      rw [← hqq] at hq36
      obtain ⟨ss, hss⟩ : ∃ ss, ss = p.1 + qq := ⟨_, rfl⟩
      have hw1 : wrap64 (u - c2) = dd := by rw [hdd]; exact dw64 (by omega)
      have hw2 : wrap64 (dd * dd) = qq := by rw [← hqq]; exact dw64 (by omega)
      have hw3 : wrap64 (p.1 + qq) = ss := by rw [← hss]; exact dw64 (by have := hfr.1; have := hfr.2.1; have := HKP.out; omega)
      have hpk : pickS p ⟨c0, c1, c2⟩ u s = if p.2.2 = true ∧ (s.2.2 = false ∨ ss < s.1) then (ss, u :: p.2.1, true) else s := by
        unfold pickS
        show (if p.2.2 = true ∧ (s.2.2 = false ∨ p.1 + (u - c2) * (u - c2) < s.1) then (p.1 + (u - c2) * (u - c2), u :: p.2.1, true) else s) = _
        rw [← hdd, ← hqq, ← hss]
      rw [hpk] at hst
      rw [hpk] at HPF
      have HST := Aside0.mk hst
      have HPL : Aside0 (p.2.1.length ≤ 8) := ⟨by have := hfr.2.2; have := HKP.out; omega⟩
      have HWI : wrap64 (i + 1) = i + 1 := dw64 (by have := HLEN.out; omega)
      have HMK : Aside0 (m + K ≤ 4000000 ∧ (i + 1).toNat * K = i.toNat * K + K) := ⟨by
        have h1 : (i + 1).toNat = i.toNat + 1 := by omega
        have h2 : i.toNat ≤ 6 := by have := HLEN.out; omega
        have h3 : i.toNat * K ≤ 6 * K := Nat.mul_le_mul_right K h2
        have h4 := HMN.out
        have h5 := HN.out
        rw [h1, Nat.succ_mul]
        exact ⟨by omega, rfl⟩⟩
      clear hst hmem g0 g1 hxx hyy hnx hin hstp hfr hcall hp hpf hd6 hq36 hdd hqq hss hpk
      obtain ⟨p1, pt, pk⟩ := p
      obtain ⟨s1, st, sk⟩ := s
      have hl0 : wr.cell? ⟨gl, 0, none⟩ = some (.int .i64 a) := (blk_cell HS.out.fr.bl 0).trans rfl
      have hl1 : wr.cell? ⟨gl, 1, none⟩ = some (.int .i64 b) := (blk_cell HS.out.fr.bl 1).trans rfl
      have hc0 : wr.cell? ⟨gc, 0, none⟩ = some (.int .i64 c0) := (blk_cell HS.out.fr.bc 0).trans rfl
      have hc1 : wr.cell? ⟨gc, 1, none⟩ = some (.int .i64 c1) := (blk_cell HS.out.fr.bc 1).trans rfl
      have hc2 : wr.cell? ⟨gc, 2, none⟩ = some (.int .i64 c2) := (blk_cell HS.out.fr.bc 2).trans rfl
      cases pk with
      | false =>
        have hst := HST.out
        have hpf := HPF.out
        rw [if_neg (by simp)] at hst hpf
        have HST2 := Aside0.mk hst.symm
        have HPF2 := Aside0.mk hpf
        clear hst hpf
        cases sk with
        | false =>
          go_wp2_with (first
            | (go_at_call 24; go_loud ((with_reducible refine (impl_Limits_next.calls 1 a b c0 c1 c2 u x y u true _ HNX.out).mono ?_); rintro e w6 ⟨rfl, hb6⟩; have HS6 := Aside0.mk (HS.out.below hb6); have HT6 := Aside0.mk (Kd.R_below HT.out hb6); clear hb6))
            | ((with_reducible refine gate_dst (N := 50) rfl ?_); (with_reducible refine gen_alloc ?_); go_loud (intro w7 hbox hbw; have HX7 := Aside0.mk hbox; have HS7 := Aside0.mk (HS6.out.below hbw); have HT7 := Aside0.mk (Kd.R_below HT6.out hbw); clear hbox hbw; have hl70 : w7.cell? ⟨gl, 0, none⟩ = some (.int .i64 a) := (blk_cell HS7.out.fr.bl 0).trans rfl; have hl71 : w7.cell? ⟨gl, 1, none⟩ = some (.int .i64 b) := (blk_cell HS7.out.fr.bl 1).trans rfl; have hx0 : w7.cell? ⟨w6.heap.size, 0, none⟩ = some (.int .i64 x) := (blk_cell HX7.out 0).trans rfl; have hx1 : w7.cell? ⟨w6.heap.size, 1, none⟩ = some (.int .i64 y) := (blk_cell HX7.out 1).trans rfl; have hx2 : w7.cell? ⟨w6.heap.size, 2, none⟩ = some (.int .i64 u) := (blk_cell HX7.out 2).trans rfl))
            | (go_at_call 18; go_loud ((with_reducible refine (HCALL.out m w7 HMK.out.1 HS7.out.memo HS7.out.fr.made).mono ?_); rintro e w8 ⟨Ap, cp, rfl, hro, ⟨m2, hm2, hme⟩, hkp, hbp⟩; have HS8 := Aside0.mk (HS7.out.call hkp hbp hme); have HT8 := Aside0.mk (R_keptM HT7.out hkp); have HR8 := Aside0.mk hro; have HM2 := Aside0.mk hm2; clear hro hm2 hme hkp hbp))
            | ((with_reducible refine gate_dst (N := 57) rfl ?_); (with_reducible refine gen_alloc ?_); go_loud (intro w9 hbox hbw; have HP9 := Aside0.mk hbox; have HS9 := Aside0.mk (HS8.out.below hbw); have HT9 := Aside0.mk (Kd.R_below HT8.out hbw); have HR9 := Aside0.mk (Kd.R_below HR8.out hbw); clear hbox hbw; have hc92 : w9.cell? ⟨gc, 2, none⟩ = some (.int .i64 c2) := (blk_cell HS9.out.fr.bc 2).trans rfl; have hp90 : w9.cell? ⟨w8.heap.size, 0, none⟩ = some (.int .i64 p1) := (blk_cell HP9.out 0).trans rfl; have hp91 : w9.cell? ⟨w8.heap.size, 1, none⟩ = some (.slice Ap pt.length cp) := (blk_cell HP9.out 1).trans rfl; have hp92 : w9.cell? ⟨w8.heap.size, 2, none⟩ = some (.bool false) := (blk_cell HP9.out 2).trans rfl; have hs90 : w9.cell? ⟨g11, 0, none⟩ = some (.int .i64 s1) := (blk_cell HS9.out.b11 0).trans rfl; have hs91 : w9.cell? ⟨g11, 1, none⟩ = some (.slice A11 st.length c11) := (blk_cell HS9.out.b11 1).trans rfl; have hs92 : w9.cell? ⟨g11, 2, none⟩ = some (.bool false) := (blk_cell HS9.out.b11 2).trans rfl)))
          go_roundg (L.length - (i + 1).toNat)
          case measure => have := HI.out; omega
          case rel => exact ⟨i + 1, (s1, st, false), _, m2, by first | rfl | rw [HWI], ⟨by omega, by omega, by omega⟩, ⟨by have h1 := HM2.out; have h2 := HMN.out; have h3 := HMK.out.2; omega⟩, HPF2, HST2, HT9, HS9⟩
        | true =>
          go_wp2_with (first
            | (go_at_call 24; go_loud ((with_reducible refine (impl_Limits_next.calls 1 a b c0 c1 c2 u x y u true _ HNX.out).mono ?_); rintro e w6 ⟨rfl, hb6⟩; have HS6 := Aside0.mk (HS.out.below hb6); have HT6 := Aside0.mk (Kd.R_below HT.out hb6); clear hb6))
            | ((with_reducible refine gate_dst (N := 50) rfl ?_); (with_reducible refine gen_alloc ?_); go_loud (intro w7 hbox hbw; have HX7 := Aside0.mk hbox; have HS7 := Aside0.mk (HS6.out.below hbw); have HT7 := Aside0.mk (Kd.R_below HT6.out hbw); clear hbox hbw; have hl70 : w7.cell? ⟨gl, 0, none⟩ = some (.int .i64 a) := (blk_cell HS7.out.fr.bl 0).trans rfl; have hl71 : w7.cell? ⟨gl, 1, none⟩ = some (.int .i64 b) := (blk_cell HS7.out.fr.bl 1).trans rfl; have hx0 : w7.cell? ⟨w6.heap.size, 0, none⟩ = some (.int .i64 x) := (blk_cell HX7.out 0).trans rfl; have hx1 : w7.cell? ⟨w6.heap.size, 1, none⟩ = some (.int .i64 y) := (blk_cell HX7.out 1).trans rfl; have hx2 : w7.cell? ⟨w6.heap.size, 2, none⟩ = some (.int .i64 u) := (blk_cell HX7.out 2).trans rfl))
            | (go_at_call 18; go_loud ((with_reducible refine (HCALL.out m w7 HMK.out.1 HS7.out.memo HS7.out.fr.made).mono ?_); rintro e w8 ⟨Ap, cp, rfl, hro, ⟨m2, hm2, hme⟩, hkp, hbp⟩; have HS8 := Aside0.mk (HS7.out.call hkp hbp hme); have HT8 := Aside0.mk (R_keptM HT7.out hkp); have HR8 := Aside0.mk hro; have HM2 := Aside0.mk hm2; clear hro hm2 hme hkp hbp))
            | ((with_reducible refine gate_dst (N := 57) rfl ?_); (with_reducible refine gen_alloc ?_); go_loud (intro w9 hbox hbw; have HP9 := Aside0.mk hbox; have HS9 := Aside0.mk (HS8.out.below hbw); have HT9 := Aside0.mk (Kd.R_below HT8.out hbw); have HR9 := Aside0.mk (Kd.R_below HR8.out hbw); clear hbox hbw; have hc92 : w9.cell? ⟨gc, 2, none⟩ = some (.int .i64 c2) := (blk_cell HS9.out.fr.bc 2).trans rfl; have hp90 : w9.cell? ⟨w8.heap.size, 0, none⟩ = some (.int .i64 p1) := (blk_cell HP9.out 0).trans rfl; have hp91 : w9.cell? ⟨w8.heap.size, 1, none⟩ = some (.slice Ap pt.length cp) := (blk_cell HP9.out 1).trans rfl; have hp92 : w9.cell? ⟨w8.heap.size, 2, none⟩ = some (.bool false) := (blk_cell HP9.out 2).trans rfl; have hs90 : w9.cell? ⟨g11, 0, none⟩ = some (.int .i64 s1) := (blk_cell HS9.out.b11 0).trans rfl; have hs91 : w9.cell? ⟨g11, 1, none⟩ = some (.slice A11 st.length c11) := (blk_cell HS9.out.b11 1).trans rfl; have hs92 : w9.cell? ⟨g11, 2, none⟩ = some (.bool true) := (blk_cell HS9.out.b11 2).trans rfl)))
          go_roundg (L.length - (i + 1).toNat)
          case measure => have := HI.out; omega
          case rel => exact ⟨i + 1, (s1, st, true), _, m2, by first | rfl | rw [HWI], ⟨by omega, by omega, by omega⟩, ⟨by have h1 := HM2.out; have h2 := HMN.out; have h3 := HMK.out.2; omega⟩, HPF2, HST2, HT9, HS9⟩
      | true =>
        cases sk with
        | false =>
          have hst := HST.out
          have hpf := HPF.out
          rw [if_pos ⟨rfl, Or.inl rfl⟩] at hst hpf
          have HST2 := Aside0.mk hst.symm
          have HPF2 := Aside0.mk hpf
          clear hst hpf
          go_wp2_with (first
            | (go_at_call 24; go_loud ((with_reducible refine (impl_Limits_next.calls 1 a b c0 c1 c2 u x y u true _ HNX.out).mono ?_); rintro e w6 ⟨rfl, hb6⟩; have HS6 := Aside0.mk (HS.out.below hb6); have HT6 := Aside0.mk (Kd.R_below HT.out hb6); clear hb6))
            | ((with_reducible refine gate_dst (N := 50) rfl ?_); (with_reducible refine gen_alloc ?_); go_loud (intro w7 hbox hbw; have HX7 := Aside0.mk hbox; have HS7 := Aside0.mk (HS6.out.below hbw); have HT7 := Aside0.mk (Kd.R_below HT6.out hbw); clear hbox hbw; have hl70 : w7.cell? ⟨gl, 0, none⟩ = some (.int .i64 a) := (blk_cell HS7.out.fr.bl 0).trans rfl; have hl71 : w7.cell? ⟨gl, 1, none⟩ = some (.int .i64 b) := (blk_cell HS7.out.fr.bl 1).trans rfl; have hx0 : w7.cell? ⟨w6.heap.size, 0, none⟩ = some (.int .i64 x) := (blk_cell HX7.out 0).trans rfl; have hx1 : w7.cell? ⟨w6.heap.size, 1, none⟩ = some (.int .i64 y) := (blk_cell HX7.out 1).trans rfl; have hx2 : w7.cell? ⟨w6.heap.size, 2, none⟩ = some (.int .i64 u) := (blk_cell HX7.out 2).trans rfl))
            | (go_at_call 18; go_loud ((with_reducible refine (HCALL.out m w7 HMK.out.1 HS7.out.memo HS7.out.fr.made).mono ?_); rintro e w8 ⟨Ap, cp, rfl, hro, ⟨m2, hm2, hme⟩, hkp, hbp⟩; have HS8 := Aside0.mk (HS7.out.call hkp hbp hme); have HT8 := Aside0.mk (R_keptM HT7.out hkp); have HR8 := Aside0.mk hro; have HM2 := Aside0.mk hm2; clear hro hm2 hme hkp hbp))
            | ((with_reducible refine gate_dst (N := 57) rfl ?_); (with_reducible refine gen_alloc ?_); go_loud (intro w9 hbox hbw; have HP9 := Aside0.mk hbox; have HS9 := Aside0.mk (HS8.out.below hbw); have HT9 := Aside0.mk (Kd.R_below HT8.out hbw); have HR9 := Aside0.mk (Kd.R_below HR8.out hbw); clear hbox hbw; have hc92 : w9.cell? ⟨gc, 2, none⟩ = some (.int .i64 c2) := (blk_cell HS9.out.fr.bc 2).trans rfl; have hp90 : w9.cell? ⟨w8.heap.size, 0, none⟩ = some (.int .i64 p1) := (blk_cell HP9.out 0).trans rfl; have hp91 : w9.cell? ⟨w8.heap.size, 1, none⟩ = some (.slice Ap pt.length cp) := (blk_cell HP9.out 1).trans rfl; have hp92 : w9.cell? ⟨w8.heap.size, 2, none⟩ = some (.bool true) := (blk_cell HP9.out 2).trans rfl; have hs90 : w9.cell? ⟨g11, 0, none⟩ = some (.int .i64 s1) := (blk_cell HS9.out.b11 0).trans rfl; have hs91 : w9.cell? ⟨g11, 1, none⟩ = some (.slice A11 st.length c11) := (blk_cell HS9.out.b11 1).trans rfl; have hs92 : w9.cell? ⟨g11, 2, none⟩ = some (.bool false) := (blk_cell HS9.out.b11 2).trans rfl))
            | ((with_reducible refine gate_dst (N := 83) rfl ?_); go_loud (refine Kd.R_lit (Kd.int .i64) (w0 := w9) w9.heap.size 2 ?hg (N := 83) ?hd (xs := [u]) (inner := [.int .i64 u]) (ok := fun _ => True) (okp := fun _ => False) ?hr ?hp (fun _ hk => hk.elim) trivial (Below.refl _ _) (Nat.le_refl _) (by simp) ?_; (case hd => rfl); (case hg => rfl); (case hr => first | (go_simp; done) | (go_simp; rfl)); (case hp => exact Reps.one rfl (Reps.none _ _)); intro v83 w10 ho hbw hg_ hnew_; have HO10 := Aside0.mk ho; have HB10 := Aside0.mk hbw; have HP10 := Aside0.mk (blk_below HP9.out hbw); have HR10 := Aside0.mk (Kd.R_below HR9.out hbw); clear ho hbw hg_ hnew_; have hp101 : w10.cell? ⟨w8.heap.size, 1, none⟩ = some (.slice Ap pt.length cp) := (blk_cell HP10.out 1).trans rfl))
            | ((with_reducible refine gate_builtin (b := .append) (xs := #[.tmp 83, .tmp 85]) rfl ?_); go_loud (refine Kd.R_append_row (fun n => Value.int .i64 n) (0 : Int) (w0 := w9) w9.heap.size rfl (.tmp 83) (.tmp 85) 26 2 (.int .i64 0) 8 rfl hu26 info2 rfl (by decide) v83 [u] pt Ap pt.length cp (fun _ => True) rfl rfl (fun _ _ => trivial) HO10.out (Kd.R_reads' HR10.out).2.2 HB10.out HB10.out.size ?hl ?_; (case hl => have := HPL.out; simp only [List.length_cons, List.length_nil]; omega); intro v86 w11 ho hbw hg_ hat_; obtain ⟨A86, c86, e86⟩ := Kd.R_slice ho; subst e86; have HS11 := Aside0.mk (HS9.out.below hbw); have HT11 := Aside0.mk (Kd.R_below HT9.out hbw); have HO11 := Aside0.mk (Kd.R_lower ho HS9.out.fr.big); clear ho hbw hg_ hat_; have hs110 : w11.cell? ⟨g11, 0, none⟩ = some (.int .i64 s1) := (blk_cell HS11.out.b11 0).trans rfl; have hs111 : w11.cell? ⟨g11, 1, none⟩ = some (.slice A11 st.length c11) := (blk_cell HS11.out.b11 1).trans rfl; have hs112 : w11.cell? ⟨g11, 2, none⟩ = some (.bool false) := (blk_cell HS11.out.b11 2).trans rfl; have hf0 := blk_frozen HS11.out.b11 0; have hf1 := blk_frozen HS11.out.b11 1; have hf2 := blk_frozen HS11.out.b11 2)))
          have HSX := Aside0.mk ((HS11.out.store (v' := .slice A86 ([u] ++ pt).length c86) (s' := (ss, u :: pt, true)) HO11.out))
          have HTX : Aside0 (Kd.R (Kd.int .i64) 2 (((w11.setCell ⟨g11, 0, none⟩ (.int .i64 ss)).setCell ⟨g11, 1, none⟩ (.slice A86 ([u] ++ pt).length c86)).setCell ⟨g11, 2, none⟩ (.bool true)) w0.heap.size (fun _ => True) (.slice (some ad) L.length ct) L) := ⟨HS11.out.farR HT11.out _ _ _⟩
          go_roundg (L.length - (i + 1).toNat)
          case measure => have := HI.out; omega
          case rel => exact ⟨i + 1, (ss, u :: pt, true), _, m2, by first | rfl | rw [HWI], ⟨by omega, by omega, by omega⟩, ⟨by have h1 := HM2.out; have h2 := HMN.out; have h3 := HMK.out.2; omega⟩, HPF2, HST2, HTX, HSX⟩
        | true =>
          by_cases hlt : ss < s1
          · have hltb := decide_eq_true hlt
            have hst := HST.out
            have hpf := HPF.out
            rw [if_pos ⟨rfl, Or.inr hlt⟩] at hst hpf
            have HST2 := Aside0.mk hst.symm
            have HPF2 := Aside0.mk hpf
            clear hst hpf
            clear hlt
            go_wp2_with (first
              | (go_at_call 24; go_loud ((with_reducible refine (impl_Limits_next.calls 1 a b c0 c1 c2 u x y u true _ HNX.out).mono ?_); rintro e w6 ⟨rfl, hb6⟩; have HS6 := Aside0.mk (HS.out.below hb6); have HT6 := Aside0.mk (Kd.R_below HT.out hb6); clear hb6))
              | ((with_reducible refine gate_dst (N := 50) rfl ?_); (with_reducible refine gen_alloc ?_); go_loud (intro w7 hbox hbw; have HX7 := Aside0.mk hbox; have HS7 := Aside0.mk (HS6.out.below hbw); have HT7 := Aside0.mk (Kd.R_below HT6.out hbw); clear hbox hbw; have hl70 : w7.cell? ⟨gl, 0, none⟩ = some (.int .i64 a) := (blk_cell HS7.out.fr.bl 0).trans rfl; have hl71 : w7.cell? ⟨gl, 1, none⟩ = some (.int .i64 b) := (blk_cell HS7.out.fr.bl 1).trans rfl; have hx0 : w7.cell? ⟨w6.heap.size, 0, none⟩ = some (.int .i64 x) := (blk_cell HX7.out 0).trans rfl; have hx1 : w7.cell? ⟨w6.heap.size, 1, none⟩ = some (.int .i64 y) := (blk_cell HX7.out 1).trans rfl; have hx2 : w7.cell? ⟨w6.heap.size, 2, none⟩ = some (.int .i64 u) := (blk_cell HX7.out 2).trans rfl))
              | (go_at_call 18; go_loud ((with_reducible refine (HCALL.out m w7 HMK.out.1 HS7.out.memo HS7.out.fr.made).mono ?_); rintro e w8 ⟨Ap, cp, rfl, hro, ⟨m2, hm2, hme⟩, hkp, hbp⟩; have HS8 := Aside0.mk (HS7.out.call hkp hbp hme); have HT8 := Aside0.mk (R_keptM HT7.out hkp); have HR8 := Aside0.mk hro; have HM2 := Aside0.mk hm2; clear hro hm2 hme hkp hbp))
              | ((with_reducible refine gate_dst (N := 57) rfl ?_); (with_reducible refine gen_alloc ?_); go_loud (intro w9 hbox hbw; have HP9 := Aside0.mk hbox; have HS9 := Aside0.mk (HS8.out.below hbw); have HT9 := Aside0.mk (Kd.R_below HT8.out hbw); have HR9 := Aside0.mk (Kd.R_below HR8.out hbw); clear hbox hbw; have hc92 : w9.cell? ⟨gc, 2, none⟩ = some (.int .i64 c2) := (blk_cell HS9.out.fr.bc 2).trans rfl; have hp90 : w9.cell? ⟨w8.heap.size, 0, none⟩ = some (.int .i64 p1) := (blk_cell HP9.out 0).trans rfl; have hp91 : w9.cell? ⟨w8.heap.size, 1, none⟩ = some (.slice Ap pt.length cp) := (blk_cell HP9.out 1).trans rfl; have hp92 : w9.cell? ⟨w8.heap.size, 2, none⟩ = some (.bool true) := (blk_cell HP9.out 2).trans rfl; have hs90 : w9.cell? ⟨g11, 0, none⟩ = some (.int .i64 s1) := (blk_cell HS9.out.b11 0).trans rfl; have hs91 : w9.cell? ⟨g11, 1, none⟩ = some (.slice A11 st.length c11) := (blk_cell HS9.out.b11 1).trans rfl; have hs92 : w9.cell? ⟨g11, 2, none⟩ = some (.bool true) := (blk_cell HS9.out.b11 2).trans rfl))
              | ((with_reducible refine gate_dst (N := 83) rfl ?_); go_loud (refine Kd.R_lit (Kd.int .i64) (w0 := w9) w9.heap.size 2 ?hg (N := 83) ?hd (xs := [u]) (inner := [.int .i64 u]) (ok := fun _ => True) (okp := fun _ => False) ?hr ?hp (fun _ hk => hk.elim) trivial (Below.refl _ _) (Nat.le_refl _) (by simp) ?_; (case hd => rfl); (case hg => rfl); (case hr => first | (go_simp; done) | (go_simp; rfl)); (case hp => exact Reps.one rfl (Reps.none _ _)); intro v83 w10 ho hbw hg_ hnew_; have HO10 := Aside0.mk ho; have HB10 := Aside0.mk hbw; have HP10 := Aside0.mk (blk_below HP9.out hbw); have HR10 := Aside0.mk (Kd.R_below HR9.out hbw); clear ho hbw hg_ hnew_; have hp101 : w10.cell? ⟨w8.heap.size, 1, none⟩ = some (.slice Ap pt.length cp) := (blk_cell HP10.out 1).trans rfl))
              | ((with_reducible refine gate_builtin (b := .append) (xs := #[.tmp 83, .tmp 85]) rfl ?_); go_loud (refine Kd.R_append_row (fun n => Value.int .i64 n) (0 : Int) (w0 := w9) w9.heap.size rfl (.tmp 83) (.tmp 85) 26 2 (.int .i64 0) 8 rfl hu26 info2 rfl (by decide) v83 [u] pt Ap pt.length cp (fun _ => True) rfl rfl (fun _ _ => trivial) HO10.out (Kd.R_reads' HR10.out).2.2 HB10.out HB10.out.size ?hl ?_; (case hl => have := HPL.out; simp only [List.length_cons, List.length_nil]; omega); intro v86 w11 ho hbw hg_ hat_; obtain ⟨A86, c86, e86⟩ := Kd.R_slice ho; subst e86; have HS11 := Aside0.mk (HS9.out.below hbw); have HT11 := Aside0.mk (Kd.R_below HT9.out hbw); have HO11 := Aside0.mk (Kd.R_lower ho HS9.out.fr.big); clear ho hbw hg_ hat_; have hs110 : w11.cell? ⟨g11, 0, none⟩ = some (.int .i64 s1) := (blk_cell HS11.out.b11 0).trans rfl; have hs111 : w11.cell? ⟨g11, 1, none⟩ = some (.slice A11 st.length c11) := (blk_cell HS11.out.b11 1).trans rfl; have hs112 : w11.cell? ⟨g11, 2, none⟩ = some (.bool true) := (blk_cell HS11.out.b11 2).trans rfl; have hf0 := blk_frozen HS11.out.b11 0; have hf1 := blk_frozen HS11.out.b11 1; have hf2 := blk_frozen HS11.out.b11 2)))
            have HSX := Aside0.mk ((HS11.out.store (v' := .slice A86 ([u] ++ pt).length c86) (s' := (ss, u :: pt, true)) HO11.out))
            have HTX : Aside0 (Kd.R (Kd.int .i64) 2 (((w11.setCell ⟨g11, 0, none⟩ (.int .i64 ss)).setCell ⟨g11, 1, none⟩ (.slice A86 ([u] ++ pt).length c86)).setCell ⟨g11, 2, none⟩ (.bool true)) w0.heap.size (fun _ => True) (.slice (some ad) L.length ct) L) := ⟨HS11.out.farR HT11.out _ _ _⟩
            go_roundg (L.length - (i + 1).toNat)
            case measure => have := HI.out; omega
            case rel => exact ⟨i + 1, (ss, u :: pt, true), _, m2, by first | rfl | rw [HWI], ⟨by omega, by omega, by omega⟩, ⟨by have h1 := HM2.out; have h2 := HMN.out; have h3 := HMK.out.2; omega⟩, HPF2, HST2, HTX, HSX⟩
          · have hltb := decide_eq_false hlt
            have hst := HST.out
            have hpf := HPF.out
            rw [if_neg (by rintro ⟨_, h | h⟩ <;> first | cases h | exact hlt h)] at hst hpf
            have HST2 := Aside0.mk hst.symm
            have HPF2 := Aside0.mk hpf
            clear hst hpf
            clear hlt
            go_wp2_with (first
              | (go_at_call 24; go_loud ((with_reducible refine (impl_Limits_next.calls 1 a b c0 c1 c2 u x y u true _ HNX.out).mono ?_); rintro e w6 ⟨rfl, hb6⟩; have HS6 := Aside0.mk (HS.out.below hb6); have HT6 := Aside0.mk (Kd.R_below HT.out hb6); clear hb6))
              | ((with_reducible refine gate_dst (N := 50) rfl ?_); (with_reducible refine gen_alloc ?_); go_loud (intro w7 hbox hbw; have HX7 := Aside0.mk hbox; have HS7 := Aside0.mk (HS6.out.below hbw); have HT7 := Aside0.mk (Kd.R_below HT6.out hbw); clear hbox hbw; have hl70 : w7.cell? ⟨gl, 0, none⟩ = some (.int .i64 a) := (blk_cell HS7.out.fr.bl 0).trans rfl; have hl71 : w7.cell? ⟨gl, 1, none⟩ = some (.int .i64 b) := (blk_cell HS7.out.fr.bl 1).trans rfl; have hx0 : w7.cell? ⟨w6.heap.size, 0, none⟩ = some (.int .i64 x) := (blk_cell HX7.out 0).trans rfl; have hx1 : w7.cell? ⟨w6.heap.size, 1, none⟩ = some (.int .i64 y) := (blk_cell HX7.out 1).trans rfl; have hx2 : w7.cell? ⟨w6.heap.size, 2, none⟩ = some (.int .i64 u) := (blk_cell HX7.out 2).trans rfl))
              | (go_at_call 18; go_loud ((with_reducible refine (HCALL.out m w7 HMK.out.1 HS7.out.memo HS7.out.fr.made).mono ?_); rintro e w8 ⟨Ap, cp, rfl, hro, ⟨m2, hm2, hme⟩, hkp, hbp⟩; have HS8 := Aside0.mk (HS7.out.call hkp hbp hme); have HT8 := Aside0.mk (R_keptM HT7.out hkp); have HR8 := Aside0.mk hro; have HM2 := Aside0.mk hm2; clear hro hm2 hme hkp hbp))
              | ((with_reducible refine gate_dst (N := 57) rfl ?_); (with_reducible refine gen_alloc ?_); go_loud (intro w9 hbox hbw; have HP9 := Aside0.mk hbox; have HS9 := Aside0.mk (HS8.out.below hbw); have HT9 := Aside0.mk (Kd.R_below HT8.out hbw); have HR9 := Aside0.mk (Kd.R_below HR8.out hbw); clear hbox hbw; have hc92 : w9.cell? ⟨gc, 2, none⟩ = some (.int .i64 c2) := (blk_cell HS9.out.fr.bc 2).trans rfl; have hp90 : w9.cell? ⟨w8.heap.size, 0, none⟩ = some (.int .i64 p1) := (blk_cell HP9.out 0).trans rfl; have hp91 : w9.cell? ⟨w8.heap.size, 1, none⟩ = some (.slice Ap pt.length cp) := (blk_cell HP9.out 1).trans rfl; have hp92 : w9.cell? ⟨w8.heap.size, 2, none⟩ = some (.bool true) := (blk_cell HP9.out 2).trans rfl; have hs90 : w9.cell? ⟨g11, 0, none⟩ = some (.int .i64 s1) := (blk_cell HS9.out.b11 0).trans rfl; have hs91 : w9.cell? ⟨g11, 1, none⟩ = some (.slice A11 st.length c11) := (blk_cell HS9.out.b11 1).trans rfl; have hs92 : w9.cell? ⟨g11, 2, none⟩ = some (.bool true) := (blk_cell HS9.out.b11 2).trans rfl)))
            go_roundg (L.length - (i + 1).toNat)
            case measure => have := HI.out; omega
            case rel => exact ⟨i + 1, (s1, st, true), _, m2, by first | rfl | rw [HWI], ⟨by omega, by omega, by omega⟩, ⟨by have h1 := HM2.out; have h2 := HMN.out; have h3 := HMK.out.2; omega⟩, HPF2, HST2, HT9, HS9⟩
    · have ei : i = L.length := by have := HI.out; omega
      subst ei
      have hfd := HFD.out
      rw [show ((L.length : Int)).toNat = L.length from by omega, List.drop_length] at hfd
      have hfd : s = FF := hfd
      subst hfd
      have HMS : Aside0 (m + 2 ≤ n + (7 * K + 2) ∧ m + 1 < maxLen) := ⟨by
        have h1 := HMN.out
        have h2 := HLEN.out
        have h3 : ((L.length : Int)).toNat * K ≤ 7 * K := Nat.mul_le_mul_right K (by omega)
        have h4 := HN.out
        have h5 : 4000000 < maxLen := by decide
        omega⟩
      obtain ⟨G2, H2, hm2⟩ := HS.out.memo
      have HM2 := Aside0.mk hm2
      clear hm2 HFD
      have hl0 : wr.cell? ⟨gl, 0, none⟩ = some (.int .i64 a) := (blk_cell HS.out.fr.bl 0).trans rfl
      have hl1 : wr.cell? ⟨gl, 1, none⟩ = some (.int .i64 b) := (blk_cell HS.out.fr.bl 1).trans rfl
      have hc0 : wr.cell? ⟨gc, 0, none⟩ = some (.int .i64 c0) := (blk_cell HS.out.fr.bc 0).trans rfl
      have hc1 : wr.cell? ⟨gc, 1, none⟩ = some (.int .i64 c1) := (blk_cell HS.out.fr.bc 1).trans rfl
      have hc2 : wr.cell? ⟨gc, 2, none⟩ = some (.int .i64 c2) := (blk_cell HS.out.fr.bc 2).trans rfl
      cases hG2 : G2 ⟨c0, c1, c2⟩ with
      | some gt =>
        have HG2 := Aside0.mk hG2
        clear hG2
        go_wp2_with (first
          | ((with_reducible refine gate_dst (N := 91) rfl ?_); go_loud (refine wpList_look (x := (⟨c0, c1, c2⟩ : S31)) false rfl _ _ rfl keyedC hu46 (by rfl) rfl HM2.out.map rfl HKC.out ?_; rw [mapv, HG2.out]; simp only [Bool.false_eq_true, if_false])))
        have HM3 := Aside0.mk (HM2.out.mono (Nat.le_refl _))
        have HS20 := Aside0.mk (HS.out.below (below_drew (Below.refl _ _)))
        have HM20 := Aside0.mk (HM2.out.below (below_drew (Below.refl _ _)))
        refine start_ (n := 6) (S := fun w' => w'.cell? ⟨gc, 0, none⟩ = some (.int .i64 c0) ∧ w'.cell? ⟨gc, 1, none⟩ = some (.int .i64 c1) ∧ w'.cell? ⟨gc, 2, none⟩ = some (.int .i64 c2) ∧ w'.cell? ⟨g11, 0, none⟩ = some (.int .i64 s.1) ∧ w'.cell? ⟨g11, 1, none⟩ = some (.slice A11 s.2.1.length c11) ∧ w'.cell? ⟨g11, 2, none⟩ = some (.bool s.2.2)) (ds := []) #[false, false, false, false, false, false] (by kernel_rfl) rfl rfl ⟨(blk_cell HS20.out.fr.bc 0).trans rfl, (blk_cell HS20.out.fr.bc 1).trans rfl, (blk_cell HS20.out.fr.bc 2).trans rfl, (blk_cell HS20.out.b11 0).trans rfl, (blk_cell HS20.out.b11 1).trans rfl, (blk_cell HS20.out.b11 2).trans rfl⟩ (fun hHeld => ?_)
        refine with_tabW smooth_tab smooth_bits (fun HT_ HW_ => ?_)
        generalize wr.drew = w20 at HS20 HM20 hHeld ⊢
        refine pure_ (i := 0) (N := some 96) (v := ?_) (a' := ?_) #[true, false, false, false, false, false] rfl rfl (any_of HT_.out (by kernel_rfl)) (fun _ _ _ h => h) (Or.inl ⟨by rfl, ?_⟩) ?_ ?_
        rotate_left
        · intro w'
          go_simp
          with_reducible rfl
        rotate_left
        · simp only [Act.put, List.setIfInBounds_toArray, List.set_cons_zero, List.set_cons_succ, i64_w, i32_w]
          rfl
        refine take_ (i := 1) (N := some 97) (v := ?_) (a' := ?_) #[true, true, false, false, false, false] rfl rfl (take_ofW HT_.out HW_.out (by kernel_rfl)) (fun _ _ _ h => h) (Or.inl ⟨by rfl, ?_⟩) hHeld ?_ ?_
        rotate_left
        · rintro w' ⟨s0, s1, s2, s3, s4, s5⟩
          go_simp
          with_reducible rfl
        rotate_left
        · simp only [Act.put, List.setIfInBounds_toArray, List.set_cons_zero, List.set_cons_succ, i64_w, i32_w]
          rfl
        refine pure_ (i := 3) (N := some 99) (v := ?_) (a' := ?_) #[true, true, false, true, false, false] rfl rfl (any_of HT_.out (by kernel_rfl)) (fun _ _ _ h => h) (Or.inl ⟨by rfl, ?_⟩) ?_ ?_
        rotate_left
        · intro w'
          go_simp
          with_reducible rfl
        rotate_left
        · simp only [Act.put, List.setIfInBounds_toArray, List.set_cons_zero, List.set_cons_succ, i64_w, i32_w]
          rfl
        refine take_ (i := 4) (N := some 100) (v := ?_) (a' := ?_) #[true, true, false, true, true, false] rfl rfl (take_ofW HT_.out HW_.out (by kernel_rfl)) (fun _ _ _ h => h) (Or.inl ⟨by rfl, ?_⟩) hHeld ?_ ?_
        rotate_left
        · rintro w' ⟨s0, s1, s2, s3, s4, s5⟩
          go_simp
          with_reducible rfl
        rotate_left
        · simp only [Act.put, List.setIfInBounds_toArray, List.set_cons_zero, List.set_cons_succ, i64_w, i32_w]
          rfl
        refine one_ (i := 2) (N := some 98) #[true, true, true, true, true, false] rfl rfl (one_of HT_.out (by kernel_rfl)) (by decide) (fun K hK => ?_)
        refine look_ (x := (⟨c0, c1, c2⟩ : S31)) false (by rfl) rfl _ _ rfl keyedC hu46 (by rfl) rfl HM20.out.map rfl HKC.out ?_
        rw [mapv, HG2.out]
        refine hK.out _ _ ⟨(blk_cell HS20.out.fr.bc 0).trans rfl, (blk_cell HS20.out.fr.bc 1).trans rfl, (blk_cell HS20.out.fr.bc 2).trans rfl, (blk_cell HS20.out.b11 0).trans rfl, (blk_cell HS20.out.b11 1).trans rfl, (blk_cell HS20.out.b11 2).trans rfl⟩ (fun hHeld => ?_)
        clear hK K
        refine norm_ (a' := ?_) ?_ ?_
        rotate_left
        · show Act.put _ (some 98) _ = _
          simp only [Bool.false_eq_true, if_false, Act.put, List.setIfInBounds_toArray, List.set_cons_zero, List.set_cons_succ, i64_w, i32_w]
          rfl
        refine one_ (i := 5) (N := none) #[true, true, true, true, true, true] rfl rfl (one_of HT_.out (by kernel_rfl)) (by decide) (fun K hK => ?_)
        refine put_ (x := kk) (by rfl) rfl _ _ _ rfl keyedI valI_inj hu52 ?len rfl (HM20.out.inn _ _ HG2.out).2 rfl HKL.out ?_
        case len => have := HMS.out.2; omega
        intro w21 hmap hgr
        have HE21 := Aside0.mk (HM20.out.inner (k := kk) (v := .agg #[.int .i64 s.1, .slice A11 s.2.1.length c11, .bool s.2.2]) HG2.out ⟨_, by rw [HFOLD.out], by rw [HFOLD.out]; exact HS20.out.out⟩ hmap hgr)
        have HS21 := Aside0.mk (HS20.out.grownM (HM20.out.inn _ _ HG2.out).2 (HM20.out.inn _ _ HG2.out).1 hgr ⟨_, _, HE21.out⟩)
        clear hmap hgr HE21
        refine hK.out _ _ ⟨(blk_cell HS21.out.fr.bc 0).trans rfl, (blk_cell HS21.out.fr.bc 1).trans rfl, (blk_cell HS21.out.fr.bc 2).trans rfl, (blk_cell HS21.out.b11 0).trans rfl, (blk_cell HS21.out.b11 1).trans rfl, (blk_cell HS21.out.b11 2).trans rfl⟩ (fun hHeld => ?_)
        clear hK K hHeld
        refine done_ (done_of HT_.out (by kernel_rfl)) ?_
        have hs0 : w21.cell? ⟨g11, 0, none⟩ = some (.int .i64 s.1) := (blk_cell HS21.out.b11 0).trans rfl
        have hs1 : w21.cell? ⟨g11, 1, none⟩ = some (.slice A11 s.2.1.length c11) := (blk_cell HS21.out.b11 1).trans rfl
        have hs2 : w21.cell? ⟨g11, 2, none⟩ = some (.bool s.2.2) := (blk_cell HS21.out.b11 2).trans rfl
        have h80 : w21.cell? ⟨g8, 0, none⟩ = some (.int .i64 0) := (blk_cell HS21.out.fr.b8 0).trans rfl
        have h81 : w21.cell? ⟨g8, 1, none⟩ = some (.slice none 0 0) := (blk_cell HS21.out.fr.b8 1).trans rfl
        have h82 : w21.cell? ⟨g8, 2, none⟩ = some (.bool false) := (blk_cell HS21.out.fr.b8 2).trans rfl
        have hf0 := blk_frozen HS21.out.fr.b8 0
        have hf1 := blk_frozen HS21.out.fr.b8 1
        have hf2 := blk_frozen HS21.out.fr.b8 2
        go_wp2
        obtain ⟨W8, e8, r1, r2, r3, r4, r5⟩ := HS21.out.ret
        rw [← e8]
        refine ret8 r5 rfl rfl rfl ?_
        rw [HR0.out]
        exact ⟨A11, c11, rfl, r2, ⟨_, by have := HMS.out.1; omega, r1⟩, r3, r4⟩
      | none =>
        have HG2 := Aside0.mk hG2
        clear hG2
        go_wp2_with (first
          | ((with_reducible refine gate_dst (N := 91) rfl ?_); go_loud (refine wpList_look (x := (⟨c0, c1, c2⟩ : S31)) false rfl _ _ rfl keyedC hu46 (by rfl) rfl HM2.out.map rfl HKC.out ?_; rw [mapv, HG2.out]; simp only [Bool.false_eq_true, if_false]))
          | ((with_reducible refine gate_dst (N := 95) rfl ?_); go_loud (refine wpList_map 2 valI rfl rfl ?_; intro gt hgt w16 hmt hbt; have HMT := Aside0.mk hmt; have HBT := Aside0.mk hbt; have HGT : Aside0 (wr.heap.size ≤ gt) := ⟨by rw [hgt]; exact Nat.le_refl _⟩; have HS16 := Aside0.mk (HS.out.below hbt); have HM16 := Aside0.mk (HM2.out.below hbt); clear hgt hmt hbt))
          | ((with_reducible refine gate_upd rfl ?_); go_loud (refine wpList_put (x := (⟨c0, c1, c2⟩ : S31)) rfl _ _ _ rfl keyedC valS_inj hu46 ?len rfl HM16.out.map rfl HKC.out ?_; (case len => have := HMS.out.2; omega); intro w17 hmp hgr; have HM17 := Aside0.mk (HM2.out.outer HG2.out HBT.out HGT.out HS.out.fr.big HMT.out hmp hgr); have HS17 := Aside0.mk (HS16.out.grownM HM16.out.map HM16.out.base hgr ⟨_, _, HM17.out⟩); clear hmp hgr)))
        have HS20 := Aside0.mk (HS17.out.below (below_drew (Below.refl _ _)))
        have HM20 := Aside0.mk (HM17.out.below (below_drew (Below.refl _ _)))
        refine start_ (n := 6) (S := fun w' => w'.cell? ⟨gc, 0, none⟩ = some (.int .i64 c0) ∧ w'.cell? ⟨gc, 1, none⟩ = some (.int .i64 c1) ∧ w'.cell? ⟨gc, 2, none⟩ = some (.int .i64 c2) ∧ w'.cell? ⟨g11, 0, none⟩ = some (.int .i64 s.1) ∧ w'.cell? ⟨g11, 1, none⟩ = some (.slice A11 s.2.1.length c11) ∧ w'.cell? ⟨g11, 2, none⟩ = some (.bool s.2.2)) (ds := []) #[false, false, false, false, false, false] (by kernel_rfl) rfl rfl ⟨(blk_cell HS20.out.fr.bc 0).trans rfl, (blk_cell HS20.out.fr.bc 1).trans rfl, (blk_cell HS20.out.fr.bc 2).trans rfl, (blk_cell HS20.out.b11 0).trans rfl, (blk_cell HS20.out.b11 1).trans rfl, (blk_cell HS20.out.b11 2).trans rfl⟩ (fun hHeld => ?_)
        refine with_tabW smooth_tab smooth_bits (fun HT_ HW_ => ?_)
        generalize w17.drew = w20 at HS20 HM20 hHeld ⊢
        refine pure_ (i := 0) (N := some 96) (v := ?_) (a' := ?_) #[true, false, false, false, false, false] rfl rfl (any_of HT_.out (by kernel_rfl)) (fun _ _ _ h => h) (Or.inl ⟨by rfl, ?_⟩) ?_ ?_
        rotate_left
        · intro w'
          go_simp
          with_reducible rfl
        rotate_left
        · simp only [Act.put, List.setIfInBounds_toArray, List.set_cons_zero, List.set_cons_succ, i64_w, i32_w]
          rfl
        refine take_ (i := 1) (N := some 97) (v := ?_) (a' := ?_) #[true, true, false, false, false, false] rfl rfl (take_ofW HT_.out HW_.out (by kernel_rfl)) (fun _ _ _ h => h) (Or.inl ⟨by rfl, ?_⟩) hHeld ?_ ?_
        rotate_left
        · rintro w' ⟨s0, s1, s2, s3, s4, s5⟩
          go_simp
          with_reducible rfl
        rotate_left
        · simp only [Act.put, List.setIfInBounds_toArray, List.set_cons_zero, List.set_cons_succ, i64_w, i32_w]
          rfl
        refine pure_ (i := 3) (N := some 99) (v := ?_) (a' := ?_) #[true, true, false, true, false, false] rfl rfl (any_of HT_.out (by kernel_rfl)) (fun _ _ _ h => h) (Or.inl ⟨by rfl, ?_⟩) ?_ ?_
        rotate_left
        · intro w'
          go_simp
          with_reducible rfl
        rotate_left
        · simp only [Act.put, List.setIfInBounds_toArray, List.set_cons_zero, List.set_cons_succ, i64_w, i32_w]
          rfl
        refine take_ (i := 4) (N := some 100) (v := ?_) (a' := ?_) #[true, true, false, true, true, false] rfl rfl (take_ofW HT_.out HW_.out (by kernel_rfl)) (fun _ _ _ h => h) (Or.inl ⟨by rfl, ?_⟩) hHeld ?_ ?_
        rotate_left
        · rintro w' ⟨s0, s1, s2, s3, s4, s5⟩
          go_simp
          with_reducible rfl
        rotate_left
        · simp only [Act.put, List.setIfInBounds_toArray, List.set_cons_zero, List.set_cons_succ, i64_w, i32_w]
          rfl
        refine one_ (i := 2) (N := some 98) #[true, true, true, true, true, false] rfl rfl (one_of HT_.out (by kernel_rfl)) (by decide) (fun K hK => ?_)
        refine look_ (x := (⟨c0, c1, c2⟩ : S31)) false (by rfl) rfl _ _ rfl keyedC hu46 (by rfl) rfl HM20.out.map rfl HKC.out ?_
        rw [mapv, (if_pos rfl)]
        refine hK.out _ _ ⟨(blk_cell HS20.out.fr.bc 0).trans rfl, (blk_cell HS20.out.fr.bc 1).trans rfl, (blk_cell HS20.out.fr.bc 2).trans rfl, (blk_cell HS20.out.b11 0).trans rfl, (blk_cell HS20.out.b11 1).trans rfl, (blk_cell HS20.out.b11 2).trans rfl⟩ (fun hHeld => ?_)
        clear hK K
        refine norm_ (a' := ?_) ?_ ?_
        rotate_left
        · show Act.put _ (some 98) _ = _
          simp only [Bool.false_eq_true, if_false, Act.put, List.setIfInBounds_toArray, List.set_cons_zero, List.set_cons_succ, i64_w, i32_w]
          rfl
        refine one_ (i := 5) (N := none) #[true, true, true, true, true, true] rfl rfl (one_of HT_.out (by kernel_rfl)) (by decide) (fun K hK => ?_)
        refine put_ (x := kk) (by rfl) rfl _ _ _ rfl keyedI valI_inj hu52 ?len rfl (HM20.out.inn _ _ (if_pos rfl)).2 rfl HKL.out ?_
        case len => have := HMS.out.2; omega
        intro w21 hmap hgr
        have HE21 := Aside0.mk (HM20.out.inner (k := kk) (v := .agg #[.int .i64 s.1, .slice A11 s.2.1.length c11, .bool s.2.2]) (if_pos rfl) ⟨_, by rw [HFOLD.out], by rw [HFOLD.out]; exact HS20.out.out⟩ hmap hgr)
        have HS21 := Aside0.mk (HS20.out.grownM (HM20.out.inn _ _ (if_pos rfl)).2 (HM20.out.inn _ _ (if_pos rfl)).1 hgr ⟨_, _, HE21.out⟩)
        clear hmap hgr HE21
        refine hK.out _ _ ⟨(blk_cell HS21.out.fr.bc 0).trans rfl, (blk_cell HS21.out.fr.bc 1).trans rfl, (blk_cell HS21.out.fr.bc 2).trans rfl, (blk_cell HS21.out.b11 0).trans rfl, (blk_cell HS21.out.b11 1).trans rfl, (blk_cell HS21.out.b11 2).trans rfl⟩ (fun hHeld => ?_)
        clear hK K hHeld
        refine done_ (done_of HT_.out (by kernel_rfl)) ?_
        have hs0 : w21.cell? ⟨g11, 0, none⟩ = some (.int .i64 s.1) := (blk_cell HS21.out.b11 0).trans rfl
        have hs1 : w21.cell? ⟨g11, 1, none⟩ = some (.slice A11 s.2.1.length c11) := (blk_cell HS21.out.b11 1).trans rfl
        have hs2 : w21.cell? ⟨g11, 2, none⟩ = some (.bool s.2.2) := (blk_cell HS21.out.b11 2).trans rfl
        have h80 : w21.cell? ⟨g8, 0, none⟩ = some (.int .i64 0) := (blk_cell HS21.out.fr.b8 0).trans rfl
        have h81 : w21.cell? ⟨g8, 1, none⟩ = some (.slice none 0 0) := (blk_cell HS21.out.fr.b8 1).trans rfl
        have h82 : w21.cell? ⟨g8, 2, none⟩ = some (.bool false) := (blk_cell HS21.out.fr.b8 2).trans rfl
        have hf0 := blk_frozen HS21.out.fr.b8 0
        have hf1 := blk_frozen HS21.out.fr.b8 1
        have hf2 := blk_frozen HS21.out.fr.b8 2
        go_wp2
        obtain ⟨W8, e8, r1, r2, r3, r4, r5⟩ := HS21.out.ret
        rw [← e8]
        refine ret8 r5 rfl rfl rfl ?_
        rw [HR0.out]
        exact ⟨A11, c11, rfl, r2, ⟨_, by have := HMS.out.1; omega, r1⟩, r3, r4⟩

end Go.Proofs.Ytpccannjeppmbaa.Q
