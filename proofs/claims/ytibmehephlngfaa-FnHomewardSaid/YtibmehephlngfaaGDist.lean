/- A contract by hand for impl.distances: the map that it makes holds the numbers of distD, and nothing that was there changes. -/
import Derived.Test.YtibmehephlngfaaQ0
import Derived.Test.YtibmehephlngfaaQ5
import Derived.Test.YtibmehephlngfaaQ7
import Derived.Test.YtibmehephlngfaaGDistQ
namespace Go.Proofs.Ytibmehephlngfaa.Q
open Go.RowKit Go.Maps Go.Proofs.YtibmehephlngfaaW.PrintWords Go.Proofs.YtibmehephlngfaaW.PrintLast Go.Proofs.YtibmehephlngfaaW.PrintMore
set_option linter.unusedVariables false
set_option linter.unusedSimpArgs false

section
variable {P : Program} {ops : Array Oper} {rest : List Oper} {o : Oper} {a : Act} {Q : Exit → Act → World → Prop} {W : World}
theorem gate_ins {t : TypeId} {m y v : Operand} (_ho : o.op = Op.insert t m y v) (h : wpList P ops Q (o :: rest) a W) : wpList P ops Q (o :: rest) a W := h
theorem gate_upd {t : TypeId} {m y v : Operand} (_ho : o.op = Op.mapUpdate t m y v) (h : wpList P ops Q (o :: rest) a W) : wpList P ops Q (o :: rest) a W := h
theorem gen_alloc {l : List Oper} {cs : Array Value} {t : TypeId} (h : ∀ w1 : World, w1.heap[W.heap.size]? = some (.cells cs t (0, 0)) → Below W.heap.size W w1 → wpList P ops Q l a w1) : wpList P ops Q l a (W.alloc (.cells cs t (0, 0))) :=
  h _ (blk_new W _) (below_alloc (Below.refl _ _) _)
end
def DistPost (a b : Int) (w : World) (e : Ending) (w' : World) : Prop := ∃ gm, e = .returned (.map (some gm)) ∧ w.heap.size ≤ gm ∧ MapG Try.prog 24 valS w' gm (distD a b).length (mgv (distD a b)) ∧ Below w.heap.size w w'

set_option maxHeartbeats 8000000 in
set_option maxRecDepth 100000 in
theorem dist_calls (a b : Int) (ha : 1 ≤ a ∧ a ≤ 3) (hb : 1 ≤ b ∧ b ≤ 6) (w : World) : Calls Try.prog 61 #[.agg #[.int .i64 a, .int .i64 b]] w (DistPost a b w) := by
  obtain ⟨klh, hklh⟩ := keyC home (wf64 (by decide)) (wf64 (by decide)) (wf64 (by decide))
  have HKH := Aside0.mk hklh
  have hu80 := Try.underlying80
  have hu24 := Try.underlying24
  have hu40 := Try.underlying40
  have hu49 := Try.underlying49
  have HA := Aside0.mk ha
  have HBb := Aside0.mk hb
  have HB := Aside0.mk (Below.refl w.heap.size w)
  clear hklh ha hb
  obtain ⟨D, hD⟩ : ∃ D, D = distD a b := ⟨_, rfl⟩
  obtain ⟨F, hF⟩ : ∃ F : Ending → World → Prop, F = DistPost a b w := ⟨_, rfl⟩
  have HD := Aside0.mk hD
  have HF := Aside0.mk hF
  rw [← hF]
  clear hD hF
  go_enter Try.func61, Try.ntmps61
  go_wp2_with (first
    | ((with_reducible refine gate_dst (N := 1) rfl ?_); go_loud (refine box_event ?hg (N := 1) ?hd (cs := #[.int .i64 a, .int .i64 b]) (t := 40) ?hr ?_; (case hd => rfl); (case hg => rfl); (case hr => first | (go_simp; done) | (go_simp; rfl)); intro gl hgl w1 hbox hbw; have HB1 := Aside0.mk (below_step HB.out hbw); have HL := Aside0.mk hbox; clear hgl hbox hbw))
    | ((with_reducible refine gate_dst (N := 15) rfl ?_); go_loud (refine wpList_map 24 valS rfl rfl ?_; intro gm hgm w2 hm hbw; have HM2 := Aside0.mk hm; have HGM : Aside0 (w.heap.size ≤ gm) := ⟨by rw [hgm]; exact HB1.out.size⟩; have HB2 := Aside0.mk (below_step HB1.out hbw); have HL2 := Aside0.mk (blk_below HL.out hbw); clear hgm hm hbw))
    | ((with_reducible refine gate_ins rfl ?_); go_loud (refine wpList_ins (x := home) rfl _ _ _ rfl keyedC valS_inj hu80 (by decide) rfl HM2.out rfl HKH.out ?_; intro w3 hm hgr; have HM3 := Aside0.mk hm; have HL3 := Aside0.mk (blk_grown HL2.out hgr (by intro he; injection he with he; exact HM2.out.ne HL2.out he.symm)); have HB3 : Aside0 (Below w.heap.size w w3) := ⟨HB2.out.grown hgr HB2.out.size (by intro k hk; injection hk with hk; subst hk; exact HGM.out)⟩; clear hm hgr))
    | ((with_reducible refine gate_dst (N := 19) rfl ?_); go_loud (refine Kd.R_lit k24 _ 24 ?hg (N := 19) ?hd (xs := [home]) (inner := [.int .i64 0, .int .i64 0, .int .i64 0]) (ok := fun _ => True) (okp := fun _ => True) ?hr ?hp (fun _ hk => hk) trivial (Below.refl _ _) (Nat.le_refl _) (by simp) ?_; (case hd => rfl); (case hg => rfl); (case hr => first | (go_simp; done) | (go_simp; rfl)); (case hp => exact (Reps.c3 (show Kd.M k24 _ _ _ home [.int .i64 0, .int .i64 0, .int .i64 0] from (k24_mkM _ _ _ home)) (Reps.none _ _))); intro v4 w4 ho hbw hg_ hnew_; have HO4 := Aside0.mk (Kd.R_lower ho HB3.out.size); have HB4 := Aside0.mk (below_step HB3.out hbw); have HL4 := Aside0.mk (blk_below HL3.out hbw); have HM4 := Aside0.mk (HM3.out.below hbw); clear ho hbw hg_ hnew_)))
  have HS4 : Aside0 (DS w a b gm gl w4.heap.size v4 [home] (fun _ => True) (.slice none 0 0) ([(home, 0)], []) w4) := ⟨InvB.start (inv_home HA.out.1), by have := HM4.out; rwa [show mgv [(home, 0)] = (fun q => if q = home then some (Value.int .i64 0) else none) from by have := mgv_snoc [] home 0 (by simp [mget]); simpa [mgv, mget] using this], Kd.R_mono (Kd.R_bound HO4.out) (fun k hk => hk.2.2.1), Kd.R_nil _ _ _ _ _, HL4.out, HB4.out, HGM.out, Nat.le_refl _⟩
  clear HB HL HB1 HL2 HB2 HM2 HM3 HL3 HB3 HO4 HB4 HL4 HM4
  go_loopg [4, 5] 41 (fun gg v4 v5 w' => ∃ (n : Int) (M : List (S24 × Int)) (ring : List S24), v5 = .int .i64 n ∧ Aside0 (1 ≤ n ∧ n ≤ 41 ∧ (41 - n).toNat ≤ gg) ∧ Aside0 (levelsD a b (41 - n).toNat n M ring = D) ∧ Aside0 (∀ c ∈ ring, insS a c = true) ∧ Aside0 (DS w a b gm gl w'.heap.size v4 ring (fun _ => True) (.slice none 0 0) (M, []) w'))
  case atStart => exact ⟨1, [(home, 0)], [home], rfl, ⟨by omega, by omega, by omega⟩, ⟨HD.out.symm⟩, ⟨fun c hc => by simp only [List.mem_singleton] at hc; rw [hc]; have := HA.out; exact insS_iff.2 ⟨by decide, by decide, by show -a ≤ 0 ∧ 0 ≤ a; omega⟩⟩, HS4⟩
  case round =>
    clear HS4
    obtain ⟨n, M, ring, rfl, HN, HL, HR, HS⟩ := hrel
    obtain ⟨A4, c4, e4⟩ := Kd.R_slice HS.out.old
    subst e4
    by_cases hn : n ≤ 40
    · obtain ⟨S, hS⟩ : ∃ S, S = ringD a b n ring (M, []) := ⟨_, rfl⟩
      have HRS := Aside0.mk hS
      have hn1 := HN.out
      have e1 : (41 - n).toNat = (41 - (n + 1)).toNat + 1 := by omega
      have HL2 : Aside0 (levelsD a b (41 - (n + 1)).toNat (n + 1) S.1 S.2 = D) := ⟨by have := HL.out; rw [e1] at this; rw [hS]; exact this⟩
      clear hS e1 hn1 HL
      have hlr : (ring.length : Int) ≤ 9223372036854775807 := by have := (Kd.R_reads' HS.out.old).2.2.2.1; omega
      go_wp2_with (first
        | ((with_reducible refine gate_dst (N := 24) rfl ?_); go_loud (refine Kd.R_lit k24 (w0 := wr) wr.heap.size 24 ?hg (N := 24) ?hd (xs := ([] : List S24)) (inner := []) (ok := fun k => wr.heap.size ≤ k ∧ True) (okp := fun _ => False) ?hr ?hp (fun _ hk => hk.elim) ⟨Nat.le_refl _, trivial⟩ (Below.refl _ _) (Nat.le_refl _) (by simp) ?_; (case hd => rfl); (case hg => rfl); (case hr => first | (go_simp; done) | (go_simp; rfl)); (case hp => exact Reps.none _ _); intro v6 w5 ho hbw hg_ hnew_; have HS5 := Aside0.mk (Kd.R_lower ho HS.out.size); have hbw5 := Aside0.mk hbw; clear ho hbw hg_ hnew_)))
      have HS6 : Aside0 (DS w a b gm gl wr.heap.size (.slice A4 ring.length c4) ring (fun _ => True) v6 (M, []) w5) := ⟨HS.out.inv, HS.out.map.below hbw5.out, Kd.R_below HS.out.old hbw5.out, HS5.out, blk_below HS.out.box hbw5.out, below_step HS.out.made hbw5.out, HGM.out, hbw5.out.size⟩
      clear HS HS5 hbw5
      generalize wr.heap.size = B4 at HS6
      go_loopg [6, 27] ring.length (fun gg v6 v27 w' => ∃ (i : Int) (M1 : List (S24 × Int)) (bf : List S24), v27 = .int .i64 i ∧ Aside0 (0 ≤ i ∧ i ≤ ring.length ∧ ring.length - i.toNat ≤ gg) ∧ Aside0 (ringD a b n (ring.drop i.toNat) (M1, bf) = S) ∧ Aside0 (DS w a b gm gl B4 (.slice A4 ring.length c4) ring (fun _ => True) v6 (M1, bf) w'))
      case atStart => exact ⟨0, M, [], rfl, ⟨by omega, by omega, by simp⟩, ⟨by rw [HRS.out]; rfl⟩, HS6⟩
      case round =>
        clear HS6
        obtain ⟨i, M1, bf, rfl, HI, HRD, HS⟩ := hrel
        by_cases hi : i < (ring.length : Int)
        · have hi0 : 0 ≤ i := HI.out.1
          obtain ⟨ad, e4, hx0, hx1, hx2⟩ := at_T24 (Kd.R_reads' HS.out.old).2.2 i hi0 hi
          cases e4
          have hstep := ringD_at a b n ring i hi0 hi (M1, bf)
          have hc : insS a (rd_T24 ring i) = true := by
            have hl : i.toNat < ring.length := by omega
            have e2 : rd_T24 ring i = ring[i.toNat] := by simp [rd_T24, hl]
            rw [e2]
            exact HR.out _ (List.getElem_mem _)
          generalize rd_T24 ring i = c at hx0 hx1 hx2 hstep hc
          obtain ⟨c0, c1, c2⟩ := c
          obtain ⟨S3, hS3⟩ : ∃ S3, S3 = innerD a b n ⟨c0, c1, c2⟩ (2 * a + 1).toNat (-a) (M1, bf) := ⟨_, rfl⟩
          rw [HRD.out, ← hS3] at hstep
          have HSTEP := Aside0.mk hstep
          have HS3 := Aside0.mk hS3
          have HC := Aside0.mk hc
          have hwa : wrap64 (-a) = -a := dw64 (by have := HA.out; omega)
          clear hstep hS3 hc
          go_wp2_with (first
            | ((with_reducible refine gate_dst (N := 31) rfl ?_); (with_reducible refine gen_alloc ?_); go_loud (intro w5 hbox hbw; have HC5 := Aside0.mk hbox; have HS5 := Aside0.mk ((HS.out.elder wr.heap.size (Nat.le_refl _)).below hbw); clear hbox hbw; have hl50 : w5.cell? ⟨gl, 0, none⟩ = some (.int .i64 a) := (blk_cell HS5.out.box 0).trans rfl)))
          clear HS
          generalize wr.heap.size = gc at HC5 HS5 ⊢
          clear hl50 hx0 hx1 hx2 
          go_loopg [6, 9] (2 * a + 1).toNat (fun gg v6 v9 w' => ∃ (u : Int) (M2 : List (S24 × Int)) (bf2 : List S24), v9 = .int .i64 u ∧ Aside0 (-a ≤ u ∧ u ≤ a + 1 ∧ (a + 1 - u).toNat ≤ gg) ∧ Aside0 (innerD a b n ⟨c0, c1, c2⟩ (a + 1 - u).toNat u (M2, bf2) = S3) ∧ Aside0 (w'.heap[gc]? = some (.cells #[.int .i64 c0, .int .i64 c1, .int .i64 c2] 24 (0, 0))) ∧ Aside0 (DS w a b gm gl B4 (.slice (some ad) ring.length c4) ring (fun k => k ≠ gc) v6 (M2, bf2) w'))
          case atStart => exact ⟨-a, M1, bf, rfl, ⟨by have := HA.out; omega, by have := HA.out; omega, by omega⟩, ⟨by rw [HS3.out, show (a + 1 - -a).toNat = (2 * a + 1).toNat from by omega]⟩, HC5, HS5⟩
          case round =>
            clear HS5 HC5
            obtain ⟨u, M2, bf2, rfl, HU, HIN, HK, HS⟩ := hrel
            have hl0 : wr.cell? ⟨gl, 0, none⟩ = some (.int .i64 a) := (blk_cell HS.out.box 0).trans rfl
            have hl1 : wr.cell? ⟨gl, 1, none⟩ = some (.int .i64 b) := (blk_cell HS.out.box 1).trans rfl
            by_cases hu : u ≤ a
            · have hc0 : wr.cell? ⟨gc, 0, none⟩ = some (.int .i64 c0) := (blk_cell HK.out 0).trans rfl
              have hc1 : wr.cell? ⟨gc, 1, none⟩ = some (.int .i64 c1) := (blk_cell HK.out 1).trans rfl
              have hc2 : wr.cell? ⟨gc, 2, none⟩ = some (.int .i64 c2) := (blk_cell HK.out 2).trans rfl
              have hu0 : -a ≤ u := HU.out.1
              obtain ⟨x, y, z, ok, hnx, hok, hxyz⟩ := dnext HA.out HBb.out HC.out ⟨hu0, hu⟩
              obtain ⟨k0, k1, k2⟩ := insS_iff.1 HC.out
              obtain ⟨p1, hp1⟩ : ∃ p1 : Int, p1 = c1 - c2 := ⟨_, rfl⟩
              obtain ⟨p0, hp0⟩ : ∃ p0 : Int, p0 = c0 - p1 := ⟨_, rfl⟩
              have hprev : prevOf ⟨c0, c1, c2⟩ u = ⟨p0, p1, u⟩ := by unfold prevOf; rw [hp0, hp1]
              rw [hprev] at hnx
              have HNX := Aside0.mk hnx
              have HPR := Aside0.mk hprev
              have hw1 : wrap64 (c1 - c2) = p1 := by rw [hp1]; exact dw64 (by have := HA.out; simp only at k0 k1 k2; omega)
              have hw0 : wrap64 (c0 - p1) = p0 := by rw [hp0, hp1]; exact dw64 (by have := HA.out; simp only at k0 k1 k2; omega)
              have hst := HIN.out
              rw [show (a + 1 - u).toNat = (a + 1 - (u + 1)).toNat + 1 from by omega] at hst
              have hst : innerD a b n ⟨c0, c1, c2⟩ (a + 1 - (u + 1)).toNat (u + 1) (stepD a b n ⟨c0, c1, c2⟩ (M2, bf2) u) = S3 := hst
              unfold stepD fitP at hst
              rw [hprev] at hst
              simp only [] at hok
              rw [← hok] at hst
              have HST := Aside0.mk hst
              have HOK := Aside0.mk hok
              have HXY := Aside0.mk hxyz
              have hw2 : wrap64 (u + 1) = u + 1 := dw64 (by have := HA.out; omega)
              clear hnx hst hok hxyz hprev k0 k1 k2 hp0 hp1
              cases hin : insS a ⟨p0, p1, u⟩ with
              | false =>
                have hst := HST.out
                rw [hin, Bool.false_and, if_neg (by decide)] at hst
                go_wp2_with (first
                | ((with_reducible refine gate_dst (N := 56) rfl ?_); (with_reducible refine gen_alloc ?_); go_loud (intro w6 hbox hbw; have HO6 := Aside0.mk hbox; have HB6 := Aside0.mk hbw; clear hbox hbw; have hl60 : w6.cell? ⟨gl, 0, none⟩ = some (.int .i64 a) := (blk_cell (blk_below HS.out.box HB6.out) 0).trans rfl; have hl61 : w6.cell? ⟨gl, 1, none⟩ = some (.int .i64 b) := (blk_cell (blk_below HS.out.box HB6.out) 1).trans rfl; have hc62 : w6.cell? ⟨gc, 2, none⟩ = some (.int .i64 c2) := (blk_cell (blk_below HK.out HB6.out) 2).trans rfl; have ho60 : w6.cell? ⟨wr.heap.size, 0, none⟩ = some (.int .i64 p0) := (blk_cell HO6.out 0).trans rfl; have ho61 : w6.cell? ⟨wr.heap.size, 1, none⟩ = some (.int .i64 p1) := (blk_cell HO6.out 1).trans rfl; have ho62 : w6.cell? ⟨wr.heap.size, 2, none⟩ = some (.int .i64 u) := (blk_cell HO6.out 2).trans rfl))
                | (go_at_call 55; go_loud ((with_reducible refine (impl_Limits_next.calls 1 a b p0 p1 u c2 x y z ok _ HNX.out).mono ?_); rintro e w7 ⟨rfl, hb7⟩; have HB7 := Aside0.mk (below_step HB6.out hb7); have HO7 := Aside0.mk (blk_below HO6.out hb7); clear hb7))
                | ((with_reducible refine gate_dst (N := 63) rfl ?_); (with_reducible refine gen_alloc ?_); go_loud (intro w8 hbox hbw; have HX8 := Aside0.mk hbox; have HB8 := Aside0.mk (below_step HB7.out hbw); have HO8 := Aside0.mk (blk_below HO7.out hbw); clear hbox hbw; have hl80 : w8.cell? ⟨gl, 0, none⟩ = some (.int .i64 a) := (blk_cell (blk_below HS.out.box HB8.out) 0).trans rfl; have hl81 : w8.cell? ⟨gl, 1, none⟩ = some (.int .i64 b) := (blk_cell (blk_below HS.out.box HB8.out) 1).trans rfl; have ho80 : w8.cell? ⟨wr.heap.size, 0, none⟩ = some (.int .i64 p0) := (blk_cell HO8.out 0).trans rfl; have ho81 : w8.cell? ⟨wr.heap.size, 1, none⟩ = some (.int .i64 p1) := (blk_cell HO8.out 1).trans rfl; have ho82 : w8.cell? ⟨wr.heap.size, 2, none⟩ = some (.int .i64 u) := (blk_cell HO8.out 2).trans rfl))
                | (go_at_call 70; go_loud ((with_reducible refine (impl_Limits_isCourse.calls a b p0 p1 u _ _ (dcourse HA.out p0 p1 u)).mono ?_); rintro e w9 ⟨rfl, hb9⟩; have HB9 := Aside0.mk (below_step HB8.out hb9); have HO9 := Aside0.mk (blk_below HO8.out hb9); have HX9 := Aside0.mk (blk_below HX8.out hb9); clear hb9; have hc90 : w9.cell? ⟨gc, 0, none⟩ = some (.int .i64 c0) := (blk_cell (blk_below HK.out HB9.out) 0).trans rfl; have hc91 : w9.cell? ⟨gc, 1, none⟩ = some (.int .i64 c1) := (blk_cell (blk_below HK.out HB9.out) 1).trans rfl; have hc92 : w9.cell? ⟨gc, 2, none⟩ = some (.int .i64 c2) := (blk_cell (blk_below HK.out HB9.out) 2).trans rfl; have ho90 : w9.cell? ⟨wr.heap.size, 0, none⟩ = some (.int .i64 p0) := (blk_cell HO9.out 0).trans rfl; have ho91 : w9.cell? ⟨wr.heap.size, 1, none⟩ = some (.int .i64 p1) := (blk_cell HO9.out 1).trans rfl; have ho92 : w9.cell? ⟨wr.heap.size, 2, none⟩ = some (.int .i64 u) := (blk_cell HO9.out 2).trans rfl; have hx90 : w9.cell? ⟨w7.heap.size, 0, none⟩ = some (.int .i64 x) := (blk_cell HX9.out 0).trans rfl; have hx91 : w9.cell? ⟨w7.heap.size, 1, none⟩ = some (.int .i64 y) := (blk_cell HX9.out 1).trans rfl; have hx92 : w9.cell? ⟨w7.heap.size, 2, none⟩ = some (.int .i64 z) := (blk_cell HX9.out 2).trans rfl)))
                go_roundg (a - u).toNat
                case measure => have := HU.out; omega
                case rel => exact ⟨u + 1, M2, bf2, by first | rfl | rw [hw2], ⟨by omega, by omega, by omega⟩, ⟨hst⟩, ⟨blk_below HK.out HB9.out⟩, ⟨HS.out.below HB9.out⟩⟩
              | true =>
                have HIN2 := Aside0.mk hin
                cases ok with
                | false =>
                  have hst := HST.out
                  rw [hin, Bool.true_and, if_neg (by decide)] at hst
                  go_wp2_with (first
                | ((with_reducible refine gate_dst (N := 56) rfl ?_); (with_reducible refine gen_alloc ?_); go_loud (intro w6 hbox hbw; have HO6 := Aside0.mk hbox; have HB6 := Aside0.mk hbw; clear hbox hbw; have hl60 : w6.cell? ⟨gl, 0, none⟩ = some (.int .i64 a) := (blk_cell (blk_below HS.out.box HB6.out) 0).trans rfl; have hl61 : w6.cell? ⟨gl, 1, none⟩ = some (.int .i64 b) := (blk_cell (blk_below HS.out.box HB6.out) 1).trans rfl; have hc62 : w6.cell? ⟨gc, 2, none⟩ = some (.int .i64 c2) := (blk_cell (blk_below HK.out HB6.out) 2).trans rfl; have ho60 : w6.cell? ⟨wr.heap.size, 0, none⟩ = some (.int .i64 p0) := (blk_cell HO6.out 0).trans rfl; have ho61 : w6.cell? ⟨wr.heap.size, 1, none⟩ = some (.int .i64 p1) := (blk_cell HO6.out 1).trans rfl; have ho62 : w6.cell? ⟨wr.heap.size, 2, none⟩ = some (.int .i64 u) := (blk_cell HO6.out 2).trans rfl))
                | (go_at_call 55; go_loud ((with_reducible refine (impl_Limits_next.calls 1 a b p0 p1 u c2 x y z false _ HNX.out).mono ?_); rintro e w7 ⟨rfl, hb7⟩; have HB7 := Aside0.mk (below_step HB6.out hb7); have HO7 := Aside0.mk (blk_below HO6.out hb7); clear hb7))
                | ((with_reducible refine gate_dst (N := 63) rfl ?_); (with_reducible refine gen_alloc ?_); go_loud (intro w8 hbox hbw; have HX8 := Aside0.mk hbox; have HB8 := Aside0.mk (below_step HB7.out hbw); have HO8 := Aside0.mk (blk_below HO7.out hbw); clear hbox hbw; have hl80 : w8.cell? ⟨gl, 0, none⟩ = some (.int .i64 a) := (blk_cell (blk_below HS.out.box HB8.out) 0).trans rfl; have hl81 : w8.cell? ⟨gl, 1, none⟩ = some (.int .i64 b) := (blk_cell (blk_below HS.out.box HB8.out) 1).trans rfl; have ho80 : w8.cell? ⟨wr.heap.size, 0, none⟩ = some (.int .i64 p0) := (blk_cell HO8.out 0).trans rfl; have ho81 : w8.cell? ⟨wr.heap.size, 1, none⟩ = some (.int .i64 p1) := (blk_cell HO8.out 1).trans rfl; have ho82 : w8.cell? ⟨wr.heap.size, 2, none⟩ = some (.int .i64 u) := (blk_cell HO8.out 2).trans rfl))
                | (go_at_call 70; go_loud ((with_reducible refine (impl_Limits_isCourse.calls a b p0 p1 u _ _ (dcourse HA.out p0 p1 u)).mono ?_); rintro e w9 ⟨rfl, hb9⟩; have HB9 := Aside0.mk (below_step HB8.out hb9); have HO9 := Aside0.mk (blk_below HO8.out hb9); have HX9 := Aside0.mk (blk_below HX8.out hb9); clear hb9; have hc90 : w9.cell? ⟨gc, 0, none⟩ = some (.int .i64 c0) := (blk_cell (blk_below HK.out HB9.out) 0).trans rfl; have hc91 : w9.cell? ⟨gc, 1, none⟩ = some (.int .i64 c1) := (blk_cell (blk_below HK.out HB9.out) 1).trans rfl; have hc92 : w9.cell? ⟨gc, 2, none⟩ = some (.int .i64 c2) := (blk_cell (blk_below HK.out HB9.out) 2).trans rfl; have ho90 : w9.cell? ⟨wr.heap.size, 0, none⟩ = some (.int .i64 p0) := (blk_cell HO9.out 0).trans rfl; have ho91 : w9.cell? ⟨wr.heap.size, 1, none⟩ = some (.int .i64 p1) := (blk_cell HO9.out 1).trans rfl; have ho92 : w9.cell? ⟨wr.heap.size, 2, none⟩ = some (.int .i64 u) := (blk_cell HO9.out 2).trans rfl; have hx90 : w9.cell? ⟨w7.heap.size, 0, none⟩ = some (.int .i64 x) := (blk_cell HX9.out 0).trans rfl; have hx91 : w9.cell? ⟨w7.heap.size, 1, none⟩ = some (.int .i64 y) := (blk_cell HX9.out 1).trans rfl; have hx92 : w9.cell? ⟨w7.heap.size, 2, none⟩ = some (.int .i64 z) := (blk_cell HX9.out 2).trans rfl)))
                  go_roundg (a - u).toNat
                  case measure => have := HU.out; omega
                  case rel => exact ⟨u + 1, M2, bf2, by first | rfl | rw [hw2], ⟨by omega, by omega, by omega⟩, ⟨hst⟩, ⟨blk_below HK.out HB9.out⟩, ⟨HS.out.below HB9.out⟩⟩
                | true =>
                  obtain ⟨e0, e1, e2⟩ := HXY.out rfl
                  simp only at e0 e1 e2
                  rw [e0, e1, e2] at HNX
                  have hst := HST.out
                  rw [hin, Bool.true_and, if_pos rfl] at hst
                  obtain ⟨j0, j1, j2⟩ := insS_iff.1 hin
                  obtain ⟨kl, hkl⟩ := keyC ⟨p0, p1, u⟩ (wf64 (by simp only at j0 ⊢; omega)) (wf64 (by simp only at j1 ⊢; omega)) (wf64 (by have := HA.out; simp only at j2 ⊢; omega))
                  have HKL := Aside0.mk hkl
                  clear e0 e1 e2 hkl j0 j1 j2
                  cases hg : mget M2 ⟨p0, p1, u⟩ with
                  | some nn =>
                    have HG : Aside0 (mgv M2 ⟨p0, p1, u⟩ = some (.int .i64 nn)) := ⟨by unfold mgv; rw [hg]; rfl⟩
                    simp only [hg, Option.isSome, if_true] at hst
                    have HST2 := Aside0.mk hst
                    clear hst
                    go_wp2_with (first
                | ((with_reducible refine gate_dst (N := 56) rfl ?_); (with_reducible refine gen_alloc ?_); go_loud (intro w6 hbox hbw; have HO6 := Aside0.mk hbox; have HB6 := Aside0.mk hbw; clear hbox hbw; have hl60 : w6.cell? ⟨gl, 0, none⟩ = some (.int .i64 a) := (blk_cell (blk_below HS.out.box HB6.out) 0).trans rfl; have hl61 : w6.cell? ⟨gl, 1, none⟩ = some (.int .i64 b) := (blk_cell (blk_below HS.out.box HB6.out) 1).trans rfl; have hc62 : w6.cell? ⟨gc, 2, none⟩ = some (.int .i64 c2) := (blk_cell (blk_below HK.out HB6.out) 2).trans rfl; have ho60 : w6.cell? ⟨wr.heap.size, 0, none⟩ = some (.int .i64 p0) := (blk_cell HO6.out 0).trans rfl; have ho61 : w6.cell? ⟨wr.heap.size, 1, none⟩ = some (.int .i64 p1) := (blk_cell HO6.out 1).trans rfl; have ho62 : w6.cell? ⟨wr.heap.size, 2, none⟩ = some (.int .i64 u) := (blk_cell HO6.out 2).trans rfl))
                | (go_at_call 55; go_loud ((with_reducible refine (impl_Limits_next.calls 1 a b p0 p1 u c2 c0 c1 c2 true _ HNX.out).mono ?_); rintro e w7 ⟨rfl, hb7⟩; have HB7 := Aside0.mk (below_step HB6.out hb7); have HO7 := Aside0.mk (blk_below HO6.out hb7); clear hb7))
                | ((with_reducible refine gate_dst (N := 63) rfl ?_); (with_reducible refine gen_alloc ?_); go_loud (intro w8 hbox hbw; have HX8 := Aside0.mk hbox; have HB8 := Aside0.mk (below_step HB7.out hbw); have HO8 := Aside0.mk (blk_below HO7.out hbw); clear hbox hbw; have hl80 : w8.cell? ⟨gl, 0, none⟩ = some (.int .i64 a) := (blk_cell (blk_below HS.out.box HB8.out) 0).trans rfl; have hl81 : w8.cell? ⟨gl, 1, none⟩ = some (.int .i64 b) := (blk_cell (blk_below HS.out.box HB8.out) 1).trans rfl; have ho80 : w8.cell? ⟨wr.heap.size, 0, none⟩ = some (.int .i64 p0) := (blk_cell HO8.out 0).trans rfl; have ho81 : w8.cell? ⟨wr.heap.size, 1, none⟩ = some (.int .i64 p1) := (blk_cell HO8.out 1).trans rfl; have ho82 : w8.cell? ⟨wr.heap.size, 2, none⟩ = some (.int .i64 u) := (blk_cell HO8.out 2).trans rfl))
                | (go_at_call 70; go_loud ((with_reducible refine (impl_Limits_isCourse.calls a b p0 p1 u _ _ (dcourse HA.out p0 p1 u)).mono ?_); rintro e w9 ⟨rfl, hb9⟩; have HB9 := Aside0.mk (below_step HB8.out hb9); have HO9 := Aside0.mk (blk_below HO8.out hb9); have HX9 := Aside0.mk (blk_below HX8.out hb9); clear hb9; have hc90 : w9.cell? ⟨gc, 0, none⟩ = some (.int .i64 c0) := (blk_cell (blk_below HK.out HB9.out) 0).trans rfl; have hc91 : w9.cell? ⟨gc, 1, none⟩ = some (.int .i64 c1) := (blk_cell (blk_below HK.out HB9.out) 1).trans rfl; have hc92 : w9.cell? ⟨gc, 2, none⟩ = some (.int .i64 c2) := (blk_cell (blk_below HK.out HB9.out) 2).trans rfl; have ho90 : w9.cell? ⟨wr.heap.size, 0, none⟩ = some (.int .i64 p0) := (blk_cell HO9.out 0).trans rfl; have ho91 : w9.cell? ⟨wr.heap.size, 1, none⟩ = some (.int .i64 p1) := (blk_cell HO9.out 1).trans rfl; have ho92 : w9.cell? ⟨wr.heap.size, 2, none⟩ = some (.int .i64 u) := (blk_cell HO9.out 2).trans rfl; have hx90 : w9.cell? ⟨w7.heap.size, 0, none⟩ = some (.int .i64 c0) := (blk_cell HX9.out 0).trans rfl; have hx91 : w9.cell? ⟨w7.heap.size, 1, none⟩ = some (.int .i64 c1) := (blk_cell HX9.out 1).trans rfl; have hx92 : w9.cell? ⟨w7.heap.size, 2, none⟩ = some (.int .i64 c2) := (blk_cell HX9.out 2).trans rfl))
                    | (at_lookup; go_loud (refine wpList_look (x := (⟨p0, p1, u⟩ : S24)) true rfl _ _ rfl keyedC hu80 (by rfl) rfl (HS.out.map.below HB9.out) rfl HKL.out ?_; rw [HG.out]; simp only [Option.getD, Option.isSome, if_true])))
                    have hst := HST2.out
                    go_roundg (a - u).toNat
                    case measure => have := HU.out; omega
                    case rel => exact ⟨u + 1, M2, bf2, by first | rfl | rw [hw2], ⟨by omega, by omega, by omega⟩, ⟨hst⟩, ⟨blk_below HK.out HB9.out⟩, ⟨HS.out.below HB9.out⟩⟩
                  | none =>
                    have HG : Aside0 (mgv M2 ⟨p0, p1, u⟩ = none) := ⟨by unfold mgv; rw [hg]; rfl⟩
                    have HNO : Aside0 (¬ (mget M2 ⟨p0, p1, u⟩).isSome = true) := ⟨by rw [hg]; decide⟩
                    rw [if_neg HNO.out] at hst
                    have HST2 := Aside0.mk hst
                    clear hst hg
                    go_wp2_with (first
                | ((with_reducible refine gate_dst (N := 56) rfl ?_); (with_reducible refine gen_alloc ?_); go_loud (intro w6 hbox hbw; have HO6 := Aside0.mk hbox; have HB6 := Aside0.mk hbw; clear hbox hbw; have hl60 : w6.cell? ⟨gl, 0, none⟩ = some (.int .i64 a) := (blk_cell (blk_below HS.out.box HB6.out) 0).trans rfl; have hl61 : w6.cell? ⟨gl, 1, none⟩ = some (.int .i64 b) := (blk_cell (blk_below HS.out.box HB6.out) 1).trans rfl; have hc62 : w6.cell? ⟨gc, 2, none⟩ = some (.int .i64 c2) := (blk_cell (blk_below HK.out HB6.out) 2).trans rfl; have ho60 : w6.cell? ⟨wr.heap.size, 0, none⟩ = some (.int .i64 p0) := (blk_cell HO6.out 0).trans rfl; have ho61 : w6.cell? ⟨wr.heap.size, 1, none⟩ = some (.int .i64 p1) := (blk_cell HO6.out 1).trans rfl; have ho62 : w6.cell? ⟨wr.heap.size, 2, none⟩ = some (.int .i64 u) := (blk_cell HO6.out 2).trans rfl))
                | (go_at_call 55; go_loud ((with_reducible refine (impl_Limits_next.calls 1 a b p0 p1 u c2 c0 c1 c2 true _ HNX.out).mono ?_); rintro e w7 ⟨rfl, hb7⟩; have HB7 := Aside0.mk (below_step HB6.out hb7); have HO7 := Aside0.mk (blk_below HO6.out hb7); clear hb7))
                | ((with_reducible refine gate_dst (N := 63) rfl ?_); (with_reducible refine gen_alloc ?_); go_loud (intro w8 hbox hbw; have HX8 := Aside0.mk hbox; have HB8 := Aside0.mk (below_step HB7.out hbw); have HO8 := Aside0.mk (blk_below HO7.out hbw); clear hbox hbw; have hl80 : w8.cell? ⟨gl, 0, none⟩ = some (.int .i64 a) := (blk_cell (blk_below HS.out.box HB8.out) 0).trans rfl; have hl81 : w8.cell? ⟨gl, 1, none⟩ = some (.int .i64 b) := (blk_cell (blk_below HS.out.box HB8.out) 1).trans rfl; have ho80 : w8.cell? ⟨wr.heap.size, 0, none⟩ = some (.int .i64 p0) := (blk_cell HO8.out 0).trans rfl; have ho81 : w8.cell? ⟨wr.heap.size, 1, none⟩ = some (.int .i64 p1) := (blk_cell HO8.out 1).trans rfl; have ho82 : w8.cell? ⟨wr.heap.size, 2, none⟩ = some (.int .i64 u) := (blk_cell HO8.out 2).trans rfl))
                | (go_at_call 70; go_loud ((with_reducible refine (impl_Limits_isCourse.calls a b p0 p1 u _ _ (dcourse HA.out p0 p1 u)).mono ?_); rintro e w9 ⟨rfl, hb9⟩; have HB9 := Aside0.mk (below_step HB8.out hb9); have HO9 := Aside0.mk (blk_below HO8.out hb9); have HX9 := Aside0.mk (blk_below HX8.out hb9); clear hb9; have hc90 : w9.cell? ⟨gc, 0, none⟩ = some (.int .i64 c0) := (blk_cell (blk_below HK.out HB9.out) 0).trans rfl; have hc91 : w9.cell? ⟨gc, 1, none⟩ = some (.int .i64 c1) := (blk_cell (blk_below HK.out HB9.out) 1).trans rfl; have hc92 : w9.cell? ⟨gc, 2, none⟩ = some (.int .i64 c2) := (blk_cell (blk_below HK.out HB9.out) 2).trans rfl; have ho90 : w9.cell? ⟨wr.heap.size, 0, none⟩ = some (.int .i64 p0) := (blk_cell HO9.out 0).trans rfl; have ho91 : w9.cell? ⟨wr.heap.size, 1, none⟩ = some (.int .i64 p1) := (blk_cell HO9.out 1).trans rfl; have ho92 : w9.cell? ⟨wr.heap.size, 2, none⟩ = some (.int .i64 u) := (blk_cell HO9.out 2).trans rfl; have hx90 : w9.cell? ⟨w7.heap.size, 0, none⟩ = some (.int .i64 c0) := (blk_cell HX9.out 0).trans rfl; have hx91 : w9.cell? ⟨w7.heap.size, 1, none⟩ = some (.int .i64 c1) := (blk_cell HX9.out 1).trans rfl; have hx92 : w9.cell? ⟨w7.heap.size, 2, none⟩ = some (.int .i64 c2) := (blk_cell HX9.out 2).trans rfl))
                    | (at_lookup; go_loud (refine wpList_look (x := (⟨p0, p1, u⟩ : S24)) true rfl _ _ rfl keyedC hu80 (by rfl) rfl (HS.out.map.below HB9.out) rfl HKL.out ?_; rw [HG.out]; simp only [Option.getD, Option.isSome, if_true]))
                    | ((with_reducible refine gate_upd rfl ?_); go_loud (refine wpList_put (x := (⟨p0, p1, u⟩ : S24)) rfl _ _ _ rfl keyedC valS_inj hu80 ?len rfl (HS.out.map.below HB9.out) rfl HKL.out ?_; (case len => exact Nat.lt_of_le_of_lt (HS.out.inv.1.short HA.out.2) (by decide)); intro w10 hm hgr; have HS10 := Aside0.mk ((HS.out.below HB9.out).put (c := ⟨p0, p1, u⟩) (n := n) HNO.out HIN2.out hgr hm); have HO10 := Aside0.mk (blk_grown HO9.out hgr (fun he => by injection he with he; exact (HS.out.map.below HB9.out).ne HO9.out he.symm)); have HK10 := Aside0.mk (blk_grown (blk_below HK.out HB9.out) hgr (fun he => by injection he with he; exact (HS.out.map.below HB9.out).ne (blk_below HK.out HB9.out) he.symm)); clear hm hgr; have ho100 : w10.cell? ⟨wr.heap.size, 0, none⟩ = some (.int .i64 p0) := (blk_cell HO10.out 0).trans rfl; have ho101 : w10.cell? ⟨wr.heap.size, 1, none⟩ = some (.int .i64 p1) := (blk_cell HO10.out 1).trans rfl; have ho102 : w10.cell? ⟨wr.heap.size, 2, none⟩ = some (.int .i64 u) := (blk_cell HO10.out 2).trans rfl))
                    | ((with_reducible refine gate_builtin (b := .append) (xs := #[.tmp 87, .tmp 89]) rfl ?_); at_builtin; go_loud (refine Kd.R_append k24 (w0 := w) w.heap.size rfl (.tmp 87) (.tmp 89) 49 24 (.agg #[(.int .i64 0), (.int .i64 0), (.int .i64 0)]) 24 rfl hu49 info24 rfl (by decide) (by omega) u6 bf2 (⟨p0, p1, u⟩ : S24) [.int .i64 p0, .int .i64 p1, .int .i64 u] (fun k => B4 ≤ k ∧ k ≠ gc) (fun _ => False) rfl rfl ?aP (fun _ hk => hk.elim) ?aF ?aO ?aB ?aS ?aL ?_; (case aP => exact k24_mkM _ _ _ (⟨p0, p1, u⟩ : S24)); (case aB => exact HS10.out.made); (case aF => exact (fun k hk => ⟨Nat.le_trans HS10.out.lim hk, by have := blk_lt HK10.out; omega⟩)); (case aO => exact HS10.out.new); (case aS => exact HS10.out.size); (case aL => have h1 : M2.length ≤ 11907 := HS.out.inv.1.short HA.out.2; have h2 : bf2.length ≤ M2.length := HS.out.inv.2.1; omega); intro v11 w11 ho hb hg hat; have HK11 := Aside0.mk (blk_grown HK10.out hg (Kd.R_away HS10.out.new (fun _ hk => hk.2))); have HS11 := Aside0.mk (HS10.out.app (c := ⟨p0, p1, u⟩) (by have h2 : bf2.length ≤ M2.length := HS.out.inv.2.1; simp only [List.length_append, List.length_cons, List.length_nil]; omega) HIN2.out hg hb ho); clear ho hb hg hat)))
                    go_roundg (a - u).toNat
                    case measure => have := HU.out; omega
                    case rel => exact ⟨u + 1, M2 ++ [(⟨p0, p1, u⟩, n)], bf2 ++ [⟨p0, p1, u⟩], by first | rfl | rw [hw2], ⟨by omega, by omega, by omega⟩, HST2, HK11, HS11⟩
            · have eu : u = a + 1 := by have := HU.out; omega
              subst eu
              have hst := HIN.out
              rw [show (a + 1 - (a + 1)).toNat = 0 from by omega] at hst
              have hst : (M2, bf2) = S3 := hst
              have HST := Aside0.mk hst
              clear hst
              have hwi : wrap64 (i + 1) = i + 1 := dw64 (by omega)
              go_wp2
              go_roundg (ring.length - (i + 1).toNat)
              case measure => have := HI.out; omega
              case rel => exact ⟨i + 1, M2, bf2, by first | rfl | rw [hwi], ⟨by omega, by omega, by omega⟩, ⟨by rw [HST.out]; exact HSTEP.out.symm⟩, ⟨HS.out.mono (fun _ _ => trivial)⟩⟩
        · have ei : ring.drop i.toNat = [] := List.drop_eq_nil_of_le (by have := HI.out; omega)
          have hst := HRD.out
          rw [ei] at hst
          have hst : (M1, bf) = S := hst
          have HST := Aside0.mk hst
          clear hst ei
          have hwn : wrap64 (n + 1) = n + 1 := dw64 (by have := HN.out; omega)
          go_wp2
          go_roundg (41 - (n + 1)).toNat
          case measure => have := HN.out; omega
          case rel => exact ⟨n + 1, M1, bf, by first | rfl | rw [hwn], ⟨by have := HN.out; omega, by omega, by omega⟩, ⟨by have := HL2.out; rw [← HST.out] at this; exact this⟩, ⟨HS.out.inv.2.2⟩, ⟨⟨InvB.start HS.out.inv.1, HS.out.map, Kd.R_mono (Kd.R_bound HS.out.new) (fun k hk => hk.2.2.1), Kd.R_nil _ _ _ _ _, HS.out.box, HS.out.made, HS.out.gml, Nat.le_refl _⟩⟩⟩
    · have en : n = 41 := by have := HN.out; omega
      subst en
      have HM : Aside0 (M = D) := ⟨HL.out⟩
      go_wp2
      rw [HF.out]
      exact ⟨gm, rfl, HGM.out, by rw [← HD.out, ← HM.out]; exact HS.out.map, HS.out.made⟩

end Go.Proofs.Ytibmehephlngfaa.Q
