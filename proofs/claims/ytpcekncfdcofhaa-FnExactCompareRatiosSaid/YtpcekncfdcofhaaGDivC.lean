/- A contract by hand for impl.divMag: the way of two digits by two. -/
import Derived.Test.YtpcekncfdcofhaaQ0
import Derived.Test.YtpcekncfdcofhaaQ6
import Derived.Test.YtpcekncfdcofhaaGDivB
namespace Go.Proofs.Ytpcekncfdcofhaa.Q
open Go.RowKit Go.Proofs.YtpcekncfdcofhaaW.PrintWords Go.Proofs.YtpcekncfdcofhaaW.PrintLast Go.Proofs.YtpcekncfdcofhaaW.PrintMore
set_option linter.unusedVariables false
set_option linter.unusedSimpArgs false

def div_T : Bool × List (List Nat × List Nat) := (true,
  [([], []), ([], []), ([1], [1]), ([0, 2], [0, 2]), ([3], [3]), ([4], [4]), ([], []), ([6], [6]), ([], []),
    ([7, 8], [7, 8]), ([9, 9], [9]), ([5, 0, 1, 2, 3, 4, 5], [5]),
    ([10, 11, 0, 1, 2, 3, 4, 5, 6, 7, 8, 9, 10, 11], [10])])
def div_B : List Nat := [0, 0, 2, 7, 15, 31, 0, 64, 0, 448, 960, 63, 4095]
theorem div_tab : rtab .any (opsOf Try.f74 10) = div_T := by kernel_rfl
theorem div_bits : waitsOk div_T.2 div_B = true := by kernel_rfl

theorem R_only {W : World} {base g n c : Nat} {ok : Nat → Prop} {l : List Int} (h : Kd.R (Kd.int .u32) 74 W base ok (.slice (some ⟨g, 0, none⟩) n c) l) : Kd.R (Kd.int .u32) 74 W base (fun k => k = g) (.slice (some ⟨g, 0, none⟩) n c) l := by
  obtain ⟨A, c', e⟩ := Kd.R_slice h
  injection e with e1 e2 e3
  subst e2
  exact Kd.R_of_own (Kd.own_of_R h) (fun k hk => by simpa [Value.ownBlock] using hk.symm)

theorem trim_R {W : World} {base : Nat} {ok : Nat → Prop} {A : Option Addr} {n c : Nat} {l : List Int} (h : Kd.R (Kd.int .u32) 74 W base ok (.slice A n c) l) : Calls Try.prog 72 #[.slice A n c] W fun e W' => e = .returned (.slice A (trim l).length c) ∧ Below W.heap.size W W' := by
  obtain ⟨e1, e2, e3⟩ := Kd.R_reads' h
  subst e1
  refine (impl_trimmed.calls A c l (trim l) W e3 e2 rfl).mono ?_
  rintro e W' ⟨v, rfl, ⟨rfl, _⟩, hb⟩
  exact ⟨rfl, hb⟩

theorem R_trim2 {W : World} {base : Nat} {ok : Nat → Prop} {A : Option Addr} {n c : Nat} {l : List Int} (h : Kd.R (Kd.int .u32) 74 W base ok (.slice A n c) l) : Kd.R (Kd.int .u32) 74 W base ok (.slice A (trim l).length c) (trim l) := by
  obtain ⟨e1, _, _⟩ := Kd.R_reads' h
  subst e1
  exact R_trim h ⟨rfl, rfl⟩

structure DW (w : World) (gu cu gq cq : Nat) (av : Addr) (cv : Nat) (v0 v1 : Int) (lu lq : List Int) (W : World) : Prop where
  made : Below w.heap.size w W
  u : Kd.R (Kd.int .u32) 74 W w.heap.size (fun k => k = gu) (.slice (some ⟨gu, 0, none⟩) 3 cu) lu
  v : Kd.R (Kd.int .u32) 74 W w.heap.size (fun k => k ≠ gu ∧ k ≠ gq) (.slice (some av) 2 cv) [v0, v1]
  q : Kd.R (Kd.int .u32) 74 W w.heap.size (fun k => k = gq) (.slice (some ⟨gq, 0, none⟩) 1 cq) lq
  ne : gu ≠ gq
  gu0 : w.heap.size ≤ gu
  gq0 : w.heap.size ≤ gq
section
variable {w : World} {gu cu gq cq : Nat} {av : Addr} {cv : Nat} {v0 v1 : Int} {lu lq : List Int} {W W1 : World}
theorem DW.below (h : DW w gu cu gq cq av cv v0 v1 lu lq W) (hb : Below W.heap.size W W1) : DW w gu cu gq cq av cv v0 v1 lu lq W1 :=
  ⟨below_step h.made hb, Kd.R_below h.u hb, Kd.R_below h.v hb, Kd.R_below h.q hb, h.ne, h.gu0, h.gq0⟩
theorem DW.setu {lu2 : List Int} (h : DW w gu cu gq cq av cv v0 v1 lu lq W) (hg : W.grownBy W1 (some gu)) (hu : Kd.R (Kd.int .u32) 74 W1 w.heap.size (fun k => k = gu) (.slice (some ⟨gu, 0, none⟩) 3 cu) lu2) : DW w gu cu gq cq av cv v0 v1 lu2 lq W1 :=
  ⟨h.made.grown hg h.made.size (fun k e => by cases e; exact h.gu0), hu, Kd.R_grown h.v hg (fun k hk e => hk.1 (Option.some.inj e)), Kd.R_grown h.q hg (fun k hk e => h.ne (by rw [← hk]; exact (Option.some.inj e).symm)), h.ne, h.gu0, h.gq0⟩
theorem DW.setq {lq2 : List Int} (h : DW w gu cu gq cq av cv v0 v1 lu lq W) (hg : W.grownBy W1 (some gq)) (hq : Kd.R (Kd.int .u32) 74 W1 w.heap.size (fun k => k = gq) (.slice (some ⟨gq, 0, none⟩) 1 cq) lq2) : DW w gu cu gq cq av cv v0 v1 lu lq2 W1 :=
  ⟨h.made.grown hg h.made.size (fun k e => by cases e; exact h.gq0), Kd.R_grown h.u hg (fun k hk e => h.ne (by rw [← hk]; exact Option.some.inj e)), Kd.R_grown h.v hg (fun k hk e => hk.2 (Option.some.inj e)), hq, h.ne, h.gu0, h.gq0⟩
end

set_option maxHeartbeats 16000000 in
set_option maxRecDepth 100000 in
theorem div_two (a0 a1 b0 b1 : Int) (h0 : 0 ≤ a0 ∧ a0 ≤ 4294967295) (h1 : 0 ≤ a1 ∧ a1 ≤ 4294967295) (k0 : 0 ≤ b0 ∧ b0 ≤ 4294967295) (k1 : 1 ≤ b1 ∧ b1 ≤ 4294967295) (ha1 : a1 ≠ 0) (A0 : Option Addr) (c0 : Nat) (A1 : Option Addr) (c1 : Nat) (w : World)
    (hr0 : Kd.C (Kd.int .u32) w A0 2 [a0, a1]) (hc0 : 2 ≤ c0) (hr1 : Kd.C (Kd.int .u32) w A1 2 [b0, b1]) (hc1 : 2 ≤ c1) (hle : ¬ a0 + 4294967296 * a1 < b0 + 4294967296 * b1) :
    Calls Try.prog 74 #[.slice A0 2 c0, .slice A1 2 c1] w (DivPost w (a0 + 4294967296 * a1) (b0 + 4294967296 * b1)) := by
  have hu52 := Try.underlying52
  have hu51 := Try.underlying51
  have hu74 := Try.underlying74
  have hu76 := Try.underlying76
  have da : D32 [a0, a1] := D32.cons.2 ⟨h0, D32.cons.2 ⟨h1, fun d hd => by cases hd⟩⟩
  have db : D32 [b0, b1] := D32.cons.2 ⟨k0, D32.cons.2 ⟨by omega, fun d hd => by cases hd⟩⟩
  have ra : Rep [a0, a1] (a0 + 4294967296 * a1) := ⟨da, by simp [vl], fun _ => by simpa [rd] using ha1⟩
  have rb : Rep [b0, b1] (b0 + 4294967296 * b1) := ⟨db, by simp [vl], fun _ => by simp [rd]; omega⟩
  obtain ⟨r, q1, q2, q3, q4⟩ := cmp_eq ra rb (by simp) (by simp)
  have hdr : decide (r < 0) = false := decide_eq_false (fun h => hle (q2.1 h))
  obtain ⟨s1, s2, s3⟩ := shift_amount k1
  obtain ⟨s, hs⟩ : ∃ s, s = 32 - (Lib.bitLen b1.toNat : Int) := ⟨_, rfl⟩
  rw [← hs] at s1 s2 s3
  have hp : (1 : Int) ≤ 2 ^ s.toNat ∧ (2 : Int) ^ s.toNat ≤ 2147483648 := pow_le ⟨s.toNat, by omega⟩
  obtain ⟨p, hpd⟩ : ∃ p : Int, p = 2 ^ s.toNat := ⟨_, rfl⟩
  have HPD := Aside0.mk hpd
  rw [← hpd] at hp s2 s3
  obtain ⟨v0, v1, hv, w0_, w1_, w2_⟩ := norm_v k0 k1 hp s2 s3
  have hge2 : (b0 + 4294967296 * b1) * p ≤ (a0 + 4294967296 * a1) * p := Int.mul_le_mul_of_nonneg_right (by omega) (by omega)
  obtain ⟨lu, hu, du, vu, shp⟩ := norm_u h0 h1 hp (by rw [← w2_] at hge2; omega)
  obtain ⟨n, hn⟩ : ∃ n, n = a0 + 4294967296 * a1 := ⟨_, rfl⟩
  obtain ⟨m, hm⟩ : ∃ m, m = b0 + 4294967296 * b1 := ⟨_, rfl⟩
  have hm1 : 1 ≤ m := by omega
  have hnm : n * p < 4294967296 * (m * p) := by
    have : n * p < (4294967296 * m) * p := Int.mul_lt_mul_of_pos_right (by omega) (by omega)
    rwa [Int.mul_assoc] at this
  rw [← hn] at vu hge2 ⊢
  rw [← hm] at w2_ hge2 ⊢
  obtain ⟨bk1, bk2⟩ := back (n := n) hp.1 hm1
  have HBK1 := Aside0.mk bk1
  have HBK2 := Aside0.mk bk2
  obtain ⟨F, hF⟩ : ∃ F : Ending → World → Prop, F = DivPost w n m := ⟨_, rfl⟩
  rw [← hF]
  have HF := Aside0.mk hF
  have HR := Aside0.mk q1
  have HNM := Aside0.mk hnm
  have HS := Aside0.mk hs
  have HS1 := Aside0.mk s1
  have HP := Aside0.mk hp
  have HV0 := Aside0.mk w0_
  have HV1 := Aside0.mk w1_
  have HVV := Aside0.mk w2_
  have HVL := Aside0.mk hv
  have HUL := Aside0.mk hu
  have HDU := Aside0.mk du
  have HUV := Aside0.mk vu
  have HSH := Aside0.mk shp
  have HR0 := Aside0.mk hr0
  have HC0 := Aside0.mk hc0
  have HR1 := Aside0.mk hr1
  have HC1 := Aside0.mk hc1
  have HDA := Aside0.mk da
  have HDB := Aside0.mk db
  have HK1 := Aside0.mk k1
  have hws : IntKind.u64.wrap s = s := by rw [IntKind.wrap_u64]; omega
  obtain ⟨ad, eA, hx⟩ := Kd.at_int hr1 1 (by omega) (by omega)
  cases eA
  have HX : Aside0 (w.cell? ⟨ad.block, ad.off + 1, none⟩ = some (.int .u32 b1)) := ⟨by simpa [rd, Addr.add] using hx⟩
  have HSA : Aside0 (∀ W, Kd.C (Kd.int .u32) W A0 2 [a0, a1] → Calls Try.prog 77 #[.slice A0 2 c0, .int .u64 s] W fun e w' => ∃ v, e = .returned v ∧ Kd.R (Kd.int .u32) 74 w' W.heap.size (fun _ => True) v lu ∧ Below W.heap.size W w') := ⟨fun W hC => by
    have := shift_calls s s1 A0 c0 [a0, a1] W hC hc0 da (by simp)
    rw [← hpd, hu] at this
    exact this⟩
  have HSB : Aside0 (∀ W, Kd.C (Kd.int .u32) W (some ad) 2 [b0, b1] → Calls Try.prog 77 #[.slice (some ad) 2 c1, .int .u64 s] W fun e w' => ∃ v, e = .returned v ∧ Kd.R (Kd.int .u32) 74 w' W.heap.size (fun _ => True) v [v0, v1] ∧ Below W.heap.size W w') := ⟨fun W hC => by
    have := shift_calls s s1 (some ad) c1 [b0, b1] W hC hc1 db (by simp)
    rw [← hpd, hv] at this
    exact this⟩
  clear hpd hF q1 q2 q3 q4 hs s1 s2 s3 hp w0_ w1_ w2_ hv hu du vu shp hr0 hc0 hr1 hc1 hle hge2 hnm hn hm hm1 ha1 da db ra rb bk1 bk2 h0 h1 k0 k1 hx
  go_enter Try.func74, Try.ntmps74
  go_wp2_with (first
    | (go_at_call 63; go_loud (refine (impl_cmpMag.calls 100 A0 c0 [a0, a1] (some ad) c1 [b0, b1] r _ HR0.out HC0.out HR1.out HC1.out HR.out).mono ?_; rintro e w1 ⟨rfl, hw1⟩; have HB1 : Aside0 (Below w.heap.size w w1) := ⟨by first | exact hw1 | (obtain ⟨nd, rfl⟩ := hw1; exact pw_below_drewN (Below.refl _ _) nd)⟩; clear hw1; have hz0 : w1.cell? ⟨ad.block, ad.off + 1, none⟩ = some (.int .u32 b1) := (HB1.out.cell (World.block_lt_of_cell? w _ HX.out)).trans HX.out))
    | (go_at_call 76; go_loud (refine (Go.Proofs.Any.bits_LeadingZeros32 Try.lays133 b1 _ (by have := HK1.out; omega) HK1.out.2).mono ?_; rintro e w2 ⟨rfl, hw2⟩; replace hw2 := hw2.symm; subst hw2; rw [← HS.out]))
    | (go_at_call 77; (with_reducible refine (HSA.out _ ?hc).mono ?_); (case hc => exact Kd.C_below HR0.out HB1.out); go_loud (rintro e w3 ⟨v55, rfl, ho, hb3⟩; have HU3 := Aside0.mk (Kd.R_mono (Kd.R_bound (Kd.R_lower ho HB1.out.size)) (fun k hk => hk.2.2.1)); have HB3 := Aside0.mk (below_step HB1.out hb3); clear ho hb3))
    | (go_at_call 77; go_loud ((with_reducible refine (HSB.out _ ?hc).mono ?_); (case hc => exact Kd.C_below HR1.out HB3.out); rintro e w4 ⟨v58, rfl, ho, hb4⟩; obtain ⟨A58, c58, e58⟩ := Kd.R_slice ho; subst e58; have HV4 := Aside0.mk (Kd.R_mono (Kd.R_lower (Kd.R_bound ho) HB3.out.size) (fun k hk => (⟨hk.2.1, hk.2.2.1⟩ : w3.heap.size ≤ k ∧ k < w4.heap.size))); have HU4 := Aside0.mk (Kd.R_mono (Kd.R_below HU3.out hb4) (fun k hk => (Or.inl hk : k < w3.heap.size ∨ w4.heap.size ≤ k))); have HB4 := Aside0.mk (below_step HB3.out hb4); have H34 := Aside0.mk hb4.size; clear ho hb4)))
  clear hz0
  obtain ⟨av, eV, hv1⟩ := Kd.at_int (Kd.R_reads' HV4.out).2.2 1 (by omega) (by simp)
  cases eV
  clear hv1
  go_loopg [10] 2 (fun gg v10 W => ∃ l : List Int, Aside0 ((∃ x y, l = [x, y] ∧ 1 ≤ gg) ∨ ∃ x y z, l = [x, y, z]) ∧ Aside0 (D32 l ∧ vl l = n * p) ∧ Aside0 (Kd.R (Kd.int .u32) 74 W w.heap.size (fun k => k < w3.heap.size ∨ w4.heap.size ≤ k) v10 l) ∧ Aside0 (Kd.R (Kd.int .u32) 74 W w.heap.size (fun k => w3.heap.size ≤ k ∧ k < w4.heap.size) (.slice (some av) 2 c58) [v0, v1]) ∧ Aside0 (Below w.heap.size w W ∧ w4.heap.size ≤ W.heap.size))
  case atStart => exact ⟨lu, ⟨by rcases HSH.out with ⟨x, y, e⟩ | ⟨x, y, z, e⟩; exact Or.inl ⟨x, y, e, by omega⟩; exact Or.inr ⟨x, y, z, e⟩⟩, ⟨HDU.out, HUV.out⟩, HU4, HV4, ⟨HB4.out, Nat.le_refl _⟩⟩
  case round =>
    clear HU3 HU4 HV4 HB3 HB1
    obtain ⟨l, HL, HD, HU, HV, HBW⟩ := hrel
    obtain ⟨A10, c10, e10⟩ := Kd.R_slice HU.out
    subst e10
    rcases HL.out with ⟨x0, x1, rfl, hg⟩ | ⟨x0, x1, x2, rfl⟩
    · have HD2 : Aside0 (D32 [x0, x1, 0] ∧ vl [x0, x1, 0] = n * p) := ⟨D32.app HD.out.1 (D32.cons.2 ⟨by omega, fun d hd => by cases hd⟩), by rw [← HD.out.2]; simp [vl]⟩
      have HG := Aside0.mk hg
      clear HL hg
      go_wp2_with (first
        | ((with_reducible refine gate_builtin (b := .append) (xs := #[.tmp 64, .tmp 65]) rfl ?_); at_builtin; go_loud (refine Kd.R_append (Kd.int .u32) (w0 := w) w.heap.size rfl (.tmp 64) (.tmp 65) 52 74 (.int .u32 0) 4 rfl hu52 info74 rfl (by decide) (by omega) _ [x0, x1] 0 [.int .u32 0] (fun k => k < w3.heap.size ∨ w4.heap.size ≤ k) (fun _ => False) rfl rfl ?aP (fun _ hk => hk.elim) ?aF ?aO ?aB ?aS ?aL ?_; (case aP => exact rfl); (case aF => exact fun k hk => Or.inr (Nat.le_trans HBW.out.2 hk)); (case aO => exact HU.out); (case aB => exact HBW.out.1); (case aS => exact HBW.out.1.size); (case aL => simp); intro v66 w5 ho hb hg hat; have HU2 := Aside0.mk ho; have HV2 := Aside0.mk (Kd.R_grown HV.out hg (fun k hk e => by have := HU.out.1 k e.symm; omega)); have HB2 : Aside0 (Below w.heap.size w w5 ∧ w4.heap.size ≤ w5.heap.size) := ⟨hb, Nat.le_trans HBW.out.2 hg.size⟩; clear ho hb hg hat)))
      go_roundg 0
      case measure => have := HG.out; omega
      case rel => exact ⟨[x0, x1, 0], ⟨Or.inr ⟨x0, x1, 0, rfl⟩⟩, HD2, HU2, HV2, HB2⟩
    · clear HL
      obtain ⟨gu, cu, eu, hgu, hgl, cellsU⟩ := Kd.R_form HU.out (by simp)
      injection eu with e1 e2 e3
      subst e1
      subst e3
      have HU5 := Aside0.mk (R_only HU.out)
      have hou := HU.out.1 gu (by simp [Value.ownBlock])
      have HV5 := Aside0.mk (Kd.R_mono HV.out (fun k hk => (by omega : k ≠ gu)))
      have HGU := Aside0.mk hgu
      have HGL := Aside0.mk hgl
      obtain ⟨av', eV', hv1⟩ := Kd.at_int (Kd.R_reads' HV.out).2.2 1 (by omega) (by simp)
      cases eV'
      replace hv1 : wr.cell? ⟨av.block, av.off + 1, none⟩ = some (.int .u32 v1) := by simpa [rd, Addr.add] using hv1
      have HB5 := Aside0.mk HBW.out.1
      have hN : x0 + 4294967296 * (x1 + 4294967296 * x2) = n * p := by have := HD.out.2; simp only [vl] at this; omega
      have HN := Aside0.mk hN
      have HTop : Aside0 (Top x0 x1 x2 v0 v1) := ⟨⟨HD.out.1 x0 (by simp), HD.out.1 x1 (by simp), HD.out.1 x2 (by simp), HV0.out, HV1.out, by rw [hN, HVV.out]; exact HNM.out⟩⟩
      clear hN
      clear e2 hou hgu hgl cellsU HU HV HBW
      have hq1 : wrap64 1 = 1 := by unfold wrap64; omega
      have hwv1 : IntKind.u64.wrap v1 = v1 := by have := HV1.out; rw [IntKind.wrap_u64]; omega
      simp only [List.length_cons, List.length_nil, Nat.reduceAdd]
      go_wp2
      refine start_ (n := 13) (S := fun w' => w'.cell? ⟨av.block, av.off + 1, none⟩ = some (.int .u32 v1)) (ds := []) #[false, false, false, false, false, false, false, false, false, false, false, false, false] (by kernel_rfl) rfl rfl (hv1) (fun hHeld => ?_)
      refine with_tabW div_tab div_bits (fun HT_ HW_ => ?_)
      generalize hw3 : wr.drew = w6 at hHeld ⊢
      have HU6 : Aside0 (Kd.R (Kd.int .u32) 74 w6 w.heap.size (fun k => k = gu) (.slice (some ⟨gu, 0, none⟩) 3 c10) [x0, x1, x2]) := ⟨by rw [← hw3]; exact Kd.R_below HU5.out (below_drew (Below.refl _ _))⟩
      have HV6 : Aside0 (Kd.R (Kd.int .u32) 74 w6 w.heap.size (fun k => k ≠ gu) (.slice (some av) 2 c58) [v0, v1]) := ⟨by rw [← hw3]; exact Kd.R_below HV5.out (below_drew (Below.refl _ _))⟩
      have HB6 : Aside0 (Below w.heap.size w w6) := ⟨by rw [← hw3]; exact below_drew1 HB5.out⟩
      have HGL6 : Aside0 (gu < w6.heap.size) := ⟨by rw [← hw3]; exact HGL.out⟩
      clear hw3 hv1
      refine pure_ (i := 0) (N := some 67) (v := ?_) (a' := ?_) #[true, false, false, false, false, false, false, false, false, false, false, false, false] rfl rfl (any_of HT_.out (by kernel_rfl)) (fun _ _ _ h => h) (Or.inl ⟨by rfl, ?_⟩) ?_ ?_
      rotate_left
      · intro w'
        go_simp
        with_reducible rfl
      rotate_left
      · simp only [Act.put, List.setIfInBounds_toArray, List.set_cons_zero, List.set_cons_succ, i64_w, i32_w]
        rfl
      refine pure_ (i := 1) (N := some 68) (v := ?_) (a' := ?_) #[true, true, false, false, false, false, false, false, false, false, false, false, false] rfl rfl (any_of HT_.out (by kernel_rfl)) (fun _ _ _ h => h) (Or.inl ⟨by rfl, ?_⟩) ?_ ?_
      rotate_left
      · intro w'
        go_simp
        with_reducible rfl
      rotate_left
      · simp only [Act.put, List.setIfInBounds_toArray, List.set_cons_zero, List.set_cons_succ, i64_w, i32_w]
        rfl
      refine pure_ (i := 2) (N := some 69) (v := ?_) (a' := ?_) #[true, true, true, false, false, false, false, false, false, false, false, false, false] rfl rfl (any_of HT_.out (by kernel_rfl)) (fun _ _ _ h => h) (Or.inl ⟨by rfl, ?_⟩) ?_ ?_
      rotate_left
      · intro w'
        go_simp
        with_reducible rfl
      rotate_left
      · simp only [Act.put, List.setIfInBounds_toArray, List.set_cons_zero, List.set_cons_succ, i64_w, i32_w]
        rfl
      refine pure_ (i := 3) (N := some 70) (v := ?_) (a' := ?_) #[true, true, true, true, false, false, false, false, false, false, false, false, false] rfl rfl (any_of HT_.out (by kernel_rfl)) (fun _ _ _ h => h) (Or.inl ⟨by rfl, ?_⟩) ?_ ?_
      rotate_left
      · intro w'
        go_simp
        with_reducible rfl
      rotate_left
      · simp only [Act.put, List.setIfInBounds_toArray, List.set_cons_zero, List.set_cons_succ, i64_w, i32_w]
        rfl
      refine take_ (i := 4) (N := some 71) (v := ?_) (a' := ?_) #[true, true, true, true, true, false, false, false, false, false, false, false, false] rfl rfl (take_ofW HT_.out HW_.out (by kernel_rfl)) (fun _ _ _ h => h) (Or.inl ⟨by rfl, ?_⟩) hHeld ?_ ?_
      rotate_left
      · rintro w' s0
        go_simp
        with_reducible rfl
      rotate_left
      · simp only [Act.put, List.setIfInBounds_toArray, List.set_cons_zero, List.set_cons_succ, i64_w, i32_w]
        rfl
      refine pure_ (i := 5) (N := some 72) (v := ?_) (a' := ?_) #[true, true, true, true, true, true, false, false, false, false, false, false, false] rfl rfl (any_of HT_.out (by kernel_rfl)) (fun _ _ _ h => h) (Or.inl ⟨by rfl, ?_⟩) ?_ ?_
      rotate_left
      · intro w'
        go_simp
        with_reducible rfl
      rotate_left
      · simp only [Act.put, List.setIfInBounds_toArray, List.set_cons_zero, List.set_cons_succ, i64_w, i32_w]
        rfl
      refine pure_ (i := 6) (N := some 73) (v := ?_) (a' := ?_) #[true, true, true, true, true, true, true, false, false, false, false, false, false] rfl rfl (any_of HT_.out (by kernel_rfl)) (fun _ _ _ h => h) (Or.inl ⟨by rfl, ?_⟩) ?_ ?_
      rotate_left
      · intro w'
        go_simp
        with_reducible rfl
      rotate_left
      · simp only [Act.put, List.setIfInBounds_toArray, List.set_cons_zero, List.set_cons_succ, i64_w, i32_w]
        rfl
      refine pure_ (i := 7) (N := some 74) (v := ?_) (a' := ?_) #[true, true, true, true, true, true, true, true, false, false, false, false, false] rfl rfl (any_of HT_.out (by kernel_rfl)) (fun _ _ _ h => h) (Or.inl ⟨by rfl, ?_⟩) ?_ ?_
      rotate_left
      · intro w'
        go_simp
        with_reducible rfl
      rotate_left
      · simp only [Act.put, List.setIfInBounds_toArray, List.set_cons_zero, List.set_cons_succ, i64_w, i32_w]
        rfl
      refine pure_ (i := 8) (N := some 75) (v := ?_) (a' := ?_) #[true, true, true, true, true, true, true, true, true, false, false, false, false] rfl rfl (any_of HT_.out (by kernel_rfl)) (fun _ _ _ h => h) (Or.inl ⟨by rfl, ?_⟩) ?_ ?_
      rotate_left
      · intro w'
        go_simp
        with_reducible rfl
      rotate_left
      · simp only [Act.put, List.setIfInBounds_toArray, List.set_cons_zero, List.set_cons_succ, i64_w, i32_w]
        rfl
      refine pure_ (i := 9) (N := some 76) (v := ?_) (a' := ?_) #[true, true, true, true, true, true, true, true, true, true, false, false, false] rfl rfl (any_of HT_.out (by kernel_rfl)) (fun _ _ _ h => h) (Or.inl ⟨by rfl, ?_⟩) ?_ ?_
      rotate_left
      · intro w'
        go_simp
        with_reducible rfl
      rotate_left
      · simp only [Act.put, List.setIfInBounds_toArray, List.set_cons_zero, List.set_cons_succ, i64_w, i32_w]
        rfl
      refine pure_ (i := 11) (N := some 12) (v := ?_) (a' := ?_) #[true, true, true, true, true, true, true, true, true, true, false, true, false] rfl rfl (any_of HT_.out (by kernel_rfl)) (fun _ _ _ h => h) (Or.inl ⟨by rfl, ?_⟩) ?_ ?_
      rotate_left
      · intro w'
        go_simp
        with_reducible rfl
      rotate_left
      · simp only [Act.put, List.setIfInBounds_toArray, List.set_cons_zero, List.set_cons_succ, i64_w, i32_w]
        rfl
      refine one_ (i := 10) (N := some 77) #[true, true, true, true, true, true, true, true, true, true, true, true, false] rfl rfl (one_of HT_.out (by kernel_rfl)) (by decide) (fun K hK => ?_)
      refine Kd.R_make_step (Kd.int .u32) (w0 := w6) w6.heap.size 74 (by rfl) (N := 77) rfl 52 _ _ rfl 1 ?hx ?hy hu52 (.int .u32 0) 4 info74 rfl (by decide) (by omega) 0 (ok := fun _ => True) (okp := fun _ => True) rfl (fun _ hk => hk) trivial (by omega) (by decide) (Below.refl _ _) (Nat.le_refl _) ?_
      case hx => first | rfl | (show Value.int .i64 (wrap64 1) = _; rw [hq1])
      case hy => first | rfl | (show Value.int .i64 (wrap64 1) = _; rw [hq1])
      intro v77 w7 ho7 hb7 hg7 hnew7
      refine hK.out _ _ ((hb7.cell (World.block_lt_of_cell? w6 _ hHeld)).trans hHeld) (fun hHeld => ?_)
      clear hK K
      refine norm_ (a' := ?_) ?_ ?_
      rotate_left
      · show Act.put _ (some 77) _ = _
        simp only [Act.put, List.setIfInBounds_toArray, List.set_cons_zero, List.set_cons_succ, i64_w, i32_w]
        rfl
      refine pure_ (i := 12) (N := some 13) (v := ?_) (a' := ?_) #[true, true, true, true, true, true, true, true, true, true, true, true, true] rfl rfl (any_of HT_.out (by kernel_rfl)) (fun _ _ _ h => h) (Or.inl ⟨by rfl, ?_⟩) ?_ ?_
      rotate_left
      · intro w'
        go_simp
        with_reducible rfl
      rotate_left
      · simp only [Act.put, List.setIfInBounds_toArray, List.set_cons_zero, List.set_cons_succ, i64_w, i32_w]
        rfl
      refine done_ (done_of HT_.out (by kernel_rfl)) ?_
      obtain ⟨gq, cq, eq_, hgq, hgql, cellsQ⟩ := Kd.R_form ho7 (by simp)
      subst eq_
      have erp : (List.replicate (Int.toNat 1) (0 : Int)).length = 1 := rfl
      rw [erp]
      simp only [hwv1, hq1, Int.toNat_one, Int.reduceToNat, Addr.add, Nat.one_ne_zero, if_false, Nat.reduceEqDiff]
      clear erp
      have HW7 : Aside0 (DW w gu c10 gq cq av c58 v0 v1 [x0, x1, x2] [0] w7) := ⟨⟨below_step HB6.out hb7, Kd.R_below HU6.out hb7, Kd.R_below (Kd.R_mono (Kd.R_bound HV6.out) (fun k hk => ⟨hk.1, fun e => by have := hk.2.2.1; omega⟩)) hb7, R_only (Kd.R_lower ho7 HB6.out.size), by have := HGL6.out; omega, HGU.out, Nat.le_trans HB6.out.size hgq⟩⟩
      clear ho7 hb7 hg7 hnew7 hgq hgql cellsQ HU6 HV6 HB6 HU5 HV5 HB5 hHeld HT_ HW_
      have hq0 : wrap64 0 = 0 := by unfold wrap64; omega
      have hq2 : wrap64 2 = 2 := by unfold wrap64; omega
      have hq3 : wrap64 3 = 3 := by unfold wrap64; omega
      go_wp2
      go_loopg [14] 1 (fun gg v14 W => ∃ (j : Int) (l lq : List Int), v14 = .int .i64 j ∧ Aside0 ((j = 0 ∧ l = [x0, x1, x2] ∧ lq = [0] ∧ 1 ≤ gg) ∨ (j = -1 ∧ l = (tk (n / m) [x0, x1, x2] [v0, v1] 0 0).1 ∧ lq = [n / m])) ∧ Aside0 (DW w gu c10 gq cq av c58 v0 v1 l lq W))
      case atStart => exact ⟨0, _, _, rfl, ⟨Or.inl ⟨rfl, rfl, rfl, by omega⟩⟩, HW7⟩
      case round =>
        clear HW7
        obtain ⟨j, l, lq, rfl, HJ, HW⟩ := hrel
        rcases HJ.out with ⟨rfl, rfl, rfl, hg1⟩ | ⟨rfl, rfl, rfl⟩
        · have HG1 := Aside0.mk hg1
          clear HJ hg1
          have z2 := (Kd.R_celln 0 HW.out.u (2 : Int) (by omega) (by simp)).1
          have z1 := (Kd.R_celln 0 HW.out.u (1 : Int) (by omega) (by simp)).1
          have z0 := (Kd.R_celln 0 HW.out.u (0 : Int) (by omega) (by simp)).1
          replace z2 : wr.cell? ⟨gu, 2, none⟩ = some (.int .u32 x2) := by simpa [rdOf] using z2
          replace z1 : wr.cell? ⟨gu, 1, none⟩ = some (.int .u32 x1) := by simpa [rdOf] using z1
          replace z0 : wr.cell? ⟨gu, 0, none⟩ = some (.int .u32 x0) := by simpa [rdOf] using z0
          obtain ⟨av', eV', y0⟩ := Kd.at_int (Kd.R_reads' HW.out.v).2.2 0 (by omega) (by simp)
          cases eV'
          replace y0 : wr.cell? av = some (.int .u32 v0) := by simpa [rd, Addr.add] using y0
          have t0 := HTop.out.a0
          have t1 := HTop.out.a1
          have t2 := HTop.out.a2
          have t3 := HTop.out.b0
          have t4 := HTop.out.b1
          have w0_ : IntKind.u64.wrap x0 = x0 := by rw [IntKind.wrap_u64]; omega
          have w1_ : IntKind.u64.wrap x1 = x1 := by rw [IntKind.wrap_u64]; omega
          have w2_ : IntKind.u64.wrap x2 = x2 := by rw [IntKind.wrap_u64]; omega
          have w3_ : IntKind.u64.wrap v0 = v0 := by rw [IntKind.wrap_u64]; omega
          have w4_ : IntKind.u64.wrap v1 = v1 := by rw [IntKind.wrap_u64]; omega
          have w5_ : IntKind.u64.wrap (x2 * 4294967296) = x2 * 4294967296 := by rw [IntKind.wrap_u64]; omega
          have hor : bits .or .u64 (x2 * 4294967296) x1 = x2 * 4294967296 + x1 := or_sum 32 (by omega) (by omega) (by omega) (by omega) (by omega) (by omega)
          obtain ⟨hd_, hhd⟩ : ∃ hd_, hd_ = x2 * 4294967296 + x1 := ⟨_, rfl⟩
          have hG0 := Gs.start HTop.out
          rw [← hhd] at hor hG0
          have hh0 : 0 ≤ hd_ := by omega
          have hcap0 := (Kd.R_reads' HW.out.u).2.1
          have hcap : ((c10 : Int) < 3) = False := eq_false (by omega)
          have hcap2 : ((3 : Int) ≤ (c10 : Int)) = True := eq_true (by omega)
          have hcap3 : (c10 = 0) = False := eq_false (by omega)
          clear hcap0
          have d1 : Int.tdiv hd_ v1 = hd_ / v1 := Int.tdiv_eq_ediv_of_nonneg hh0
          have d2 : Int.tmod hd_ v1 = hd_ % v1 := Int.tmod_eq_emod_of_nonneg hh0
          have hgn : 0 ≤ hd_ / v1 := Int.ediv_nonneg hh0 (by omega)
          have d3 : IntKind.u64.wrap (hd_ / v1) = hd_ / v1 := by rw [IntKind.wrap_u64]; have := hG0.le; omega
          have d4 : (v1 = 0) = False := eq_false (by omega)
          have d5 : (v1 == 0) = false := by rw [beq_eq_false_iff_ne]; omega
          have HG0 := Aside0.mk hG0
          clear hG0 hgn hh0 hhd t0 t1 t2 t3 t4
          go_wp2
          go_quiet (fail)
          go_wp2
          go_quiet (fail)
          go_wp2
          go_loopg [16, 17] (hd_ / v1).toNat (fun gg v16 v17 W => ∃ g r : Int, v16 = .int .u64 g ∧ v17 = .int .u64 r ∧ Aside0 (Gs x0 x1 x2 v0 v1 g r) ∧ Aside0 (g.toNat ≤ gg) ∧ Drawn0 wr W)
          case atStart => exact ⟨_, _, rfl, rfl, HG0, ⟨Nat.le_refl _⟩, by repeat (first | exact Drawn0.refl _ | apply Drawn0.step)⟩
          case round =>
            clear HG0 d1 d2 d3 hor w1_ w2_ w5_
            obtain ⟨g, r', rfl, rfl, HGs, HGg, ⟨nd, rfl⟩⟩ := hrel
            have hgn0 : 0 ≤ g := Int.le_trans (quo_nn HTop.out) HGs.out.ge
            have hrn := HGs.out.nn
            have hgle := HGs.out.le
            have hvb := HV0.out
            have hvb1 := HV1.out
            have hxb := HTop.out.a0
            have HWD : Aside0 (∀ k, DW w gu c10 gq cq av c58 v0 v1 [x0, x1, x2] [0] (wr.drewN k)) := ⟨fun k => HW.out.below (pw_below_drewN (Below.refl _ _) k)⟩
            by_cases c1 : r' < 4294967296
            · have e1 : decide (r' < 4294967296) = true := decide_eq_true c1
              have hws1 : IntKind.u64.wrap (r' * 4294967296) = r' * 4294967296 := by rw [IntKind.wrap_u64]; omega
              have hor1 : bits .or .u64 (r' * 4294967296) x0 = r' * 4294967296 + x0 := or_sum 32 (by omega) (by omega) (by omega) (by omega) (by omega) (by omega)
              by_cases c2 : 4294967296 ≤ g
              · have e2 : decide (4294967296 ≤ g) = true := decide_eq_true c2
                have e3 : decide (g ≥ 4294967296) = true := e2
                have hst := Gs.step HTop.out HGs.out c1 (Or.inl c2)
                have hwg1 : IntKind.u64.wrap (g - 1) = g - 1 := by rw [IntKind.wrap_u64]; have := hst.2; omega
                have hwr1 : IntKind.u64.wrap (r' + v1) = r' + v1 := by rw [IntKind.wrap_u64]; omega
                have HST := Aside0.mk hst
                clear hst hgn0 hrn hgle hvb hvb1 hxb c1 c2
                go_wp2
                go_quiet (fail)
                go_wp2
                go_roundg (g - 1).toNat
                case measure => have := HGg.out; have := HST.out.2; omega
                case rel => exact ⟨g - 1, r' + v1, by first | rfl | rw [hwg1], by first | rfl | rw [hwr1], ⟨HST.out.1⟩, ⟨Nat.le_refl _⟩, by repeat (first | exact Drawn0.refl _ | apply Drawn0.step)⟩
              · have e2 : decide (4294967296 ≤ g) = false := decide_eq_false c2
                have e3 : decide (g ≥ 4294967296) = false := e2
                have hml := mul_le (⟨hgn0, by omega⟩ : 0 ≤ g ∧ g ≤ 4294967295) hvb (by omega)
                have hmw : IntKind.u64.wrap (g * v0) = g * v0 := by rw [IntKind.wrap_u64]; omega
                by_cases c3 : r' * 4294967296 + x0 < g * v0
                · have e4 : decide (r' * 4294967296 + x0 < g * v0) = true := decide_eq_true c3
                  have e5 : decide (g * v0 > r' * 4294967296 + x0) = true := e4
                  have hst := Gs.step HTop.out HGs.out c1 (Or.inr c3)
                  have hwg1 : IntKind.u64.wrap (g - 1) = g - 1 := by rw [IntKind.wrap_u64]; have := hst.2; omega
                  have hwr1 : IntKind.u64.wrap (r' + v1) = r' + v1 := by rw [IntKind.wrap_u64]; omega
                  have HST := Aside0.mk hst
                  clear hst hgn0 hrn hgle hvb hvb1 hxb c1 c2
                  go_wp2
                  go_quiet (fail)
                  go_wp2
                  go_roundg (g - 1).toNat
                  case measure => have := HGg.out; have := HST.out.2; omega
                  case rel => exact ⟨g - 1, r' + v1, by first | rfl | rw [hwg1], by first | rfl | rw [hwr1], ⟨HST.out.1⟩, ⟨Nat.le_refl _⟩, by repeat (first | exact Drawn0.refl _ | apply Drawn0.step)⟩
                · have e4 : decide (r' * 4294967296 + x0 < g * v0) = false := decide_eq_false c3
                  have e5 : decide (g * v0 > r' * 4294967296 + x0) = false := e4
                  have hc : ¬ (r' < 4294967296 ∧ (4294967296 ≤ g ∨ r' * 4294967296 + x0 < g * v0)) := fun h => h.2.elim c2 c3
                  have hf := Gs.fin HTop.out HGs.out hc
                  have HGE : Aside0 (g = n / m) := ⟨by rw [hf.1, HN.out, HVV.out, HBK1.out]⟩
                  have hgb := hf.2
                  have hwg : IntKind.u32.wrap g = g := by rw [IntKind.wrap_u32]; omega
                  have hte := tk_exact (t := g) hgb HD.out.1 (vs := [v0, v1]) (D32.cons.2 ⟨HV0.out, D32.cons.2 ⟨by have := HV1.out; omega, fun d hd => by cases hd⟩⟩) (by simp) (by
                    rw [HD.out.2, show vl [v0, v1] = v0 + 4294967296 * v1 from by simp [vl], HVV.out, HGE.out, ← HBK1.out]
                    exact Int.ediv_mul_le _ (by have := HP.out; have := HVV.out; have := HV1.out; have := HV0.out; omega)) (Int.mul_nonneg hgb.1 (vl_nn (D32.cons.2 ⟨HV0.out, D32.cons.2 ⟨by have := HV1.out; omega, fun d hd => by cases hd⟩⟩)))
                  have hfalse : decide ((tk g [x0, x1, x2] [v0, v1] 0 0).2.2 > 0) = false := by rw [hte.1]; rfl
                  have HTK : Aside0 (∀ W, DW w gu c10 gq cq av c58 v0 v1 [x0, x1, x2] [0] W → Calls Try.prog 78 #[.slice (some ⟨gu, 0, none⟩) 3 c10, .slice (some av) 2 c58, .int .u32 g] W fun e W' => e = .returned (.bool false) ∧ DW w gu c10 gq cq av c58 v0 v1 (tk g [x0, x1, x2] [v0, v1] 0 0).1 [0] W') := ⟨fun W hW => by
                    have := take_calls g hgb w.heap.size w.heap.size gu c10 [x0, x1, x2] [v0, v1] (some av) c58 W hW.u (Kd.R_mono hW.v (fun k hk => hk.1)) HD.out.1 (D32.cons.2 ⟨HV0.out, D32.cons.2 ⟨by have := HV1.out; omega, fun d hd => by cases hd⟩⟩) (by simp)
                    rw [hfalse] at this
                    exact this.mono (fun e W' hh => ⟨hh.1, hW.setu hh.2.2 hh.2.1⟩)⟩
                  have HGG : Aside0 (0 ≤ g ∧ g ≤ 4294967295) := ⟨hgb⟩
                  obtain ⟨tkl, htkl⟩ : ∃ tkl, tkl = (tk g [x0, x1, x2] [v0, v1] 0 0).1 := ⟨_, rfl⟩
                  rw [← htkl] at HTK
                  have HTKL : Aside0 (tkl = (tk (n / m) [x0, x1, x2] [v0, v1] 0 0).1) := ⟨by rw [htkl, HGE.out]⟩
                  clear hf hgb hte hfalse htkl hc hgn0 hrn hgle hvb hvb1 hxb c1
                  go_wp2
                  go_quiet (fail)
                  clear z0 z1 z2 y0
                  go_wp2_with (first
                    | (go_at_call 78; go_loud ((with_reducible refine (HTK.out _ ?hw).mono ?_); (case hw => first | exact HWD.out _ | exact HW.out); rintro e w8 ⟨rfl, hw8⟩; have HW8 := Aside0.mk hw8; have hz := Kd.R_celln 0 hw8.q (0 : Int) (by omega) (by simp); have hz3 : w8.cell? ⟨gq, 0, none⟩ = some (.int .u32 0) := (by simpa [rdOf] using hz.1); have hz4 : w8.frozen? ⟨gq, 0, none⟩ = false := (by simpa using hz.2); have HPut := Aside0.mk (Kd.R_putg hw8.q (0 : Int) g); clear hz hw8))
                    | ((with_reducible refine gate_store (t := 74) (p := 169) rfl ?_); go_loud (refine store_event (t := 74) (p := 169) (v := ?vo_w11) (w1 := (w8.setCell ⟨gq, 0, none⟩ (.int .u32 g))) ?hg ?ho ?hn ?hr ?_; (case ho => rfl); (case hg => rfl); (case hn => rfl); (case hr => first | (go_simp; done) | (go_simp; rfl)); intro w11 hw; have HW9 : Aside0 (DW w gu c10 gq cq av c58 v0 v1 tkl [g] w11) := ⟨HW8.out.setq (by rw [hw]; exact HPut.out.2) (by rw [hw]; exact HPut.out.1)⟩; clear hw)))
                  go_roundg 0
                  case measure => have := HG1.out; omega
                  case rel => exact ⟨-1, tkl, [g], by first | rfl | go_num, ⟨Or.inr ⟨rfl, HTKL.out, by rw [HGE.out]⟩⟩, HW9⟩
            · have e1 : decide (r' < 4294967296) = false := decide_eq_false c1
              have hc : ¬ (r' < 4294967296 ∧ (4294967296 ≤ g ∨ r' * 4294967296 + x0 < g * v0)) := fun h => c1 h.1
              have hf := Gs.fin HTop.out HGs.out hc
              have HGE : Aside0 (g = n / m) := ⟨by rw [hf.1, HN.out, HVV.out, HBK1.out]⟩
              have hgb := hf.2
              have hwg : IntKind.u32.wrap g = g := by rw [IntKind.wrap_u32]; omega
              have hte := tk_exact (t := g) hgb HD.out.1 (vs := [v0, v1]) (D32.cons.2 ⟨HV0.out, D32.cons.2 ⟨by have := HV1.out; omega, fun d hd => by cases hd⟩⟩) (by simp) (by
                rw [HD.out.2, show vl [v0, v1] = v0 + 4294967296 * v1 from by simp [vl], HVV.out, HGE.out, ← HBK1.out]
                exact Int.ediv_mul_le _ (by have := HP.out; have := HVV.out; have := HV1.out; have := HV0.out; omega)) (Int.mul_nonneg hgb.1 (vl_nn (D32.cons.2 ⟨HV0.out, D32.cons.2 ⟨by have := HV1.out; omega, fun d hd => by cases hd⟩⟩)))
              have hfalse : decide ((tk g [x0, x1, x2] [v0, v1] 0 0).2.2 > 0) = false := by rw [hte.1]; rfl
              have HTK : Aside0 (∀ W, DW w gu c10 gq cq av c58 v0 v1 [x0, x1, x2] [0] W → Calls Try.prog 78 #[.slice (some ⟨gu, 0, none⟩) 3 c10, .slice (some av) 2 c58, .int .u32 g] W fun e W' => e = .returned (.bool false) ∧ DW w gu c10 gq cq av c58 v0 v1 (tk g [x0, x1, x2] [v0, v1] 0 0).1 [0] W') := ⟨fun W hW => by
                have := take_calls g hgb w.heap.size w.heap.size gu c10 [x0, x1, x2] [v0, v1] (some av) c58 W hW.u (Kd.R_mono hW.v (fun k hk => hk.1)) HD.out.1 (D32.cons.2 ⟨HV0.out, D32.cons.2 ⟨by have := HV1.out; omega, fun d hd => by cases hd⟩⟩) (by simp)
                rw [hfalse] at this
                exact this.mono (fun e W' hh => ⟨hh.1, hW.setu hh.2.2 hh.2.1⟩)⟩
              have HGG : Aside0 (0 ≤ g ∧ g ≤ 4294967295) := ⟨hgb⟩
              obtain ⟨tkl, htkl⟩ : ∃ tkl, tkl = (tk g [x0, x1, x2] [v0, v1] 0 0).1 := ⟨_, rfl⟩
              rw [← htkl] at HTK
              have HTKL : Aside0 (tkl = (tk (n / m) [x0, x1, x2] [v0, v1] 0 0).1) := ⟨by rw [htkl, HGE.out]⟩
              clear hf hgb hte hfalse htkl hc hgn0 hrn hgle hvb hvb1 hxb c1
              go_wp2
              go_quiet (fail)
              clear z0 z1 z2 y0
              go_wp2_with (first
                | (go_at_call 78; go_loud ((with_reducible refine (HTK.out _ ?hw).mono ?_); (case hw => first | exact HWD.out _ | exact HW.out); rintro e w8 ⟨rfl, hw8⟩; have HW8 := Aside0.mk hw8; have hz := Kd.R_celln 0 hw8.q (0 : Int) (by omega) (by simp); have hz3 : w8.cell? ⟨gq, 0, none⟩ = some (.int .u32 0) := (by simpa [rdOf] using hz.1); have hz4 : w8.frozen? ⟨gq, 0, none⟩ = false := (by simpa using hz.2); have HPut := Aside0.mk (Kd.R_putg hw8.q (0 : Int) g); clear hz hw8))
                | ((with_reducible refine gate_store (t := 74) (p := 169) rfl ?_); go_loud (refine store_event (t := 74) (p := 169) (v := ?vo_w11) (w1 := (w8.setCell ⟨gq, 0, none⟩ (.int .u32 g))) ?hg ?ho ?hn ?hr ?_; (case ho => rfl); (case hg => rfl); (case hn => rfl); (case hr => first | (go_simp; done) | (go_simp; rfl)); intro w11 hw; have HW9 : Aside0 (DW w gu c10 gq cq av c58 v0 v1 tkl [g] w11) := ⟨HW8.out.setq (by rw [hw]; exact HPut.out.2) (by rw [hw]; exact HPut.out.1)⟩; clear hw)))
              go_roundg 0
              case measure => have := HG1.out; omega
              case rel => exact ⟨-1, tkl, [g], by first | rfl | go_num, ⟨Or.inr ⟨rfl, HTKL.out, by rw [HGE.out]⟩⟩, HW9⟩
        · clear HJ
          have hG0 : 0 ≤ n / m := by rw [← HBK1.out, ← HN.out, ← HVV.out]; exact quo_nn HTop.out
          have hG1 : n / m < 4294967296 := by rw [← HBK1.out, ← HN.out, ← HVV.out]; exact quo_lt HTop.out
          have dv : D32 [v0, v1] := D32.cons.2 ⟨HV0.out, D32.cons.2 ⟨by have := HV1.out; omega, fun d hd => by cases hd⟩⟩
          have hte := tk_exact (t := n / m) ⟨hG0, by omega⟩ HD.out.1 (vs := [v0, v1]) dv (by simp) (by
            rw [HD.out.2, show vl [v0, v1] = v0 + 4294967296 * v1 from by simp [vl], HVV.out, ← HBK1.out]
            exact Int.ediv_mul_le _ (by have := HP.out; have := HVV.out; have := HV1.out; have := HV0.out; omega)) (Int.mul_nonneg hG0 (vl_nn dv))
          have hvl : vl (tk (n / m) [x0, x1, x2] [v0, v1] 0 0).1 = (n % m) * p := by
            rw [hte.2.1, HD.out.2, show vl [v0, v1] = v0 + 4294967296 * v1 from by simp [vl], HVV.out, HBK2.out]
          have hdl := hte.2.2
          generalize (tk (n / m) [x0, x1, x2] [v0, v1] 0 0).1 = lt at hvl hdl HW
          obtain ⟨G, hGd⟩ : ∃ G, G = n / m := ⟨_, rfl⟩
          rw [← hGd] at hG0 hG1 HW
          have HGD := Aside0.mk hGd
          clear hGd
          have hrt := trim_rep hdl
          rw [hvl] at hrt
          obtain ⟨rl, hrl⟩ : ∃ rl, rl = trim lt := ⟨_, rfl⟩
          rw [← hrl] at hrt
          have hkk : s.toNat ≤ 31 := by have := HS1.out; omega
          have hsr := sr_ok s.toNat hkk rl hrt.dig
          rw [← HPD.out, hrt.val, Int.mul_ediv_cancel _ (by have := HP.out; omega)] at hsr
          have hrl64 : rl.length ≤ 3 := by
            have h1 := trim_len lt
            have h2 := (Kd.R_reads' HW.out.u).1
            rw [hrl]; omega
          have HRL := Aside0.mk hrl
          have HRD := Aside0.mk hrt.dig
          have HSR := Aside0.mk hsr
          have HR64 := Aside0.mk hrl64
          have HGB : Aside0 (0 ≤ G ∧ G < 4294967296) := ⟨hG0, hG1⟩
          have s0 := eq_true HS1.out.1
          have s64 : (s ≤ 64) = True := eq_true (by have := HS1.out; omega)
          have hge1 : decide ((-1 : Int) ≥ 0) = false := rfl
          clear hG0 hG1 dv hte hvl hdl hrt hsr hrl64 hkk
          obtain ⟨K, hK⟩ : ∃ K, K = rl.length := ⟨_, rfl⟩
          have HK := Aside0.mk hK
          clear hK
          go_wp2_with (go_at_call 72; go_loud ((with_reducible refine (trim_R HW.out.u).mono ?_); rintro e w8 ⟨rfl, hb8⟩; rw [← HRL.out, ← HK.out]; have HW8 := Aside0.mk (HW.out.below hb8); have HRR : Aside0 (Kd.R (Kd.int .u32) 74 w8 w.heap.size (fun k => k = gu) (.slice (some ⟨gu, 0, none⟩) K c10) rl) := ⟨by have h1 := R_trim2 HW8.out.u; rw [← HRL.out, ← HK.out] at h1; exact h1⟩; clear hb8))
          go_loopg [174] K (fun gg v174 W => ∃ (i : Int) (dn xs : List Int), v174 = .int .i64 i ∧ Aside0 (0 ≤ i ∧ i = dn.length ∧ i + xs.length = K ∧ xs.length ≤ gg) ∧ Aside0 (D32 xs ∧ dn ++ sr p xs = sr p rl) ∧ Aside0 (Kd.R (Kd.int .u32) 74 W w.heap.size (fun k => k = gu) (.slice (some ⟨gu, 0, none⟩) K c10) (dn ++ xs)) ∧ Aside0 (Kd.R (Kd.int .u32) 74 W w.heap.size (fun k => k = gq) (.slice (some ⟨gq, 0, none⟩) 1 cq) [G]) ∧ Aside0 (Below w.heap.size w W))
          case atStart => exact ⟨0, [], rl, rfl, ⟨by omega, rfl, by have := HK.out; omega, by have := HK.out; omega⟩, ⟨HRD.out, rfl⟩, HRR, ⟨HW8.out.q⟩, ⟨HW8.out.made⟩⟩
          case round =>
            have hguq := HW8.out.ne
            have hgu0 := HW8.out.gu0
            have HNE := Aside0.mk hguq
            have HG0 := Aside0.mk hgu0
            clear HRR HW8 HW hguq hgu0
            obtain ⟨i, dn, xs, rfl, HI, HX, HU, HQ, HB⟩ := hrel
            cases xs with
            | nil =>
              have hlt : decide (i < (K : Int)) = false := decide_eq_false (by have := HI.out; simp at this; omega)
              have hE : dn = sr p rl := by have := HX.out.2; simpa [sr] using this
              have HU2 : Aside0 (Kd.R (Kd.int .u32) 74 wr w.heap.size (fun k => k = gu) (.slice (some ⟨gu, 0, none⟩) K c10) (sr p rl)) := ⟨by have := HU.out; rw [List.append_nil, hE] at this; exact this⟩
              clear hE HX HU
              go_wp2_with (first
                | (go_at_call 72; (with_reducible refine (trim_R HQ.out).mono ?_); go_loud (rintro e w9 ⟨rfl, hb9⟩; have HQ9 := Aside0.mk (Kd.R_below HQ.out hb9); have HU9 := Aside0.mk (Kd.R_below HU2.out hb9); have HB9 := Aside0.mk (below_step HB.out hb9); clear hb9))
                | (go_at_call 72; go_loud ((with_reducible refine (trim_R HU9.out).mono ?_); rintro e w10 ⟨rfl, hb10⟩; have HQ10 := Aside0.mk (Kd.R_below HQ9.out hb10); have HU10 := Aside0.mk (Kd.R_below HU9.out hb10); have HB10 := Aside0.mk (below_step HB9.out hb10); clear hb10)))
              try go_ret2
              rw [HF.out]
              try rw [← HRL.out]
              have h1 := trim_rep (l := [G]) (D32.cons.2 ⟨by have := HGB.out; omega, fun d hd => by cases hd⟩)
              have h2 := trim_rep HSR.out.1
              rw [HSR.out.2.1] at h2
              rw [show vl [G] = G from by simp [vl]] at h1
              exact ⟨_, _, trim [G], trim (sr p rl), rfl, Mg.of_R (R_trim2 HQ10.out), Mg.of_R (R_trim2 HU10.out), by rw [← HGD.out]; exact h1, h2, HB10.out⟩
            | cons x xs =>
              have hin : i < (K : Int) := by have := HI.out; simp at this; omega
              have hi0 : 0 ≤ i := HI.out.1
              have hlt : decide (i < (K : Int)) = true := decide_eq_true hin
              have hdn : i.toNat = dn.length := by have := HI.out; omega
              have hx0 := (D32.cons.1 HX.out.1).1
              have hxs := (D32.cons.1 HX.out.1).2
              have hy0 := hd_le hxs
              have hK3 : (K : Int) ≤ 3 := by have := HK.out; have := HR64.out; omega
              obtain ⟨zx, zf⟩ := Kd.R_celln 0 HU.out i hi0 hin
              have hrx : rdOf 0 (dn ++ x :: xs) i = x := by unfold rdOf; rw [hdn]; simp
              rw [hrx] at zx
              have hwi : wrap64 (i + 1) = i + 1 := bw64 (by omega)
              have p1 := eq_true hi0
              have q1 := eq_true hin
              have hwx : IntKind.u64.wrap x = x := by rw [IntKind.wrap_u64]; omega
              have hX := HX.out.2
              rw [sr] at hX
              obtain ⟨y, hy⟩ : ∃ y, y = hd xs := ⟨_, rfl⟩
              rw [← hy] at hX hy0
              have hwy0 : IntKind.u64.wrap y = y := by rw [IntKind.wrap_u64]; omega
              have hwy : IntKind.u64.wrap (y * 4294967296) = y * 4294967296 := by rw [IntKind.wrap_u64]; omega
              have hor : bits .or .u64 (y * 4294967296) x = y * 4294967296 + x := or_sum 32 (by omega) (by omega) (by omega) (by omega) (by omega) (by omega)
              obtain ⟨e, he⟩ : ∃ e, e = y * 4294967296 + x := ⟨_, rfl⟩
              rw [← he] at hor hX
              have hdd : (e / 2 ^ s.toNat) % 4294967296 = (e / p) % 4294967296 := by rw [HPD.out]
              have hd0 : 0 ≤ (e / p) % 4294967296 ∧ (e / p) % 4294967296 ≤ 4294967295 := by omega
              generalize (e / p) % 4294967296 = d at hdd hd0 hX
              have hset : (dn ++ x :: xs).set i.toNat d = (dn ++ [d]) ++ xs := by rw [hdn]; simp
              have hPut := Kd.R_putg HU.out i d
              rw [hset] at hPut
              have HPut := Aside0.mk hPut
              have HX2 : Aside0 (D32 xs ∧ (dn ++ [d]) ++ sr p xs = sr p rl) := ⟨hxs, by rw [← hX]; simp⟩
              cases xs with
              | nil =>
                have hy0' : y = 0 := by rw [hy]; rfl
                have hlt2 : decide (i + 1 < (K : Int)) = false := decide_eq_false (by have := HI.out; simp at this; omega)
                clear hy hdn hx0 hxs hy0 hrx hX he hd0 hset hPut hK3
                subst hy0'
                have hor0 : bits .or .u64 0 x = e := by rw [Int.zero_mul] at hor; exact hor
                go_wp2_with ((with_reducible refine gate_store (t := 74) (p := 201) rfl ?_); go_loud (refine store_event (t := 74) (p := 201) (v := ?vo_w201) (w1 := (wr.setCell ⟨gu, i.toNat, none⟩ (.int .u32 d))) ?hg ?ho ?hn ?hr ?_; (case ho => rfl); (case hg => rfl); (case hn => rfl); (case hr => first | (go_simp; done) | (go_simp; rfl)); intro w11 hw; have hgg : wr.grownBy w11 (some gu) := (by rw [hw]; exact HPut.out.2); have HU2 : Aside0 (Kd.R (Kd.int .u32) 74 w11 w.heap.size (fun k => k = gu) (.slice (some ⟨gu, 0, none⟩) K c10) ((dn ++ [d]) ++ ([] : List Int))) := ⟨by rw [hw]; exact HPut.out.1⟩; have HQ2 := Aside0.mk (Kd.R_grown HQ.out hgg (fun k hk e => HNE.out (by rw [← hk]; exact (Option.some.inj e).symm))); have HB2 : Aside0 (Below w.heap.size w w11) := ⟨HB.out.grown hgg HB.out.size (fun k e => by cases e; exact HG0.out)⟩; clear hgg hw))
                go_roundg ([] : List Int).length
                case measure => have := HI.out; simp at this ⊢; omega
                case rel => exact ⟨i + 1, dn ++ [d], [], by first | rfl | rw [hwi], ⟨by have := HI.out; omega, by have := HI.out; simp; omega, by have := HI.out; simp at this ⊢; omega, Nat.le_refl _⟩, HX2, HU2, HQ2, HB2⟩
              | cons y2 ys =>
                have hy2 : y = y2 := hy
                have hin2 : i + 1 < (K : Int) := by have := HI.out; simp at this; omega
                have hlt2 : decide (i + 1 < (K : Int)) = true := decide_eq_true hin2
                have p2 : (0 ≤ i + 1) = True := eq_true (by omega)
                have q2 := eq_true hin2
                obtain ⟨zy, _⟩ := Kd.R_celln 0 HU.out (i + 1) (by omega) hin2
                have hry : rdOf 0 (dn ++ x :: y2 :: ys) (i + 1) = y2 := by
                  unfold rdOf
                  have e1 : (i + 1).toNat = dn.length + 1 := by omega
                  rw [e1]
                  simp
                rw [hry] at zy
                subst hy2
                clear hy hdn hx0 hxs hy0 hrx hX he hd0 hset hPut hK3 hin2 hry
                go_wp2_with ((with_reducible refine gate_store (t := 74) (p := 201) rfl ?_); go_loud (refine store_event (t := 74) (p := 201) (v := ?vo_w201) (w1 := (wr.setCell ⟨gu, i.toNat, none⟩ (.int .u32 d))) ?hg ?ho ?hn ?hr ?_; (case ho => rfl); (case hg => rfl); (case hn => rfl); (case hr => first | (go_simp; done) | (go_simp; rfl)); intro w11 hw; have hgg : wr.grownBy w11 (some gu) := (by rw [hw]; exact HPut.out.2); have HU2 : Aside0 (Kd.R (Kd.int .u32) 74 w11 w.heap.size (fun k => k = gu) (.slice (some ⟨gu, 0, none⟩) K c10) ((dn ++ [d]) ++ y :: ys)) := ⟨by rw [hw]; exact HPut.out.1⟩; have HQ2 := Aside0.mk (Kd.R_grown HQ.out hgg (fun k hk e => HNE.out (by rw [← hk]; exact (Option.some.inj e).symm))); have HB2 : Aside0 (Below w.heap.size w w11) := ⟨HB.out.grown hgg HB.out.size (fun k e => by cases e; exact HG0.out)⟩; clear hgg hw))
                go_roundg (y :: ys).length
                case measure => have := HI.out; simp at this ⊢; omega
                case rel => exact ⟨i + 1, dn ++ [d], y :: ys, by first | rfl | rw [hwi], ⟨by have := HI.out; omega, by have := HI.out; simp; omega, by have := HI.out; simp at this ⊢; omega, Nat.le_refl _⟩, HX2, HU2, HQ2, HB2⟩

end Go.Proofs.Ytpcekncfdcofhaa.Q
