/- A contract by hand for impl.takeTimes. -/
import Derived.Test.YtpcekncfdcofhaaQ0
import Derived.Test.YtpcekncfdcofhaaGTrim
import Derived.Test.YtpcekncfdcofhaaGSub
namespace Go.Proofs.Ytpcekncfdcofhaa.Q
open Go.RowKit Go.Proofs.YtpcekncfdcofhaaW.PrintWords Go.Proofs.YtpcekncfdcofhaaW.PrintLast Go.Proofs.YtpcekncfdcofhaaW.PrintMore
set_option linter.unusedVariables false
set_option linter.unusedSimpArgs false

def hd (l : List Int) : Int := l.headD 0
/-- Digits less so many times others: what is left, the carry and the borrow behind the last one. -/
def tk (t : Int) : List Int → List Int → Int → Int → List Int × Int × Int
  | [], _, c, b => ([], c, b)
  | u :: us, vs, c, b => (dif u ((c + t * hd vs) % 4294967296) b :: (tk t us vs.tail ((c + t * hd vs) / 4294967296) (brw u ((c + t * hd vs) % 4294967296) b)).1, (tk t us vs.tail ((c + t * hd vs) / 4294967296) (brw u ((c + t * hd vs) % 4294967296) b)).2)
theorem tk_len (t : Int) : ∀ (us vs : List Int) (c b : Int), (tk t us vs c b).1.length = us.length
  | [], _, _, _ => rfl
  | u :: us, vs, c, b => by simp [tk, tk_len t us]
theorem hd_le {l : List Int} (h : D32 l) : 0 ≤ hd l ∧ hd l ≤ 4294967295 := by
  cases l with
  | nil => simp [hd]
  | cons d l => exact (D32.cons.1 h).1
theorem D32.tail {l : List Int} (h : D32 l) : D32 l.tail := fun d hd => h d (List.mem_of_mem_tail hd)
theorem mul_le {a b m n : Int} (ha : 0 ≤ a ∧ a ≤ m) (hb : 0 ≤ b ∧ b ≤ n) (hm : 0 ≤ m) : 0 ≤ a * b ∧ a * b ≤ m * n := ⟨Int.mul_nonneg ha.1 hb.1, Int.mul_le_mul ha.2 hb.2 hb.1 hm⟩
theorem tk_c {t c : Int} {vs : List Int} (ht : 0 ≤ t ∧ t ≤ 4294967295) (hc : 0 ≤ c ∧ c ≤ 4294967295) (hv : D32 vs) : (0 ≤ c + t * hd vs ∧ c + t * hd vs ≤ 18446744069414584320) ∧ (0 ≤ t * hd vs ∧ t * hd vs ≤ 18446744065119617025) := by
  have := mul_le ht (hd_le hv) (by omega)
  omega
theorem tk_ok (t : Int) (ht : 0 ≤ t ∧ t ≤ 4294967295) : ∀ (us vs : List Int) (c b : Int), D32 us → D32 vs → (0 ≤ c ∧ c ≤ 4294967295) → (0 ≤ b ∧ b ≤ 1) →
    D32 (tk t us vs c b).1 ∧ (0 ≤ (tk t us vs c b).2.1 ∧ (tk t us vs c b).2.1 ≤ 4294967295) ∧ (0 ≤ (tk t us vs c b).2.2 ∧ (tk t us vs c b).2.2 ≤ 1) ∧
    (us.length ≥ vs.length → vl (tk t us vs c b).1 = vl us - c - b - t * vl vs + 4294967296 ^ us.length * ((tk t us vs c b).2.1 + (tk t us vs c b).2.2))
  | [], vs, c, b, _, _, hc, hb => by
    refine ⟨fun d hd => by simp [tk] at hd, hc, hb, fun hl => ?_⟩
    have : vs = [] := List.eq_nil_of_length_eq_zero (by simpa using hl)
    subst this
    simp [tk, vl]
    omega
  | u :: us, vs, c, b, hu, hv, hc, hb => by
    obtain ⟨hu1, hu2⟩ := D32.cons.1 hu
    obtain ⟨⟨k1, k2⟩, k3⟩ := tk_c ht hc hv
    have hx : 0 ≤ (c + t * hd vs) % 4294967296 ∧ (c + t * hd vs) % 4294967296 ≤ 4294967295 := by omega
    have ih := tk_ok t ht us vs.tail ((c + t * hd vs) / 4294967296) (brw u ((c + t * hd vs) % 4294967296) b) hu2 hv.tail (by omega) (brw_le _ _ _)
    obtain ⟨i1, i2, i3, i4⟩ := ih
    have hd1 := dif_eq hu1 hx hb
    refine ⟨D32.cons.2 ⟨hd1.2, i1⟩, i2, i3, fun hl => ?_⟩
    have hl' : us.length ≥ vs.tail.length := by simp at hl ⊢; omega
    have e := i4 hl'
    have ev : vl vs = hd vs + 4294967296 * vl vs.tail := by cases vs <;> simp [vl, hd]
    show dif u ((c + t * hd vs) % 4294967296) b + 4294967296 * vl (tk t us vs.tail ((c + t * hd vs) / 4294967296) (brw u ((c + t * hd vs) % 4294967296) b)).1 = _
    rw [e, ev]
    have eb : dif u ((c + t * hd vs) % 4294967296) b = u - (c + t * hd vs) % 4294967296 - b + 4294967296 * brw u ((c + t * hd vs) % 4294967296) b := by
      unfold dif brw; split <;> omega
    rw [eb, show (tk t (u :: us) vs c b).2 = (tk t us vs.tail ((c + t * hd vs) / 4294967296) (brw u ((c + t * hd vs) % 4294967296) b)).2 from rfl, List.length_cons, show vl (u :: us) = u + 4294967296 * vl us from rfl]
    generalize brw u ((c + t * hd vs) % 4294967296) b = b1
    generalize (tk t us vs.tail ((c + t * hd vs) / 4294967296) b1).2.1 + (tk t us vs.tail ((c + t * hd vs) / 4294967296) b1).2.2 = s
    rw [Int.pow_succ, Int.mul_add t, Int.mul_comm ((4294967296 : Int) ^ us.length) 4294967296, Int.mul_assoc 4294967296 ((4294967296 : Int) ^ us.length) s]
    have e5 : t * (4294967296 * vl vs.tail) = 4294967296 * (t * vl vs.tail) := by
      rw [← Int.mul_assoc, Int.mul_comm t 4294967296, Int.mul_assoc]
    rw [e5]
    generalize t * vl vs.tail = tv
    generalize (4294967296 : Int) ^ us.length * s = ps
    generalize t * hd vs = th at *
    generalize vl us = vu
    omega

/-- So many times other digits are taken from digits that are not less: nothing is borrowed. -/
theorem tk_exact {t : Int} (ht : 0 ≤ t ∧ t ≤ 4294967295) {us vs : List Int} (hu : D32 us) (hv : D32 vs) (hl : us.length ≥ vs.length) (hge : t * vl vs ≤ vl us) (hv0 : 0 ≤ t * vl vs) : (tk t us vs 0 0).2.2 = 0 ∧ vl (tk t us vs 0 0).1 = vl us - t * vl vs ∧ D32 (tk t us vs 0 0).1 := by
  obtain ⟨h1, h2, h3, h4⟩ := tk_ok t ht us vs 0 0 hu hv (by omega) (by omega)
  have e := h4 hl
  have hub : ∀ l : List Int, D32 l → vl l < 4294967296 ^ l.length := by
    intro l
    induction l with
    | nil => intro _; simp [vl]
    | cons d l ih =>
      intro hd
      obtain ⟨d1, d2⟩ := D32.cons.1 hd
      have := ih d2
      rw [vl, List.length_cons, Int.pow_succ]
      omega
  have b1 := hub us hu
  have b2 := hub _ h1
  have b3 := vl_nn h1
  rw [tk_len] at b2
  generalize hs : (tk t us vs 0 0).2.1 + (tk t us vs 0 0).2.2 = s at e
  generalize hp : (4294967296 : Int) ^ us.length = p at e b1 b2
  have hs0 : s = 0 := by
    by_cases h : s = 0
    · exact h
    · have : 1 ≤ s := by omega
      have : p * 1 ≤ p * s := Int.mul_le_mul_of_nonneg_left this (by omega)
      omega
  subst hs0
  refine ⟨by omega, by rw [e]; simp, h1⟩

set_option maxHeartbeats 8000000 in
set_option maxRecDepth 100000 in
theorem take_calls (t : Int) (ht : 0 ≤ t ∧ t ≤ 4294967295) (bs bv g cap : Nat) (u v : List Int) (A1 : Option Addr) (c1 : Nat) (w : World) (hu : Kd.R (Kd.int .u32) 74 w bs (fun k => k = g) (.slice (some ⟨g, 0, none⟩) u.length cap) u)
    (hv : Kd.R (Kd.int .u32) 74 w bv (fun k => k ≠ g) (.slice A1 v.length c1) v) (du : D32 u) (dv : D32 v) (hl : u.length ≤ 1000) :
    Calls Try.prog 78 #[.slice (some ⟨g, 0, none⟩) u.length cap, .slice A1 v.length c1, .int .u32 t] w fun e W => e = .returned (.bool (decide ((tk t u v 0 0).2.2 > 0))) ∧ Kd.R (Kd.int .u32) 74 W bs (fun k => k = g) (.slice (some ⟨g, 0, none⟩) u.length cap) (tk t u v 0 0).1 ∧ w.grownBy W (some g) := by
  have hu52 := Try.underlying52
  have hu74 := Try.underlying74
  have hu76 := Try.underlying76
  obtain ⟨F, hF⟩ : ∃ F, F = tk t u v 0 0 := ⟨_, rfl⟩
  rw [← hF]
  have HF := Aside0.mk hF
  have HU := Aside0.mk hu
  have HV := Aside0.mk hv
  have HL := Aside0.mk hl
  have HT := Aside0.mk ht
  have HDU := Aside0.mk du
  have HDV := Aside0.mk dv
  obtain ⟨n, hn⟩ : ∃ n, n = u.length := ⟨_, rfl⟩
  have HN := Aside0.mk hn
  clear hF hu hv hl ht du dv
  rw [← hn] at HU ⊢
  clear hn
  have hwt : IntKind.u64.wrap t = t := by have := HT.out; rw [IntKind.wrap_u64]; omega
  go_enter Try.func78, Try.ntmps78
  go_wp2
  go_loopg [7, 8, 12] n (fun gg v7 v8 v12 W => ∃ (i c b : Int) (dn us : List Int), v7 = .int .u64 c ∧ v8 = .int .u32 b ∧ v12 = .int .i64 i ∧ Aside0 (0 ≤ i ∧ i + us.length = n ∧ us.length ≤ gg ∧ (dn.length : Int) = i) ∧ Aside0 ((0 ≤ c ∧ c ≤ 4294967295) ∧ (0 ≤ b ∧ b ≤ 1) ∧ D32 us) ∧
    Aside0 ((dn ++ (tk t us (v.drop i.toNat) c b).1, (tk t us (v.drop i.toNat) c b).2) = F) ∧ Aside0 (Kd.R (Kd.int .u32) 74 W bs (fun k => k = g) (.slice (some ⟨g, 0, none⟩) n cap) (dn ++ us)) ∧ Aside0 (Kd.R (Kd.int .u32) 74 W bv (fun k => k ≠ g) (.slice A1 v.length c1) v) ∧ Aside0 (w.grownBy W (some g)))
  case atStart => exact ⟨0, 0, 0, [], u, rfl, rfl, rfl, ⟨by omega, by have := HN.out; omega, by have := HN.out; omega, rfl⟩, ⟨by omega, by omega, HDU.out⟩, ⟨HF.out.symm⟩, HU, HV, ⟨World.grownBy.refl _ _⟩⟩
  case round =>
    clear HU HV HF
    obtain ⟨i, c, b, dn, us, rfl, rfl, rfl, HI, HB, HF, HU, HV, HG⟩ := hrel
    cases us with
    | nil =>
      have hlt : decide (i < (n : Int)) = false := decide_eq_false (by have := HI.out; simp at this; omega)
      have hF : (dn, c, b) = F := by have := HF.out; simpa [tk] using this
      clear HF
      go_wp2
      go_ret
      subst hF
      exact ⟨rfl, by simpa using HU.out, HG.out⟩
    | cons x us =>
      have hin : i < (n : Int) := by have := HI.out; simp at this; omega
      have hi0 : 0 ≤ i := HI.out.1
      have hlt : decide (i < (n : Int)) = true := decide_eq_true hin
      have hF := HF.out
      rw [tk] at hF
      have hdn : (dn.length : Int) = i := HI.out.2.2.2
      have hrx : rdOf 0 (dn ++ x :: us) i = x := by
        rw [← hdn]; simp [rdOf]
      have hlen : (dn ++ x :: us).length = n := by have := HI.out; simp at this ⊢; omega
      have hx0 := (D32.cons.1 HB.out.2.2).1
      have hsetx : ∀ y, (dn ++ x :: us).set i.toNat y = (dn ++ [y]) ++ us := fun y => by
        have : i.toNat = dn.length := by omega
        rw [this]; simp
      obtain ⟨hz0, hz1⟩ := Kd.R_celln 0 HU.out i hi0 hin
      rw [hrx] at hz0
      have htl : (v.drop i.toNat).tail = v.drop (i + 1).toNat := by
        have : (i + 1).toNat = i.toNat + 1 := by omega
        rw [this, List.tail_drop]
      rw [htl] at hF
      obtain ⟨q, hq⟩ : ∃ q, q = hd (v.drop i.toNat) := ⟨_, rfl⟩
      rw [← hq] at hF
      have hqb : 0 ≤ q ∧ q ≤ 4294967295 := by rw [hq]; exact hd_le (HDV.out.drop _)
      have hmul := mul_le HT.out hqb (by omega)
      have hcb := HB.out.1
      have hbb := HB.out.2.1
      obtain ⟨c1', hc1'⟩ : ∃ c1', c1' = c + t * q := ⟨_, rfl⟩
      rw [← hc1'] at hF
      have hxm : 0 ≤ c1' % 4294967296 ∧ c1' % 4294967296 ≤ 4294967295 := by omega
      have hS := Sub32_calls x (c1' % 4294967296) b hx0 hxm hbb
      have HS := Aside0.mk hS
      obtain ⟨y, hy⟩ : ∃ y, y = dif x (c1' % 4294967296) b := ⟨_, rfl⟩
      obtain ⟨b', hb'⟩ : ∃ b', b' = brw x (c1' % 4294967296) b := ⟨_, rfl⟩
      rw [← hy, ← hb'] at hF HS
      have hPut := Kd.R_putg HU.out i y
      rw [hsetx y] at hPut
      have HPut := Aside0.mk hPut
      have HF2 : Aside0 (((dn ++ [y]) ++ (tk t us (v.drop (i + 1).toNat) (c1' / 4294967296) b').1, (tk t us (v.drop (i + 1).toNat) (c1' / 4294967296) b').2) = F) := ⟨by rw [← hF]; simp⟩
      have HB2 : Aside0 ((0 ≤ c1' / 4294967296 ∧ c1' / 4294967296 ≤ 4294967295) ∧ (0 ≤ b' ∧ b' ≤ 1) ∧ D32 us) := ⟨by omega, by rw [hb']; exact brw_le _ _ _, (D32.cons.1 HB.out.2.2).2⟩
      have hwc : IntKind.u32.wrap c1' = c1' % 4294967296 := by rw [IntKind.wrap_u32]
      have hwi : wrap64 (i + 1) = i + 1 := bw64 (by have := HN.out; have := HL.out; omega)
      have p1 := eq_true hi0
      have q1 := eq_true hin
      by_cases hiv : i < (v.length : Int)
      · have hdv : decide (i < (v.length : Int)) = true := decide_eq_true hiv
        obtain ⟨ad, eA, hz2⟩ := Kd.at_int (Kd.R_reads' HV.out).2.2 i hi0 hiv
        have hqr : rd v i = q := by
          rw [hq]
          have hl : i.toNat < v.length := by omega
          unfold hd rd
          rw [List.drop_eq_getElem_cons hl]
          simp [hl]
        rw [hqr] at hz2
        cases eA
        have q2 := eq_true hiv
        have hwm : IntKind.u64.wrap (t * q) = t * q := by rw [IntKind.wrap_u64]; omega
        have hwa : IntKind.u64.wrap (c + t * q) = c1' := by rw [IntKind.wrap_u64, ← hc1']; omega
        have hwq : IntKind.u64.wrap q = q := by rw [IntKind.wrap_u64]; omega
        clear hF hdn hrx hlen hsetx htl hqr hmul hcb hbb hxm hS hPut hin hi0 hiv hx0 hqb hq hc1' hy hb' HF
        go_wp2_with (first
          | (go_at_call 80; go_loud (refine (HS.out _).mono ?_; rintro e w2 ⟨rfl, hw2⟩; replace hw2 := hw2.symm; subst hw2))
          | ((with_reducible refine gate_store (t := 74) (p := 42) rfl ?_); go_loud (refine store_event (t := 74) (p := 42) (v := ?vo_w11) (w1 := (wr.setCell ⟨g, i.toNat, none⟩ (.int .u32 y))) ?hg ?ho ?hn ?hr ?_; (case ho => rfl); (case hg => rfl); (case hn => rfl); (case hr => first | (go_simp; done) | (go_simp; rfl)); intro w11 hw; have HU2 : Aside0 (Kd.R (Kd.int .u32) 74 w11 bs (fun k => k = g) (.slice (some ⟨g, 0, none⟩) n cap) ((dn ++ [y]) ++ us)) := ⟨by rw [hw]; exact HPut.out.1⟩; have hgg : wr.grownBy w11 (some g) := (by rw [hw]; exact HPut.out.2); have HV2 := Aside0.mk (Kd.R_grown HV.out hgg (fun k hk e => hk (Option.some.inj e))); have HG2 := Aside0.mk (HG.out.trans hgg); clear hgg hw)))
        go_roundg us.length
        case measure => have := HI.out; simp at this; omega
        case rel => exact ⟨i + 1, c1' / 4294967296, b', dn ++ [y], us, by first | rfl | simp, rfl, by first | rfl | rw [hwi], ⟨by have := HI.out; omega, by have := HI.out; simp at this; omega, Nat.le_refl _, by have := HI.out; simp; omega⟩, HB2, HF2, HU2, HV2, HG2⟩
      · have hdv : decide (i < (v.length : Int)) = false := decide_eq_false hiv
        have hq0 : q = 0 := by
          rw [hq, List.drop_eq_nil_of_le (by omega)]
          rfl
        have hcc : c1' = c := by rw [hc1', hq0]; simp
        clear hiv hq
        subst hq0
        subst hcc
        clear hF hdn hrx hlen hsetx htl hmul hcb hbb hxm hS hPut hin hi0 hx0 hqb hc1' hy hb' HF
        go_wp2_with (first
          | (go_at_call 80; go_loud (refine (HS.out _).mono ?_; rintro e w2 ⟨rfl, hw2⟩; replace hw2 := hw2.symm; subst hw2))
          | ((with_reducible refine gate_store (t := 74) (p := 42) rfl ?_); go_loud (refine store_event (t := 74) (p := 42) (v := ?vo_w11) (w1 := (wr.setCell ⟨g, i.toNat, none⟩ (.int .u32 y))) ?hg ?ho ?hn ?hr ?_; (case ho => rfl); (case hg => rfl); (case hn => rfl); (case hr => first | (go_simp; done) | (go_simp; rfl)); intro w11 hw; have HU2 : Aside0 (Kd.R (Kd.int .u32) 74 w11 bs (fun k => k = g) (.slice (some ⟨g, 0, none⟩) n cap) ((dn ++ [y]) ++ us)) := ⟨by rw [hw]; exact HPut.out.1⟩; have hgg : wr.grownBy w11 (some g) := (by rw [hw]; exact HPut.out.2); have HV2 := Aside0.mk (Kd.R_grown HV.out hgg (fun k hk e => hk (Option.some.inj e))); have HG2 := Aside0.mk (HG.out.trans hgg); clear hgg hw)))
        go_roundg us.length
        case measure => have := HI.out; simp at this; omega
        case rel => exact ⟨i + 1, c1' / 4294967296, b', dn ++ [y], us, by first | rfl | simp, rfl, by first | rfl | rw [hwi], ⟨by have := HI.out; omega, by have := HI.out; simp at this; omega, Nat.le_refl _, by have := HI.out; simp; omega⟩, HB2, HF2, HU2, HV2, HG2⟩

end Go.Proofs.Ytpcekncfdcofhaa.Q
