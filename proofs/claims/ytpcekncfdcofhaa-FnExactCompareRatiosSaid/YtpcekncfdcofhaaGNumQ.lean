/- Contracts by hand for the methods of impl.bigInt: divMag joined, Abs, Sign. -/
import Derived.Test.YtpcekncfdcofhaaQ0
import Derived.Test.YtpcekncfdcofhaaGNumP
namespace Go.Proofs.Ytpcekncfdcofhaa.Q
open Go.RowKit Go.Proofs.YtpcekncfdcofhaaW.PrintWords Go.Proofs.YtpcekncfdcofhaaW.PrintLast Go.Proofs.YtpcekncfdcofhaaW.PrintMore
set_option linter.unusedVariables false
set_option linter.unusedSimpArgs false

theorem Rep.fits {l : List Int} {n : Int} (h : Rep l n) (k : Nat) (hn : n < 4294967296 ^ k) : l.length ≤ k := by
  rcases h.len with ⟨h1, h2⟩ | ⟨h1, h2, h3⟩
  · omega
  · rcases Nat.lt_or_ge k l.length with hk | hk
    · have := pmono (show k ≤ l.length - 1 by omega)
      omega
    · exact hk

theorem div_calls (A0 : Option Addr) (c0 : Nat) (a : List Int) (A1 : Option Addr) (c1 : Nat) (b : List Int) (n m : Int) (w : World) (hr0 : Kd.C (Kd.int .u32) w A0 a.length a) (hc0 : a.length ≤ c0) (hr1 : Kd.C (Kd.int .u32) w A1 b.length b) (hc1 : b.length ≤ c1)
    (ha : Rep a n) (hb : Rep b m) (hn : n < 18446744073709551616) (hm : 0 < m ∧ m < 18446744073709551616) :
    Calls Try.prog 74 #[.slice A0 a.length c0, .slice A1 b.length c1] w (DivPost w n m) := by
  have la := ha.fits 2 hn
  have lb := hb.fits 2 hm.2
  by_cases hlt : n < m
  · exact div_less A0 c0 a A1 c1 b n m w hr0 hc0 hr1 hc1 ha hb (by omega) hlt
  · match b, hb, lb, hr1, hc1 with
    | [], hb, _, _, _ => have := hb.val; simp only [vl] at this; omega
    | [b0], hb, _, hr1, hc1 =>
      have hv := hb.val
      simp only [vl] at hv
      have e : b0 = m := by omega
      subst e
      exact div_one A0 c0 a A1 c1 b0 n w hr0 hc0 hr1 hc1 ha hb (by omega) hlt
    | [b0, b1], hb, _, hr1, hc1 =>
      have hv := hb.val
      have hl := hb.last (by simp)
      simp [rd] at hl
      obtain ⟨d0, d1⟩ := D32.cons.1 hb.dig
      have d1 := (D32.cons.1 d1).1
      simp only [vl] at hv
      match a, ha, la, hr0, hc0 with
      | [], ha, _, _, _ => have := ha.val; simp only [vl] at this; omega
      | [a0], ha, _, _, _ =>
        have hv2 := ha.val
        simp only [vl] at hv2
        have := (D32.cons.1 ha.dig).1
        omega
      | [a0, a1], ha, _, hr0, hc0 =>
        have hv2 := ha.val
        have hl2 := ha.last (by simp)
        simp [rd] at hl2
        obtain ⟨e0, e1⟩ := D32.cons.1 ha.dig
        have e1 := (D32.cons.1 e1).1
        simp only [vl] at hv2
        have en : n = a0 + 4294967296 * a1 := by omega
        have em : m = b0 + 4294967296 * b1 := by omega
        rw [en, em] at hlt ⊢
        exact div_two a0 a1 b0 b1 e0 e1 d0 (by omega) hl2 A0 c0 A1 c1 w hr0 hc0 hr1 hc1 hlt
      | _ :: _ :: _ :: _, _, la, _, _ => simp at la
    | _ :: _ :: _ :: _, _, lb, _, _ => simp at lb

set_option maxHeartbeats 8000000 in
set_option maxRecDepth 100000 in
theorem abs_calls (g h : Nat) (z : Int) (w : World) (hR : Rc w g) (hN : Nm g w h 0 z) (hz : -1000000000000000000 ≤ z ∧ z ≤ 1000000000000000000) :
    Calls Try.prog 70 #[.pointer (some ⟨g, 0, none⟩), .pointer (some ⟨h, 0, none⟩)] w fun e w' => e = .returned (.pointer (some ⟨g, 0, none⟩)) ∧ Nm w'.heap.size w' g 0 (z.natAbs : Int) ∧ Below g w w' := by
  have hu54 := Try.underlying54
  have hu58 := Try.underlying58
  have hu52 := Try.underlying52
  obtain ⟨hlo, A0, c0, a, h1, h2, h3, h4, h5, h6⟩ := hN
  have la := h5.fits 2 (show (z.natAbs : Int) < 4294967296 ^ 2 by show _ < (18446744073709551616 : Int); omega)
  have HR := Aside0.mk hR
  have HL := Aside0.mk la
  have HC0 := Aside0.mk h4
  have HREP := Aside0.mk h5
  clear hR la h4 h5 h6 hz hlo
  go_enter Try.func70, Try.ntmps70
  go_wp2_with (first
    | ((with_reducible refine gate_dst (N := 6) rfl ?_); go_loud (refine Kd.R_lit (Kd.int .u32) (w0 := w) w.heap.size 74 ?hg (N := 6) ?hd (xs := ([] : List Int)) (inner := []) (ok := fun _ => True) (okp := fun _ => True) ?hr ?hp (fun _ hk => hk) trivial (Below.refl _ _) (Nat.le_refl _) (by simp) ?_; (case hd => rfl); (case hg => rfl); (case hr => first | (go_simp; done) | (go_simp; rfl)); (case hp => exact (Reps.none _ _)); intro v6 w3 ho3 hb3 hg_ hnew_; clear hg_ hnew_; have HO3 := Aside0.mk ho3; have HB3 := Aside0.mk hb3; have k1 : w3.cell? ⟨h, 1, none⟩ = some (.slice A0 a.length c0) := (hb3.cell (World.block_lt_of_cell? w _ h2)).trans h2; clear ho3 hb3))
    | ((with_reducible refine gate_builtin (b := .append) (xs := #[.tmp 6, .tmp 10]) rfl ?_); at_builtin; go_loud (refine Kd.R_append_rows (Kd.int .u32) (Rr := (Kd.int .u32).K w) (w0 := w) w.heap.size rfl (.tmp 6) (.tmp 10) 52 74 (.int .u32 0) 4 rfl hu52 info74 rfl (by decide) (by omega) v6 ([] : List Int) a A0 a.length c0 (fun _ => True) (fun _ => False) rfl rfl ?aO ?aR ?aM (fun _ hk => hk.elim) ?aF ?aB ?aS ?aL ?_; (case aO => exact HO3.out); (case aR => exact ReadsRow.imp_ HC0.out HB3.out (fun _ _ hp => hp)); (case aM => exact fun x cs hx => K_self _ _ _ x cs hx); (case aF => exact fun _ _ => trivial); (case aB => exact HB3.out); (case aS => exact HB3.out.size); (case aL => have := HL.out; simp; omega); intro v11 w4 ho hb hg hat; rw [List.nil_append] at ho; obtain ⟨A11, c11, e11⟩ := Kd.R_slice ho; subst e11; have HO4 := Aside0.mk ho; have HB4 := Aside0.mk hb; clear ho hb hg hat))
    | (go_at_call 60; go_loud (with_reducible refine (put_calls g _ A11 _ c11 _ (HR.out.below HR.out.lt HB4.out)).mono ?_; rintro e w5 ⟨rfl, hp⟩; have HP := Aside0.mk hp; clear hp)))
  go_ret
  refine ⟨rfl, Nm.put (Mg.of_R HO4.out) (HR.out.below HR.out.lt HB4.out) HP.out (by have := HREP.out; rwa [Int.natAbs_natCast]) ?_, Below.trans (HB4.out.mono (Nat.le_of_lt HR.out.lt)) HP.out.bl⟩
  rw [decide_eq_false (show ¬ (z.natAbs : Int) < 0 by omega)]; rfl

set_option maxHeartbeats 8000000 in
set_option maxRecDepth 100000 in
theorem sign_calls (h o B : Nat) (z : Int) (w : World) (hN : Nm B w h o z) :
    Calls Try.prog 56 #[.pointer (some ⟨h, o, none⟩)] w fun e w' => e = .returned (.int .i64 (if z < 0 then -1 else if 0 < z then 1 else 0)) ∧ Drawn0 w w' := by
  have hu54 := Try.underlying54
  have hu58 := Try.underlying58
  have hu52 := Try.underlying52
  obtain ⟨hlo, A0, c0, a, h1, h2, h3, h4, h5, h6⟩ := hN
  obtain ⟨R, hR⟩ : ∃ R, R = (if z < 0 then -1 else if 0 < z then 1 else 0 : Int) := ⟨_, rfl⟩
  rw [← hR]
  have hp := h5.pos
  by_cases hneg : z < 0
  · rw [if_pos hneg] at hR
    rw [decide_eq_true hneg] at h1
    subst hR
    clear h3 h4 h5 h6 hp hneg hlo
    go_enter Try.func56, Try.ntmps56
    go_wp2
    go_ret
    exact ⟨rfl, by repeat (first | exact Drawn0.refl _ | apply Drawn0.step)⟩
  · rw [if_neg hneg] at hR
    rw [decide_eq_false hneg] at h1
    by_cases hpos : 0 < z
    · rw [if_pos hpos] at hR
      have hl : decide (0 < a.length) = true := by rw [hp]; exact decide_eq_true (by omega)
      have hl2 : 0 < a.length := of_decide_eq_true hl
      have hl3 : decide ((a.length : Int) > 0) = true := decide_eq_true (by omega)
      subst hR
      clear h3 h4 h5 h6 hp hneg hlo hpos
      go_enter Try.func56, Try.ntmps56
      go_wp2
      go_ret
      exact ⟨rfl, by repeat (first | exact Drawn0.refl _ | apply Drawn0.step)⟩
    · rw [if_neg hpos] at hR
      have hl : decide (0 < a.length) = false := by rw [hp]; exact decide_eq_false (by omega)
      have hl2 : a.length = 0 := by have := of_decide_eq_false hl; omega
      have hl3 : a = [] := List.length_eq_zero_iff.1 hl2
      subst hl3
      subst hR
      clear h3 h4 h5 h6 hp hneg hlo hpos hl hl2
      go_enter Try.func56, Try.ntmps56
      go_wp2
      go_ret
      exact ⟨rfl, by repeat (first | exact Drawn0.refl _ | apply Drawn0.step)⟩

end Go.Proofs.Ytpcekncfdcofhaa.Q
