/- The program's CompareRatios and the reference's answer alike: the continued fractions tell the sign of a * d - c * b. -/
import Derived.Test.YtpcekncfdcofhaaQ0
import Derived.Test.YtpcekncfdcofhaaQ5
import Derived.Test.YtpcekncfdcofhaaPZero
import Derived.Test.YtpcekncfdcofhaaGComp
namespace Go.Proofs.Ytpcekncfdcofhaa.Pure
open Go.RowKit Go.Proofs.Ytpcekncfdcofhaa.Q Go.Proofs.YtpcekncfdcofhaaW.PrintWords Go.Proofs.YtpcekncfdcofhaaW.PrintLast
set_option linter.unusedVariables false
set_option linter.unusedSimpArgs false

def mx18 (x : Int) : Prop := -1000000000000000000 ≤ x ∧ x ≤ 1000000000000000000
theorem div_size {a b : Int} (ha : mx18 a) (hb : 0 < b ∧ b ≤ 1000000000000000000) : -1000000000000000000 ≤ a / b ∧ a / b ≤ 1000000000000000000 := by
  have h1 := Int.mul_ediv_add_emod a b
  have h2 := Int.emod_nonneg a (show b ≠ 0 by omega)
  have h3 := Int.emod_lt_of_pos a hb.1
  obtain ⟨a1, a2⟩ := ha
  constructor
  · rw [Int.le_ediv_iff_mul_le hb.1]
    have : 1000000000000000000 * 1 ≤ 1000000000000000000 * b := Int.mul_le_mul_of_nonneg_left (by omega) (by omega)
    omega
  · rcases Int.lt_or_le a 0 with h | h
    · have := Int.ediv_neg_of_neg_of_pos h hb.1
      omega
    · exact Int.le_trans (Int.ediv_le_self b h) a2
theorem floor_eq {a b : Int} (ha : mx18 a) (hb : 0 < b ∧ b ≤ 1000000000000000000) : spec_l01Floor.f a b = some (a / b) := by
  have hs := div_size ha hb
  have t1 := Int.mul_tdiv_add_tmod a b
  have hlo : -b < Int.tmod a b ∧ Int.tmod a b < b := by
    rcases Int.lt_or_le a 0 with h0 | h0
    · have k1 := Int.tmod_nonneg (a := -a) b (by omega)
      have k2 := Int.tmod_lt_of_pos (-a) hb.1
      rw [Int.neg_tmod] at k1 k2
      omega
    · have k1 := Int.tmod_nonneg (a := a) b h0
      have k2 := Int.tmod_lt_of_pos a hb.1
      omega
  unfold spec_l01Floor.f
  rw [if_neg (by omega)]
  generalize ht : Int.tdiv a b = t at *
  generalize hm : Int.tmod a b = m at *
  by_cases h : m < 0
  · rw [if_pos h]
    have e : a / b = t - 1 := by
      have e1 : a = (m + b) + b * (t - 1) := by rw [Int.mul_sub]; omega
      rw [e1, Int.add_mul_ediv_left _ _ (show b ≠ 0 by omega), Int.ediv_eq_zero_of_lt (by omega) (by omega), Int.zero_add]
    rw [w64 (x := t) (by omega), w64 (x := t - 1) (by omega), e]
  · rw [if_neg h]
    have e : a / b = t := by
      have e1 : a = m + b * t := by omega
      rw [e1, Int.add_mul_ediv_left _ _ (show b ≠ 0 by omega), Int.ediv_eq_zero_of_lt (by omega) (by omega), Int.zero_add]
    rw [w64 (x := t) (by omega), e]

theorem zform {a b c d p q x y : Int} (ha : b * p + x = a) (hc : d * q + y = c) : a * d - c * b = b * d * (p - q) + (x * d - y * b) := by
  rw [← ha, ← hc, Int.add_mul, Int.add_mul, Int.mul_sub, Int.mul_right_comm b p d, Int.mul_right_comm d q b, Int.mul_comm d b]
  omega
theorem sgn_neg (z : Int) : sgn (-z) = - sgn z := by
  have h1 := sgn_ge z
  have h2 := sgn_ge (-z)
  rcases Int.lt_trichotomy z 0 with h | h | h <;> omega
theorem times_sgn {s z v : Int} (h : sgn z = v) : s * sgn z = s * v := by rw [h]

theorem cmp_ratio : ∀ (n k : Nat) (a b c d s : Int), b.toNat ≤ n → 2 * n + 1 ≤ k → mx18 a → (0 < b ∧ b ≤ 1000000000000000000) → mx18 c → (0 < d ∧ d ≤ 1000000000000000000) → (s = 1 ∨ s = -1) →
    spec_l01Compare.l0 k a b c d s = some (s * sgn (a * d - c * b))
  | 0, k, a, b, c, d, s, hn, hk, ha, hb, hc, hd, hs => by omega
  | n + 1, k, a, b, c, d, s, hn, hk, ha, hb, hc, hd, hs => by
    obtain ⟨k, rfl⟩ : ∃ m, k = m + 2 := ⟨k - 2, by omega⟩
    have sa := div_size ha hb
    have sc := div_size hc hd
    have a1 := Int.mul_ediv_add_emod a b
    have c1 := Int.mul_ediv_add_emod c d
    have a2 := Int.emod_nonneg a (show b ≠ 0 by omega)
    have a3 := Int.emod_lt_of_pos a hb.1
    have c2 := Int.emod_nonneg c (show d ≠ 0 by omega)
    have c3 := Int.emod_lt_of_pos c hd.1
    rw [spec_l01Compare.l0, floor_eq ha hb, floor_eq hc hd]
    simp only [Option.bind_some]
    generalize a / b = p at *
    generalize c / d = q at *
    generalize a % b = x at *
    generalize c % d = y at *
    have hz := zform a1 c1
    have hws : wrap64 (-s) = -s := w64 (by omega)
    have hbd : 0 < b * d := Int.mul_pos hb.1 hd.1
    have hxd : x * d < b * d := Int.mul_lt_mul_of_pos_right a3 hd.1
    have hyb : y * b < d * b := Int.mul_lt_mul_of_pos_right c3 hb.1
    have hdb := Int.mul_comm d b
    have hxd0 : 0 ≤ x * d := Int.mul_nonneg a2 (by omega)
    have hyb0 : 0 ≤ y * b := Int.mul_nonneg c2 (by omega)
    have S := sgn_ge (a * d - c * b)
    obtain ⟨m1, m2⟩ := ha
    obtain ⟨m3, m4⟩ := hc
    by_cases h1 : p < q
    · rw [if_pos h1, hws]
      have h2 : b * d * (p - q) ≤ b * d * (-1) := Int.mul_le_mul_of_nonneg_left (by omega) (by omega)
      have h3 : sgn (a * d - c * b) = -1 := S.2.2.1 (by omega)
      rw [h3]
      congr 1
      omega
    · rw [if_neg h1]
      by_cases h2 : p > q
      · rw [if_pos h2]
        have h3 : b * d * 1 ≤ b * d * (p - q) := Int.mul_le_mul_of_nonneg_left (by omega) (by omega)
        have h4 : sgn (a * d - c * b) = 1 := S.2.2.2.1 (by omega)
        rw [h4]
        congr 1
        omega
      · rw [if_neg h2]
        have e : p = q := by omega
        have hz2 : a * d - c * b = x * d - y * b := by
          rw [hz, e, Int.sub_self, Int.mul_zero, Int.zero_add]
        have e1 : wrap64 (a - wrap64 (p * b)) = x := by
          have hc := Int.mul_comm p b
          rw [w64 (x := p * b) (by omega), w64 (x := a - p * b) (by omega)]
          omega
        have e2 : wrap64 (c - wrap64 (q * d)) = y := by
          have hc := Int.mul_comm q d
          rw [w64 (x := q * d) (by omega), w64 (x := c - q * d) (by omega)]
          omega
        rw [e1, e2]
        by_cases hx : x = 0
        · rw [if_pos hx, spec_l01Compare.j1]
          subst hx
          rw [Int.zero_mul] at hz2
          by_cases hy : y = 0
          · subst hy
            rw [Int.zero_mul] at hz2
            rw [if_pos (by rfl)]
            have h4 : sgn (a * d - c * b) = 0 := S.2.2.2.2 (by omega)
            rw [h4, Int.mul_zero]
          · have hy1 : (y == 0) = false := by rw [beq_eq_false_iff_ne]; exact hy
            have hyp : 0 < y * b := Int.mul_pos (by omega) hb.1
            rw [hy1, if_neg (by simp), if_pos rfl, hws]
            have h4 : sgn (a * d - c * b) = -1 := S.2.2.1 (by omega)
            rw [h4]
            congr 1
            omega
        · rw [if_neg hx, spec_l01Compare.j1, if_neg (by simp), if_neg hx]
          have hxp : 0 < x * d := Int.mul_pos (by omega) hd.1
          by_cases hy : y = 0
          · subst hy
            rw [Int.zero_mul] at hz2
            rw [if_pos rfl]
            have h4 : sgn (a * d - c * b) = 1 := S.2.2.2.1 (by omega)
            rw [h4]
            congr 1
            omega
          · rw [if_neg hy, hws, cmp_ratio n k b x d y (-s) (by omega) (by omega) ⟨by omega, by omega⟩ ⟨by omega, by omega⟩ ⟨by omega, by omega⟩ ⟨by omega, by omega⟩ (by omega), hz2]
            have e3 : b * y - d * x = -(x * d - y * b) := by
              rw [Int.mul_comm b y, Int.mul_comm d x]
              omega
            rw [e3, sgn_neg, Int.neg_mul_neg]

theorem FnExactCompareRatios (a b c d : Int) (_ : (Lit.int .i64 a).wf = true) (_ : (Lit.int .i64 b).wf = true) (_ : (Lit.int .i64 c).wf = true) (_ : (Lit.int .i64 d).wf = true) : ∃ k, laws_FnExactCompareRatios.f k a b c d = some true := by
  refine ⟨2 * b.toNat + 1, ?_⟩
  unfold laws_FnExactCompareRatios.f spec_CompareRatios.f impl_CompareRatios.f
  simp only [in_eq, within_eq, Option.bind_some]
  cases h1 : inR (-1000000000000000000) 1000000000000000000 a with
  | false => simp
  | true =>
    cases h2 : inR (-1000000000000000000) 1000000000000000000 c with
    | false => simp
    | true =>
      cases h3 : inR 1 1000000000000000000 b with
      | false => simp
      | true =>
        cases h4 : inR 1 1000000000000000000 d with
        | false => simp
        | true =>
          have ha := inR_iff h1
          have hc := inR_iff h2
          have hb := inR_iff h3
          have hd := inR_iff h4
          have e1 : spec_l01Compare.f (2 * b.toNat + 1) a b c d = some (sgn (a * d - c * b)) := by
            unfold spec_l01Compare.f
            rw [cmp_ratio b.toNat (2 * b.toNat + 1) a b c d 1 (Nat.le_refl _) (Nat.le_refl _) ha ⟨by omega, hb.2⟩ hc ⟨by omega, hd.2⟩ (Or.inl rfl), Int.one_mul]
          have e2 : impl_compareOf.f a b c d = some (sgn (a * d - c * b)) := by
            unfold impl_compareOf.f
            rw [if_pos ⟨⟨ha, by omega, hb.2⟩, hc, by omega, hd.2⟩]
          simp only [if_true, e1, e2, Option.bind_some]
          simp

end Go.Proofs.Ytpcekncfdcofhaa.Pure
