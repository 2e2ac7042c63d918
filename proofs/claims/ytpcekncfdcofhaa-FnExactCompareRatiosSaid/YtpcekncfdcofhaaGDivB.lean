/- Plain lemmas for impl.divMag: how far the digits are shifted, and what they are then. -/
import Derived.Test.YtpcekncfdcofhaaQ0
import Derived.Test.YtpcekncfdcofhaaGDivA
import Derived.Test.YtpcekncfdcofhaaGLz
import Derived.Lib.ItoaNum
namespace Go.Proofs.Ytpcekncfdcofhaa.Q
open Go.RowKit Go.Proofs.YtpcekncfdcofhaaW.PrintWords Go.Proofs.YtpcekncfdcofhaaW.PrintLast Go.Proofs.YtpcekncfdcofhaaW.PrintMore
set_option linter.unusedVariables false
set_option linter.unusedSimpArgs false

theorem two_tab : ∀ L : Fin 33, 1 ≤ L.val → (2 : Int) ^ (L.val - 1) * 2 ^ (32 - L.val) = 2147483648 ∧ (2 : Int) ^ L.val * 2 ^ (32 - L.val) = 4294967296 := by decide
theorem shift_amount {b : Int} (hb : 1 ≤ b ∧ b ≤ 4294967295) : (0 ≤ 32 - (Lib.bitLen b.toNat : Int) ∧ 32 - (Lib.bitLen b.toNat : Int) ≤ 31) ∧ 2147483648 ≤ b * 2 ^ (32 - (Lib.bitLen b.toNat : Int)).toNat ∧ (b + 1) * 2 ^ (32 - (Lib.bitLen b.toNat : Int)).toNat ≤ 4294967296 := by
  have h32 := Go.Proofs.Any.bitLen_le32 b (by omega) hb.2
  obtain ⟨h1, h2, h3⟩ := Lib.bitLenAux_bounds 64 b.toNat (by omega) (by omega)
  have h2' : 2 ^ (Lib.bitLen b.toNat - 1) ≤ b.toNat := h2
  have h3' : b.toNat < 2 ^ Lib.bitLen b.toNat := h3
  have h1' : 1 ≤ Lib.bitLen b.toNat := h1
  clear h1 h2 h3
  generalize Lib.bitLen b.toNat = L at *
  obtain ⟨t1, t2⟩ := two_tab ⟨L, by omega⟩ h1'
  simp only at t1 t2
  have e : (32 - (L : Int)).toNat = 32 - L := by omega
  rw [e]
  have c1 : (2 : Int) ^ (L - 1) ≤ b := by
    have := Int.ofNat_le.2 h2'
    rw [Int.natCast_pow] at this
    have e2 : ((b.toNat : Nat) : Int) = b := by omega
    rw [e2] at this
    exact this
  have c2 : b + 1 ≤ (2 : Int) ^ L := by
    have := Int.ofNat_lt.2 h3'
    rw [Int.natCast_pow] at this
    have e2 : ((b.toNat : Nat) : Int) = b := by omega
    rw [e2] at this
    exact this
  have p0 : (0 : Int) ≤ 2 ^ (32 - L) := Int.le_of_lt (Int.pow_pos (by decide))
  refine ⟨by omega, ?_, ?_⟩
  · rw [← t1]; exact Int.mul_le_mul_of_nonneg_right c1 p0
  · rw [← t2]; exact Int.mul_le_mul_of_nonneg_right c2 p0

theorem len_small {l : List Int} (h : D32 l) (h1 : 4294967296 ≤ vl l) : 2 ≤ l.length := by
  match l, h, h1 with
  | [], _, h1 => simp [vl] at h1
  | [x], h, h1 =>
    have := (D32.cons.1 h).1
    simp [vl] at h1
    omega
  | x :: y :: l, _, _ => simp
theorem Rep.small {l : List Int} {n : Int} (h : Rep l n) (h1 : n < 18446744073709551616) : l.length ≤ 2 := by
  match l, h with
  | [], _ => simp
  | [x], _ => simp
  | [x, y], _ => simp
  | x :: y :: z :: l, h =>
    rcases h.len with ⟨h2, _⟩ | ⟨_, h2, _⟩
    · simp at h2
    · have := pmono (i := 2) (j := (x :: y :: z :: l).length - 1) (by simp)
      have e : (4294967296 : Int) ^ 2 = 18446744073709551616 := by decide
      omega

/-- What the divisor's digits are when they have been shifted. -/
theorem norm_v {b0 b1 p : Int} (h0 : 0 ≤ b0 ∧ b0 ≤ 4294967295) (h1 : 1 ≤ b1 ∧ b1 ≤ 4294967295) (hp : 1 ≤ p ∧ p ≤ 2147483648) (hlo : 2147483648 ≤ b1 * p) (hhi : (b1 + 1) * p ≤ 4294967296) :
    ∃ v0 v1, trim (sh p [b0, b1] 0) = [v0, v1] ∧ (0 ≤ v0 ∧ v0 ≤ 4294967295) ∧ (2147483648 ≤ v1 ∧ v1 ≤ 4294967295) ∧ v0 + 4294967296 * v1 = (b0 + 4294967296 * b1) * p := by
  obtain ⟨s1, s2, s3⟩ := sh_ok p hp [b0, b1] 0 (D32.cons.2 ⟨h0, D32.cons.2 ⟨by omega, fun d hd => by cases hd⟩⟩) (by omega)
  have hr := trim_rep s1
  have hv : vl (sh p [b0, b1] 0) = (b0 + 4294967296 * b1) * p := by rw [s2]; simp [vl]
  rw [hv] at hr
  have e1 : (b0 + 4294967296 * b1) * p = b0 * p + 4294967296 * (b1 * p) := by rw [Int.add_mul, Int.mul_assoc]
  have e2 : (b1 + 1) * p = b1 * p + p := by rw [Int.add_mul, Int.one_mul]
  have hb0p := mul_le h0 (⟨by omega, Int.le_refl p⟩ : 0 ≤ p ∧ p ≤ p) (by omega)
  have hlt : (b0 + 4294967296 * b1) * p < 18446744073709551616 := by omega
  have hge : 9223372036854775808 ≤ (b0 + 4294967296 * b1) * p := by omega
  have l1 := hr.small hlt
  have l2 := len_small hr.dig (by rw [hr.val]; omega)
  have hlist : ∀ l : List Int, l.length ≤ 2 → 2 ≤ l.length → ∃ x y, l = [x, y] := by
    intro l h1 h2
    match l, h1, h2 with
    | [x, y], _, _ => exact ⟨x, y, rfl⟩
    | [], _, h2 => simp at h2
    | [x], _, h2 => simp at h2
    | x :: y :: z :: l, h1, _ => simp at h1
  obtain ⟨v0, v1, e⟩ := hlist _ l1 l2
  rw [e] at hr
  have d0 := hr.dig v0 (by simp)
  have d1 := hr.dig v1 (by simp)
  have hval := hr.val
  simp only [vl] at hval
  exact ⟨v0, v1, e, d0, by omega, by omega⟩
/-- The dividend's. -/
theorem norm_u {a0 a1 p : Int} (h0 : 0 ≤ a0 ∧ a0 ≤ 4294967295) (h1 : 0 ≤ a1 ∧ a1 ≤ 4294967295) (hp : 1 ≤ p ∧ p ≤ 2147483648) (hge : 4294967296 ≤ (a0 + 4294967296 * a1) * p) :
    ∃ l, trim (sh p [a0, a1] 0) = l ∧ D32 l ∧ vl l = (a0 + 4294967296 * a1) * p ∧ ((∃ x y, l = [x, y]) ∨ ∃ x y z, l = [x, y, z]) := by
  obtain ⟨s1, s2, s3⟩ := sh_ok p hp [a0, a1] 0 (D32.cons.2 ⟨h0, D32.cons.2 ⟨h1, fun d hd => by cases hd⟩⟩) (by omega)
  have hr := trim_rep s1
  have hv : vl (sh p [a0, a1] 0) = (a0 + 4294967296 * a1) * p := by rw [s2]; simp [vl]
  rw [hv] at hr
  have l1 := trim_len (sh p [a0, a1] 0)
  rw [s3] at l1
  have l2 := len_small hr.dig (by rw [hr.val]; omega)
  refine ⟨_, rfl, hr.dig, hr.val, ?_⟩
  generalize trim (sh p [a0, a1] 0) = l at l1 l2
  simp only [List.length_cons, List.length_nil] at l1
  match l, l1, l2 with
  | [x, y], _, _ => exact Or.inl ⟨x, y, rfl⟩
  | [x, y, z], _, _ => exact Or.inr ⟨x, y, z, rfl⟩
  | [], _, h2 => simp at h2
  | [x], _, h2 => simp at h2
  | x :: y :: z :: w :: l, h1, _ => simp at h1

/-- What the quotient and the rest are, out of the shifted numbers. -/
theorem back {n m p : Int} (hp : 1 ≤ p) (hm : 1 ≤ m) : (n * p) / (m * p) = n / m ∧ n * p - (n / m) * (m * p) = (n % m) * p := by
  refine ⟨Int.mul_ediv_mul_of_pos_left n m (by omega), ?_⟩
  have := Int.mul_ediv_add_emod n m
  have e : (n % m) * p = (n - m * (n / m)) * p := by congr 1; omega
  rw [e, Int.sub_mul, ← Int.mul_assoc (n / m), Int.mul_comm (n / m) m]

end Go.Proofs.Ytpcekncfdcofhaa.Q
