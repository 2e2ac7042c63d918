/- Plain lemmas by hand: the reference's decimal digits are the library's. -/
import Derived.Test.YtlmdoapjcnaflaaDoorQ0
import Derived.Test.YtlmdoapjcnaflaaDoorQ1
import Derived.Test.YtlmdoapjcnaflaaDoorGTextT
import Derived.Test.YtlmdoapjcnaflaaDoorPZero
namespace Go.Proofs.YtlmdoapjcnaflaaDoor.Pure
open Go.RowKit Go.Proofs.YtlmdoapjcnaflaaDoor.Q Go.Proofs.YtlmdoapjcnaflaaDoorW.PrintWords Go.Proofs.YtlmdoapjcnaflaaDoorW.PrintLast
set_option linter.unusedVariables false
set_option linter.unusedSimpArgs false

/-- The text of some bytes. -/
def bs (l : List UInt8) : ByteArray := ⟨l.toArray⟩
theorem bs_append (a b : List UInt8) : bs a ++ bs b = bs (a ++ b) := by
  apply Go.WideShapes.bytes_inj
  simp [bs]
theorem bs_size (l : List UInt8) : (bs l).size = l.length := by simp [bs, ByteArray.size]
theorem bs_data (l : List UInt8) : (bs l).data.toList = l := by simp [bs]
theorem digit_eq (u : Nat) : strOfNums [(wrap64 (48 - Int.tmod (-(u : Int)) 10)) % 256] = bs [UInt8.ofNat (48 + u % 10)] := by
  have e : Int.tmod (-(u : Int)) 10 = -((u % 10 : Nat) : Int) := by
    rw [Int.neg_tmod, Int.tmod_eq_emod_of_nonneg (by omega)]; omega
  have e2 : (wrap64 (48 - Int.tmod (-(u : Int)) 10)) % 256 = ((48 + u % 10 : Nat) : Int) := by rw [e, w64 (by omega)]; omega
  rw [e2]
  have e3 : ((48 + u % 10 : Nat) : Int).toNat = 48 + u % 10 := by omega
  show (⟨([((48 + u % 10 : Nat) : Int)].map fun n => UInt8.ofNat n.toNat).toArray⟩ : ByteArray) = bs [UInt8.ofNat (48 + u % 10)]
  rw [List.map_cons, List.map_nil, e3]
  rfl
theorem tdiv_eq (u : Nat) : wrap64 (Int.tdiv (-(u : Int)) 10) = -((u / 10 : Nat) : Int) ∨ 9223372036854775809 < u := by
  by_cases h : 9223372036854775809 < u
  · exact Or.inr h
  · refine Or.inl ?_
    rw [Int.neg_tdiv, Int.tdiv_eq_ediv_of_nonneg (by omega), w64 (by omega)]
    omega
def digs (u : Nat) : List UInt8 := if u = 0 then [] else Lib.decDigits u
theorem digs_step (u : Nat) (h : 0 < u) : digs u = digs (u / 10) ++ [UInt8.ofNat (48 + u % 10)] := by
  unfold digs
  rw [if_neg (by omega), Lib.decDigits]
  by_cases h1 : u < 10
  · have e1 : u / 10 = 0 := by omega
    have e2 : u % 10 = u := by omega
    rw [dif_pos h1, if_pos e1, e2]; rfl
  · rw [dif_neg h1, if_neg (by omega)]
theorem dec_digs (u : Nat) : Lib.decDigits u = digs (u / 10) ++ [UInt8.ofNat (48 + u % 10)] := by
  by_cases h : u = 0
  · subst h; rw [Lib.decDigits, dif_pos (by omega)]; rfl
  · rw [← digs_step u (by omega)]; unfold digs; rw [if_neg h]
theorem digs_len (d : Nat) : ∀ u, u < 10 ^ d → (digs u).length ≤ d := by
  induction d with
  | zero => intro u h; have : u = 0 := by simpa using h
            subst this; simp [digs]
  | succ d ih =>
    intro u h
    by_cases h0 : u = 0
    · subst h0; simp [digs]
    · rw [digs_step u (by omega)]
      have := ih (u / 10) (by rw [Nat.pow_succ] at h; omega)
      simp; omega
theorem dec_loop (sgn : List UInt8) (hs : sgn.length ≤ 1) (d : Nat) : ∀ (u : Nat) (acc : List UInt8) (k : Nat), u < 10 ^ d → u ≤ 9223372036854775808 → acc.length + d ≤ 100 → d < k →
    spec_l01Dec.l0 k (bs sgn) (-(u : Int)) (bs acc) = some (bs (sgn ++ (digs u ++ acc))) := by
  induction d with
  | zero =>
    intro u acc k h h1 ha hk
    obtain ⟨k, rfl⟩ : ∃ m, k = m + 1 := ⟨k - 1, by omega⟩
    have h0 : u = 0 := by simpa using h
    subst h0
    rw [spec_l01Dec.l0, if_neg (by omega), if_pos (by rw [bs_size, bs_size]; omega), bs_append]
    simp [digs]
  | succ d ih =>
    intro u acc k h h1 ha hk
    obtain ⟨k, rfl⟩ : ∃ m, k = m + 1 := ⟨k - 1, by omega⟩
    by_cases h0 : u = 0
    · subst h0
      rw [spec_l01Dec.l0, if_neg (by omega), if_pos (by rw [bs_size, bs_size]; omega), bs_append]
      simp [digs]
    · rw [spec_l01Dec.l0, if_pos (by omega)]
      simp only [Option.bind_some]
      rw [digit_eq, if_pos (by rw [bs_size, bs_size]; simp; omega), bs_append]
      rcases tdiv_eq u with ht | ht
      · rw [ht, ih (u / 10) _ k (by rw [Nat.pow_succ] at h; omega) (by omega) (by simp; omega) (by omega), digs_step u (by omega)]
        simp
      · omega
theorem dec_eq (n : Int) (h0 : -9223372036854775808 ≤ n) (h1 : n ≤ 9223372036854775807) (k : Nat) (hk : 25 < k) : spec_l01Dec.f k n = some (itoaS n) := by
  obtain ⟨k, rfl⟩ : ∃ m, k = m + 1 := ⟨k - 1, by omega⟩
  have main : ∀ (sgn : List UInt8) (u : Nat), sgn.length ≤ 1 → u ≤ 9223372036854775808 → spec_l01Dec.j0 (k + 1) (bs sgn) (-(u : Int)) = some (bs (sgn ++ Lib.decDigits u)) := by
    intro sgn u hs hu
    rcases tdiv_eq u with ht | ht
    · rw [spec_l01Dec.j0, digit_eq, ht, dec_loop sgn hs 20 (u / 10) _ k (by omega) (by omega) (by simp) (by omega), ← dec_digs]
    · omega
  unfold spec_l01Dec.f itoaS Lib.itoa
  by_cases h : n < 0
  · rw [if_pos h, if_pos h]
    have e : n = -((n.natAbs : Nat) : Int) := by omega
    have hm := main [45] n.natAbs (by simp) (by omega)
    rw [← e] at hm
    exact hm
  · rw [if_neg h, if_neg h, w64 (by omega)]
    have e : -n = -((n.toNat : Nat) : Int) := by omega
    rw [e]
    exact main [] n.toNat (by simp) (by omega)
theorem idec_eq (n : Int) (h0 : -9223372036854775808 ≤ n) (h1 : n ≤ 9223372036854775807) : impl_Decimal.f n = some (itoaS n) := by
  unfold impl_Decimal.f; rw [if_pos h0, if_pos h1]
theorem wf64 {n : Int} (h : (Lit.int .i64 n).wf = true) : -9223372036854775808 ≤ n ∧ n ≤ 9223372036854775807 := by
  have m0 : IntKind.i64.min = -9223372036854775808 := rfl
  have m1 : IntKind.i64.max = 9223372036854775807 := rfl
  simp only [Lit.wf, m0, m1, Bool.and_eq_true, decide_eq_true_eq] at h
  exact h

end Go.Proofs.YtlmdoapjcnaflaaDoor.Pure
