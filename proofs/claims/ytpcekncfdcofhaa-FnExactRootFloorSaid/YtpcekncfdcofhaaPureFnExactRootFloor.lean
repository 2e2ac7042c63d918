/- The program's RootFloor and the reference's answer alike. -/
import Derived.Test.YtpcekncfdcofhaaQ0
import Derived.Test.YtpcekncfdcofhaaQ3
import Derived.Test.YtpcekncfdcofhaaPZero
import Derived.Test.YtpcekncfdcofhaaGRoot
namespace Go.Proofs.Ytpcekncfdcofhaa.Pure
open Go.RowKit Go.Proofs.Ytpcekncfdcofhaa.Q Go.Proofs.YtpcekncfdcofhaaW.PrintWords Go.Proofs.YtpcekncfdcofhaaW.PrintLast
set_option linter.unusedVariables false
set_option linter.unusedSimpArgs false

theorem root_eq (n : Int) (hn0 : 0 ≤ n) (hn1 : n ≤ 1000000000000000000) (d : Nat) : ∀ (k : Nat) (low high : Int), d < k → high - low < 2 ^ d → 0 ≤ low → low ≤ high → high ≤ 1000000000 → low * low ≤ n → n < (high + 1) * (high + 1) →
    spec_l01Root.l0 k n low high = some (isq n.toNat : Int) := by
  induction d with
  | zero =>
    intro k low high hk hd h0 h1 h2 h3 h4
    obtain ⟨k, rfl⟩ : ∃ m, k = m + 1 := ⟨k - 1, by omega⟩
    have e : high = low := by
      have : (2 : Int) ^ 0 = 1 := rfl
      omega
    subst e
    rw [spec_l01Root.l0, if_neg (by omega), isq_only n high h0 hn0 h3 h4]
  | succ d ih =>
    intro k low high hk hd h0 h1 h2 h3 h4
    obtain ⟨k, rfl⟩ : ∃ m, k = m + 1 := ⟨k - 1, by omega⟩
    rw [spec_l01Root.l0]
    by_cases c : low < high
    · rw [if_pos c]
      have e2 : (2 : Int) ^ (d + 1) = 2 * 2 ^ d := by rw [Int.pow_succ, Int.mul_comm]
      have hm : wrap64 (Int.tdiv (wrap64 ((wrap64 (low + high)) + 1)) 2) = (low + high + 1) / 2 := by
        rw [w64 (x := low + high) (by omega), w64 (x := low + high + 1) (by omega), Int.tdiv_eq_ediv_of_nonneg (by omega), w64 (by omega)]
      rw [hm]
      generalize hM : (low + high + 1) / 2 = M
      have m0 : low < M := by omega
      have m1 : M ≤ high := by omega
      have q := sq_mono (a := M) (b := 1000000000) (by omega) (by omega)
      have q0 := Int.mul_nonneg (a := M) (b := M) (by omega) (by omega)
      rw [w64 (x := M * M) (by omega)]
      by_cases hc : M * M ≤ n
      · rw [if_pos hc]
        exact ih k M high (by omega) (by omega) (by omega) m1 h2 hc h4
      · rw [if_neg hc, w64 (x := M - 1) (by omega)]
        refine ih k low (M - 1) (by omega) (by omega) h0 (by omega) (by omega) h3 ?_
        have : M - 1 + 1 = M := by omega
        rw [this]; omega
    · have e : high = low := by omega
      subst e
      rw [if_neg c, isq_only n high h0 hn0 h3 h4]

theorem FnExactRootFloor (a : Int) (_ : (Lit.int .i64 a).wf = true) : ∃ k, laws_FnExactRootFloor.f k a = some true := by
  refine ⟨31, ?_⟩
  unfold laws_FnExactRootFloor.f spec_RootFloor.f impl_RootFloor.f
  simp only [in_eq, within_eq, Option.bind_some]
  cases h : inR 0 1000000000000000000 a with
  | true =>
    have hb := inR_iff h
    have e1 : spec_l01Root.f 31 a = some (isq a.toNat : Int) := root_eq a hb.1 hb.2 30 31 0 1000000000 (by omega) (by omega) (by omega) (by omega) (by omega) (by omega) (by omega)
    have e2 : impl_rootOf.f a = some (isq a.toNat : Int) := by unfold impl_rootOf.f; rw [if_pos hb]
    simp only [if_true, e1, e2, Option.bind_some]
    simp
  | false => simp

end Go.Proofs.Ytpcekncfdcofhaa.Pure
