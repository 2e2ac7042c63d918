/- The program's PushRange and the reference's answer alike for every machine. -/
import Derived.Test.YthlbcjoogcanmaaQ0
import Derived.Test.YthlbcjoogcanmaaQ5
import Derived.Test.YthlbcjoogcanmaaQ8
import Derived.Test.YthlbcjoogcanmaaQ25
import Derived.Test.YthlbcjoogcanmaaQ38
import Derived.Test.YthlbcjoogcanmaaPPush
namespace Go.Proofs.Ythlbcjoogcanmaa.Pure
open Go.RowKit Go.Proofs.Ythlbcjoogcanmaa.Q Go.Proofs.YthlbcjoogcanmaaW.PrintWords Go.Proofs.YthlbcjoogcanmaaW.PrintLast
set_option linter.unusedVariables false
set_option linter.unusedSimpArgs false

section
variable (a0 a1 a2 a3 a4 a5 a6 a7 a8 : Int)
theorem range_none (h : machB a0 a1 a2 a3 a4 a5 a6 a7 a8 = false) (d : Nat) : ∀ (k : Nat) (low high bend : Int) (any : Bool), -12 ≤ bend → 13 - bend ≤ d → d + 2 ≤ k → impl_PushRange.l0 k low high any bend a0 a1 a2 a3 a4 a5 a6 a7 a8 = some (low, high, any) := by
  induction d with
  | zero =>
    intro k low high bend any h0 hd hk
    obtain ⟨k, rfl⟩ : ∃ m, k = m + 1 := ⟨k - 1, by omega⟩
    simp only [impl_PushRange.l0]
    rw [if_neg (by omega)]
  | succ d ih =>
    intro k low high bend any h0 hd hk
    obtain ⟨k, rfl⟩ : ∃ m, k = m + 1 := ⟨k - 1, by omega⟩
    obtain ⟨q, rfl⟩ : ∃ m, k = m + 1 := ⟨k - 1, by omega⟩
    rw [impl_PushRange.l0]
    by_cases c : bend ≤ 12
    · rw [if_pos c, ipush_eq, h]
      simp only [Option.bind_some, Bool.false_eq_true, if_false]
      rw [w64 (by omega)]
      exact ih (q + 1) low high (bend + 1) any (by omega) (by omega) (by omega)
    · rw [if_neg c]
theorem range_both (h : machB a0 a1 a2 a3 a4 a5 a6 a7 a8 = true) (d : Nat) : ∀ (k k' : Nat) (low high bend : Int) (any : Bool), -12 ≤ bend → 13 - bend ≤ d → d + 2 ≤ k → 2 * d + 8 ≤ k' →
    ∃ r, impl_PushRange.l0 k low high any bend a0 a1 a2 a3 a4 a5 a6 a7 a8 = some r ∧ spec_PushRange.l0 k' low high any bend a0 a1 a2 a3 a4 a5 a6 a7 a8 = some r := by
  induction d with
  | zero =>
    intro k k' low high bend any h0 hd hk hk'
    obtain ⟨k, rfl⟩ : ∃ m, k = m + 1 := ⟨k - 1, by omega⟩
    obtain ⟨k', rfl⟩ : ∃ m, k' = m + 1 := ⟨k' - 1, by omega⟩
    refine ⟨(low, high, any), ?_, ?_⟩
    · rw [impl_PushRange.l0, if_neg (by omega)]
    · rw [spec_PushRange.l0, if_neg (by omega)]
  | succ d ih =>
    intro k k' low high bend any h0 hd hk hk'
    obtain ⟨k, rfl⟩ : ∃ m, k = m + 2 := ⟨k - 2, by omega⟩
    obtain ⟨k', rfl⟩ : ∃ m, k' = m + 8 := ⟨k' - 8, by omega⟩
    by_cases c : bend ≤ 12
    · rw [impl_PushRange.l0, if_pos c, ipush_eq, h, spec_PushRange.l0, if_pos c, spush_eq a0 a1 a2 a3 a4 a5 a6 a7 a8 bend 0 (k' + 1)]
      simp only [Option.bind_some, if_true, spec_PushRange.j1]
      rw [w64 (by omega)]
      cases (pushT a0 a1 a2 a3 a4 a5 a6 a7 a8 bend 0).2.2.2.2.2.2.2.2.2 with
      | true =>
        cases any with
        | true => simpa using ih (k + 1) (k' + 6) low bend (bend + 1) true (by omega) (by omega) (by omega) (by omega)
        | false => simpa using ih (k + 1) (k' + 6) bend bend (bend + 1) true (by omega) (by omega) (by omega) (by omega)
      | false => simpa using ih (k + 1) (k' + 6) low high (bend + 1) any (by omega) (by omega) (by omega) (by omega)
    · refine ⟨(low, high, any), ?_, ?_⟩
      · rw [impl_PushRange.l0, if_neg c]
      · rw [spec_PushRange.l0, if_neg c]
end

theorem FnExactPushRange (a0 a1 a2 a3 a4 a5 a6 a7 a8 : Int) (_ : (Lit.int .i64 a0).wf = true) (_ : (Lit.int .i64 a1).wf = true) (_ : (Lit.int .i64 a2).wf = true) (_ : (Lit.int .i64 a3).wf = true) (_ : (Lit.int .i64 a4).wf = true) (_ : (Lit.int .i64 a5).wf = true) (_ : (Lit.int .i64 a6).wf = true) (_ : (Lit.int .i64 a7).wf = true) (_ : (Lit.int .i64 a8).wf = true) : ∃ k, laws_FnExactPushRange.f k a0 a1 a2 a3 a4 a5 a6 a7 a8 = some true := by
  refine ⟨70, ?_⟩
  unfold laws_FnExactPushRange.f laws_toMachine.f laws_toPose.f spec_PushRange.f impl_PushRange.f
  simp only [Option.bind_some]
  rw [smach_eq a0 a1 a2 a3 a4 a5 a6 a7 a8 64]
  cases h : machB a0 a1 a2 a3 a4 a5 a6 a7 a8 with
  | true =>
    obtain ⟨r, h1, h2⟩ := range_both a0 a1 a2 a3 a4 a5 a6 a7 a8 h 25 70 70 0 0 (-12) false (by omega) (by omega) (by omega) (by omega)
    simp only [Option.bind_some, if_true, h1, h2]
    simp
  | false =>
    have h1 := range_none a0 a1 a2 a3 a4 a5 a6 a7 a8 h 25 70 0 0 (-12) false (by omega) (by omega) (by omega)
    simp only [Option.bind_some, Bool.false_eq_true, if_false, h1]
    simp

end Go.Proofs.Ythlbcjoogcanmaa.Pure
