/- The program's CheckOf and the reference's CheckOf answer alike for every start and every text of at most 2^20 bytes; longer texts are let by. -/
import Derived.Test.YtkmlijnfhnpbjaaPFnExactCheckOfx1
namespace Go.Proofs.Ytkmlijnfhnpbjaa.Pure
open Go.RowKit Go.Proofs.Ytkmlijnfhnpbjaa.PFnExactCheckOf Go.Proofs.YtkmlijnfhnpbjaaW.PrintWords Go.Proofs.YtkmlijnfhnpbjaaW.PrintLast

theorem wrap_i {i : Int} {n : Nat} (h0 : 0 ≤ i) (h : i < (n : Int)) (hn : n ≤ 140737488351232) : wrap64 (i + 1) = i + 1 := by
  unfold wrap64
  omega

theorem check_same (s : ByteArray) (hn : s.size ≤ 140737488351232) : ∀ (k : Nat) (x i : Int), 0 ≤ i → impl_check.l0 k x s (s.size : Int) i = spec_l01Check.l0 k s x i := by
  intro k
  induction k with
  | zero => intro x i _; simp only [spec_l01Check.l0, impl_check.l0]
  | succ k ih =>
    intro x i h0
    simp only [spec_l01Check.l0, impl_check.l0]
    by_cases h : i < (s.size : Int)
    · rw [if_pos h, if_pos h0, if_pos h, if_pos h, if_pos h0, wrap_i h0 h hn]
      exact ih _ _ (by omega)
    · rw [if_neg h, if_neg h]

theorem check_ends (s : ByteArray) (hn : s.size ≤ 140737488351232) (d : Nat) : ∀ (k : Nat) (x i : Int), 0 ≤ i → (s.size : Int) - i ≤ d → d < k → ∃ r, spec_l01Check.l0 k s x i = some r := by
  induction d with
  | zero =>
    intro k x i h0 hd hk
    obtain ⟨k, rfl⟩ : ∃ m, k = m + 1 := ⟨k - 1, by omega⟩
    exact ⟨x, by simp only [spec_l01Check.l0]; rw [if_neg (by omega)]⟩
  | succ d ih =>
    intro k x i h0 hd hk
    obtain ⟨k, rfl⟩ : ∃ m, k = m + 1 := ⟨k - 1, by omega⟩
    simp only [spec_l01Check.l0]
    by_cases h : i < (s.size : Int)
    · rw [if_pos h, if_pos h0, wrap_i h0 h hn]
      exact ih _ _ _ (by omega) (by omega) (by omega)
    · exact ⟨x, by rw [if_neg h]⟩

theorem FnExactCheckOf : laws_FnExactCheckOf.Pure := by
  intro a0 s _ hn
  obtain ⟨r, hr⟩ := check_ends s hn s.size (s.size + 1) a0 0 (by omega) (by omega) (by omega)
  have hs := check_same s hn (s.size + 1) a0 0 (by omega)
  refine ⟨s.size + 1, ?_⟩
  unfold laws_FnExactCheckOf.f
  by_cases hb : (s.size : Int) > 1048576
  · rw [if_pos hb]
  · rw [if_neg hb]
    unfold spec_CheckOf.f impl_CheckOf.f spec_l01Check.f impl_check.f spec_l00In.f impl_within.f
    rw [hs, hr]
    by_cases c1 : a0 ≥ 0
    · by_cases c2 : a0 ≤ 99990
      · simp [c1, c2]
      · simp [c1, c2]
    · simp [c1]

end Go.Proofs.Ytkmlijnfhnpbjaa.Pure
