/- Plain lemmas by hand: what the statements' own helpers on lists of numbers compute: a list equals itself; a list is marked by rising numbers, and holds them. -/
import Derived.Test.YtpcekncfdcofhaaQ0
import Derived.Test.YtpcekncfdcofhaaQ4
import Derived.Test.YtpcekncfdcofhaaPZero
namespace Go.Proofs.Ytpcekncfdcofhaa.Pure
open Go.RowKit Go.Proofs.Ytpcekncfdcofhaa.Q Go.Proofs.YtpcekncfdcofhaaW.PrintWords Go.Proofs.YtpcekncfdcofhaaW.PrintLast
set_option linter.unusedVariables false
set_option linter.unusedSimpArgs false

theorem eqInts_at (l : List Int) (hl : l.length ≤ 140737488355328) (d : Nat) : ∀ (k : Nat) (i : Int), 0 ≤ i → (l.length : Int) - i ≤ d → d < k → laws_eqInt64S.l0 k l l i = some true := by
  induction d with
  | zero =>
    intro k i h0 hd hk
    obtain ⟨k, rfl⟩ : ∃ m, k = m + 1 := ⟨k - 1, by omega⟩
    simp only [laws_eqInt64S.l0]
    rw [if_neg (by omega)]
  | succ d ih =>
    intro k i h0 hd hk
    obtain ⟨k, rfl⟩ : ∃ m, k = m + 1 := ⟨k - 1, by omega⟩
    simp only [laws_eqInt64S.l0]
    by_cases h : i < (l.length : Int)
    · simp only [if_pos h, if_pos h0, if_true]
      rw [w64 (by omega)]
      exact ih k (i + 1) (by omega) (by omega) (by omega)
    · rw [if_neg h]
theorem eqInts_self (k : Nat) (l : List Int) (hl : l.length ≤ 140737488355328) (hk : l.length < k) : laws_eqInt64S.f k l l = some true := by
  unfold laws_eqInt64S.f
  rw [if_pos rfl]
  exact eqInts_at l hl l.length k 0 (by omega) (by omega) hk

def ups : Nat → Int → List Int
  | 0, _ => []
  | n + 1, x => x :: ups n (x + 1)
theorem ups_length : ∀ (n : Nat) (x : Int), (ups n x).length = n
  | 0, _ => rfl
  | n + 1, x => by simp [ups, ups_length n]

end Go.Proofs.Ytpcekncfdcofhaa.Pure
