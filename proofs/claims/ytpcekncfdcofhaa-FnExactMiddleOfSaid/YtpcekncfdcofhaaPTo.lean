/- Plain lemmas by hand: the statements' own copy of a list of numbers is that list. -/
import Derived.Test.YtpcekncfdcofhaaQ0
import Derived.Test.YtpcekncfdcofhaaQ4
import Derived.Test.YtpcekncfdcofhaaPZero
namespace Go.Proofs.Ytpcekncfdcofhaa.Pure
open Go.RowKit Go.Proofs.Ytpcekncfdcofhaa.Q Go.Proofs.YtpcekncfdcofhaaW.PrintWords Go.Proofs.YtpcekncfdcofhaaW.PrintLast
set_option linter.unusedVariables false
set_option linter.unusedSimpArgs false

theorem to_at (post : List Int) : ∀ (pre : List Int) (k : Nat), (pre.length : Int) + post.length ≤ 140737488355328 → post.length < k →
    laws_toInt64S.l0 k (pre ++ post) (pre ++ List.replicate post.length 0) pre.length = some (pre ++ post) := by
  induction post with
  | nil =>
    intro pre k hp hk
    obtain ⟨k, rfl⟩ : ∃ m, k = m + 1 := ⟨k - 1, by omega⟩
    simp only [laws_toInt64S.l0, List.append_nil]
    rw [if_neg (by omega)]
    simp
  | cons p post ih =>
    intro pre k hp hk
    simp only [List.length_cons] at hp hk
    obtain ⟨k, rfl⟩ : ∃ m, k = m + 1 := ⟨k - 1, by omega⟩
    simp only [laws_toInt64S.l0]
    have hlt : (pre.length : Int) < ((pre ++ p :: post).length : Int) := by simp; omega
    have hlt2 : (pre.length : Int) < ((pre ++ List.replicate (p :: post).length 0).length : Int) := by simp; omega
    have h0' : (0 : Int) ≤ (pre.length : Int) := by omega
    rw [if_pos hlt, if_pos h0', if_pos hlt2, w64 (x := (pre.length : Int) + 1) (by omega)]
    have e0 : rd (pre ++ p :: post) (pre.length : Int) = p := by simp [rd]
    have e1 : (pre ++ List.replicate (p :: post).length 0).set ((pre.length : Int)).toNat p = (pre ++ [p]) ++ List.replicate post.length 0 := by simp [List.replicate_succ]
    have e2 : ((pre.length : Int) + 1) = ((pre ++ [p]).length : Int) := by simp
    have e3 : pre ++ p :: post = (pre ++ [p]) ++ post := by simp
    rw [e0, e1, e2, e3]
    exact ih (pre ++ [p]) k (by simp; omega) (by omega)
theorem to_eq (k : Nat) (l : List Int) (hl : l.length ≤ 35184372088832) (hk : l.length < k) : laws_toInt64S.f k l = some l := by
  unfold laws_toInt64S.f
  rw [if_pos (by omega), if_pos (by omega)]
  have e : ((l.length : Int)).toNat = l.length := by omega
  rw [e]
  exact to_at l [] k (by simp; omega) hk

end Go.Proofs.Ytpcekncfdcofhaa.Pure
