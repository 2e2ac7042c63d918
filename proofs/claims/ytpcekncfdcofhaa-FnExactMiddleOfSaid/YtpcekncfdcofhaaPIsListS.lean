/- Plain lemmas by hand: the reference's test whether numbers are a list. -/
import Derived.Test.YtpcekncfdcofhaaQ0
import Derived.Test.YtpcekncfdcofhaaQ4
import Derived.Test.YtpcekncfdcofhaaPZero
namespace Go.Proofs.Ytpcekncfdcofhaa.Pure
open Go.RowKit Go.Proofs.Ytpcekncfdcofhaa.Q Go.Proofs.YtpcekncfdcofhaaW.PrintWords Go.Proofs.YtpcekncfdcofhaaW.PrintLast
set_option linter.unusedVariables false
set_option linter.unusedSimpArgs false

def listB (l : List Int) : Bool := decide ((l.length : Int) ≤ 64) && l.all (inR (-1000000000) 1000000000)
theorem slist_at (post : List Int) : ∀ (pre : List Int) (k : Nat), (pre.length : Int) + post.length ≤ 140737488355328 → post.length < k →
    spec_l01List.l0 k (pre ++ post) pre.length = some (decide (((pre ++ post).length : Int) ≤ 64) && post.all (inR (-1000000000) 1000000000)) := by
  induction post with
  | nil =>
    intro pre k hp hk
    obtain ⟨k, rfl⟩ : ∃ m, k = m + 1 := ⟨k - 1, by omega⟩
    have hn : ¬ ((pre.length : Int) < ((pre ++ []).length : Int)) := by simp
    rw [spec_l01List.l0, if_neg hn]
    simp
  | cons p post ih =>
    intro pre k hp hk
    simp only [List.length_cons] at hp hk
    obtain ⟨k, rfl⟩ : ∃ m, k = m + 1 := ⟨k - 1, by omega⟩
    have hlt : (pre.length : Int) < ((pre ++ p :: post).length : Int) := by simp; omega
    have h0' : (0 : Int) ≤ (pre.length : Int) := by omega
    have e0 : rd (pre ++ p :: post) (pre.length : Int) = p := by simp [rd]
    have e2 : ((pre.length : Int) + 1) = ((pre ++ [p]).length : Int) := by simp
    have e3 : pre ++ p :: post = (pre ++ [p]) ++ post := by simp
    rw [spec_l01List.l0, if_pos hlt, if_pos h0', e0, in_eq, w64 (x := (pre.length : Int) + 1) (by omega), List.all_cons, e2]
    simp only [Option.bind_some]
    cases hc : inR (-1000000000) 1000000000 p with
    | true =>
      rw [if_pos rfl, Bool.true_and, e3]
      exact ih (pre ++ [p]) k (by simp; omega) (by omega)
    | false => rw [if_neg (by simp), Bool.false_and, Bool.and_false]
theorem slist_eq (k : Nat) (l : List Int) (hl : l.length ≤ 140737488355328) (hk : l.length < k) : spec_l01List.f k l = some (listB l) := by
  unfold spec_l01List.f listB
  exact slist_at l [] k (by simp; omega) hk
end Go.Proofs.Ytpcekncfdcofhaa.Pure
