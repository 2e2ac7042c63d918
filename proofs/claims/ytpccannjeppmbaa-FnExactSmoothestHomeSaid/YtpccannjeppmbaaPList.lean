/- Plain lemmas by hand: what the statements' own helpers on lists of numbers compute: a list equals itself; a list is marked by rising numbers, and holds them. -/
import Derived.Test.YtpccannjeppmbaaQ0
import Derived.Test.YtpccannjeppmbaaQ6
import Derived.Test.YtpccannjeppmbaaSmB
namespace Go.Proofs.Ytpccannjeppmbaa.Pure
open Go.RowKit Go.Proofs.Ytpccannjeppmbaa.Q Go.Proofs.YtpccannjeppmbaaW.PrintWords Go.Proofs.YtpccannjeppmbaaW.PrintLast
set_option linter.unusedVariables false
set_option linter.unusedSimpArgs false

theorem eqInts_at (l : List Int) (hl : l.length ≤ 140737488355328) (d : Nat) : ∀ (k : Nat) (i : Int), 0 ≤ i → (l.length : Int) - i ≤ d → d < k → laws_eqInt64S.l0 k l l i = some true := by
  induction d with
  | zero =>
    intro k i h0 hd hk
    obtain ⟨k, rfl⟩ : ∃ m, k = m + 1 := ⟨k - 1, by omega⟩
    simp only [laws_eqInt64S.l0]
    rw [if_neg (by omega)]
  | succ d ih =>
    intro k i h0 hd hk
    obtain ⟨k, rfl⟩ : ∃ m, k = m + 1 := ⟨k - 1, by omega⟩
    simp only [laws_eqInt64S.l0]
    by_cases h : i < (l.length : Int)
    · simp only [if_pos h, if_pos h0, if_true]
      rw [w64 (by omega)]
      exact ih k (i + 1) (by omega) (by omega) (by omega)
    · rw [if_neg h]
theorem eqInts_self (k : Nat) (l : List Int) (hl : l.length ≤ 140737488355328) (hk : l.length < k) : laws_eqInt64S.f k l l = some true := by
  unfold laws_eqInt64S.f
  rw [if_pos rfl]
  exact eqInts_at l hl l.length k 0 (by omega) (by omega) hk

def ups : Nat → Int → List Int
  | 0, _ => []
  | n + 1, x => x :: ups n (x + 1)
theorem ups_length : ∀ (n : Nat) (x : Int), (ups n x).length = n
  | 0, _ => rfl
  | n + 1, x => by simp [ups, ups_length n]

theorem mark_at (post : List Int) : ∀ (pre : List Int) (k : Nat) (x : Int), 0 ≤ x → x + post.length ≤ 281474976710656 → (pre.length : Int) + post.length ≤ 140737488355328 → post.length < k →
    laws_markInt64S.l0 k (pre ++ post) x pre.length = some (x + post.length, pre ++ ups post.length x) := by
  induction post with
  | nil =>
    intro pre k x h0 hx hp hk
    obtain ⟨k, rfl⟩ : ∃ m, k = m + 1 := ⟨k - 1, by omega⟩
    simp only [laws_markInt64S.l0, List.append_nil]
    rw [if_neg (by omega)]
    simp [ups]
  | cons p post ih =>
    intro pre k x h0 hx hp hk
    simp only [List.length_cons] at hx hp hk
    obtain ⟨k, rfl⟩ : ∃ m, k = m + 1 := ⟨k - 1, by omega⟩
    simp only [laws_markInt64S.l0]
    have hlt : (pre.length : Int) < ((pre ++ p :: post).length : Int) := by simp; omega
    have h0' : (0 : Int) ≤ (pre.length : Int) := by omega
    rw [if_pos hlt, if_pos h0', w64 (x := x + 1) (by omega), w64 (x := (pre.length : Int) + 1) (by omega)]
    have e1 : (pre ++ p :: post).set ((pre.length : Int)).toNat x = (pre ++ [x]) ++ post := by simp
    have e2 : ((pre.length : Int) + 1) = ((pre ++ [x]).length : Int) := by simp
    rw [e1, e2, ih (pre ++ [x]) k (x + 1) (by omega) (by omega) (by simp; omega) (by omega)]
    simp only [List.length_cons, ups, Option.some.injEq, Prod.mk.injEq, List.append_assoc, List.singleton_append, and_true]
    omega
theorem mark_eq (k : Nat) (l : List Int) (hl : l.length ≤ 140737488355328) (hk : l.length < k) : laws_markInt64S.f k l 1 = some (1 + (l.length : Int), ups l.length 1) := by
  unfold laws_markInt64S.f
  exact mark_at l [] k 1 (by omega) (by omega) (by simp; omega) hk

theorem held_at (m : Nat) : ∀ (pre : List Int) (k : Nat) (x : Int), 0 ≤ x → x + m ≤ 281474976710656 → (pre.length : Int) + m ≤ 140737488355328 → m < k →
    laws_heldInt64S.l0 k (pre ++ ups m x) x pre.length = some (x + m) := by
  induction m with
  | zero =>
    intro pre k x h0 hx hp hk
    obtain ⟨k, rfl⟩ : ∃ m, k = m + 1 := ⟨k - 1, by omega⟩
    have e0 : pre ++ ups 0 x = pre := by simp [ups]
    rw [e0]
    simp only [laws_heldInt64S.l0]
    rw [if_neg (by omega)]
    simp
  | succ m ih =>
    intro pre k x h0 hx hp hk
    obtain ⟨k, rfl⟩ : ∃ m, k = m + 1 := ⟨k - 1, by omega⟩
    have e0 : pre ++ ups (m + 1) x = pre ++ x :: ups m (x + 1) := rfl
    rw [e0]
    simp only [laws_heldInt64S.l0]
    have hlt : (pre.length : Int) < ((pre ++ x :: ups m (x + 1)).length : Int) := by simp; omega
    have h0' : (0 : Int) ≤ (pre.length : Int) := by omega
    have hr : rd (pre ++ x :: ups m (x + 1)) pre.length = x := by simp [rd]
    rw [if_pos hlt, if_pos h0', hr, if_pos rfl, w64 (x := x + 1) (by omega), w64 (x := (pre.length : Int) + 1) (by omega)]
    have e1 : pre ++ x :: ups m (x + 1) = (pre ++ [x]) ++ ups m (x + 1) := by simp
    have e2 : ((pre.length : Int) + 1) = ((pre ++ [x]).length : Int) := by simp
    rw [e1, e2, ih (pre ++ [x]) k (x + 1) (by omega) (by omega) (by simp; omega) (by omega)]
    simp only [Option.some.injEq]
    omega
theorem held_eq (k n : Nat) (hl : n ≤ 140737488355328) (hk : n < k) : laws_heldInt64S.f k (ups n 1) 1 = some (1 + (n : Int)) := by
  unfold laws_heldInt64S.f
  exact held_at n [] k 1 (by omega) (by omega) (by simp; omega) hk

end Go.Proofs.Ytpccannjeppmbaa.Pure
