/- Plain lemmas by hand: the statements' own tests on lists of rings. -/
import Derived.Test.YtjbgmoinaalkgaaQ0
import Derived.Test.YtjbgmoinaalkgaaQ2
import Derived.Test.YtjbgmoinaalkgaaPZero
import Derived.Test.YtjbgmoinaalkgaaGNearP
namespace Go.Proofs.Ytjbgmoinaalkgaa.Pure
open Go.RowKit Go.Proofs.Ytjbgmoinaalkgaa.Q Go.Proofs.YtjbgmoinaalkgaaW.PrintWords Go.Proofs.YtjbgmoinaalkgaaW.PrintLast
set_option linter.unusedVariables false
set_option linter.unusedSimpArgs false

theorem eqR_self (a b : Int) : laws_eqRing.f a b a b = some true := by simp [laws_eqRing.f]
theorem eqRs_at (l : List S27) (hl : l.length ≤ 140737488355328) (d : Nat) : ∀ (k : Nat) (i : Int), 0 ≤ i → (l.length : Int) - i ≤ d → d < k → laws_eqRingS.l0 k l l i = some true := by
  induction d with
  | zero =>
    intro k i h0 hd hk
    obtain ⟨k, rfl⟩ : ∃ m, k = m + 1 := ⟨k - 1, by omega⟩
    simp only [laws_eqRingS.l0]
    rw [if_neg (by omega)]
  | succ d ih =>
    intro k i h0 hd hk
    obtain ⟨k, rfl⟩ : ∃ m, k = m + 1 := ⟨k - 1, by omega⟩
    simp only [laws_eqRingS.l0]
    by_cases h : i < (l.length : Int)
    · simp only [if_pos h, if_pos h0, eqR_self, Option.bind_some, if_true]
      rw [w64 (by omega)]
      exact ih k (i + 1) (by omega) (by omega) (by omega)
    · rw [if_neg h]
theorem eqRs_self (k : Nat) (l : List S27) (hl : l.length ≤ 140737488355328) (hk : l.length < k) : laws_eqRingS.f k l l = some true := by
  unfold laws_eqRingS.f
  rw [if_pos rfl]
  exact eqRs_at l hl l.length k 0 (by omega) (by omega) hk

/-- Whether what is left of a tube is valid behind a ring (none ahead of the first). -/

def upsR : Nat → Int → List S27
  | 0, _ => []
  | n + 1, x => ⟨x, x + 1⟩ :: upsR n (x + 2)
theorem upsR_length : ∀ (n : Nat) (x : Int), (upsR n x).length = n
  | 0, _ => rfl
  | n + 1, x => by simp [upsR, upsR_length n]

theorem markR_at (post : List S27) : ∀ (pre : List S27) (k : Nat) (x : Int), 0 ≤ x → x + 2 * post.length ≤ 844424930131968 → (pre.length : Int) + post.length ≤ 140737488355328 → post.length < k →
    laws_markRingS.l0 k (pre ++ post) x pre.length = some (x + 2 * post.length, pre ++ upsR post.length x) := by
  induction post with
  | nil =>
    intro pre k x h0 hx hp hk
    obtain ⟨k, rfl⟩ : ∃ m, k = m + 1 := ⟨k - 1, by omega⟩
    simp only [laws_markRingS.l0, List.append_nil]
    rw [if_neg (by omega)]
    simp [upsR]
  | cons p post ih =>
    intro pre k x h0 hx hp hk
    simp only [List.length_cons] at hx hp hk
    obtain ⟨k, rfl⟩ : ∃ m, k = m + 1 := ⟨k - 1, by omega⟩
    have hlt : (pre.length : Int) < ((pre ++ p :: post).length : Int) := by simp; omega
    have h0' : (0 : Int) ≤ (pre.length : Int) := by omega
    have e1 : ∀ (q q' : S27), (pre ++ q :: post).set ((pre.length : Int)).toNat q' = pre ++ q' :: post := by intro q q'; simp
    rw [laws_markRingS.l0, if_pos hlt, if_pos h0', Option.bind_some, rd27_at, e1, rd27_at, e1]
    rw [w64 (x := x + 1) (by omega), w64 (x := x + 1 + 1) (by omega), w64 (x := (pre.length : Int) + 1) (by omega)]
    have e0 : pre ++ (⟨x, x + 1⟩ : S27) :: post = (pre ++ [⟨x, x + 1⟩]) ++ post := by simp
    have e2 : ((pre.length : Int) + 1) = ((pre ++ [(⟨x, x + 1⟩ : S27)]).length : Int) := by simp
    have e3 : x + 1 + 1 = x + 2 := by omega
    rw [e0, e2, e3, ih (pre ++ [(⟨x, x + 1⟩ : S27)]) k (x + 2) (by omega) (by omega) (by simp; omega) (by omega)]
    simp only [List.length_cons, upsR, Option.some.injEq, Prod.mk.injEq, List.append_assoc, List.singleton_append, and_true]
    omega
theorem markR_eq (k : Nat) (l : List S27) (hl : l.length ≤ 140737488355328) (hk : l.length < k) : laws_markRingS.f k l 1 = some (1 + 2 * (l.length : Int), upsR l.length 1) := by
  unfold laws_markRingS.f
  exact markR_at l [] k 1 (by omega) (by omega) (by simp; omega) hk

theorem heldR_at (m : Nat) : ∀ (pre : List S27) (k : Nat) (x : Int), 0 ≤ x → x + 2 * m ≤ 844424930131968 → (pre.length : Int) + m ≤ 140737488355328 → m < k →
    laws_heldRingS.l0 k (pre ++ upsR m x) x pre.length = some (x + 2 * m) := by
  induction m with
  | zero =>
    intro pre k x h0 hx hp hk
    obtain ⟨k, rfl⟩ : ∃ m, k = m + 1 := ⟨k - 1, by omega⟩
    have e0 : pre ++ upsR 0 x = pre := by simp [upsR]
    rw [e0]
    simp only [laws_heldRingS.l0]
    rw [if_neg (by omega)]
    simp
  | succ m ih =>
    intro pre k x h0 hx hp hk
    obtain ⟨k, rfl⟩ : ∃ m, k = m + 1 := ⟨k - 1, by omega⟩
    have e0 : pre ++ upsR (m + 1) x = pre ++ ⟨x, x + 1⟩ :: upsR m (x + 2) := rfl
    rw [e0]
    have hlt : (pre.length : Int) < ((pre ++ (⟨x, x + 1⟩ : S27) :: upsR m (x + 2)).length : Int) := by simp; omega
    have h0' : (0 : Int) ≤ (pre.length : Int) := by omega
    rw [laws_heldRingS.l0, if_pos hlt, if_pos h0', rd27_at, w64 (x := x + 1) (by omega), w64 (x := x + 1 + 1) (by omega), w64 (x := (pre.length : Int) + 1) (by omega)]
    have e4 : x + 1 + 1 = x + 2 := by omega
    have e1 : pre ++ (⟨x, x + 1⟩ : S27) :: upsR m (x + 2) = (pre ++ [⟨x, x + 1⟩]) ++ upsR m (x + 2) := by simp
    have e2 : ((pre.length : Int) + 1) = ((pre ++ [(⟨x, x + 1⟩ : S27)]).length : Int) := by simp
    simp only [e4, if_true]
    rw [e1, e2, ih (pre ++ [(⟨x, x + 1⟩ : S27)]) k (x + 2) (by omega) (by omega) (by simp; omega) (by omega)]
    simp only [Option.some.injEq]
    omega
theorem heldR_eq (k n : Nat) (hl : n ≤ 140737488355328) (hk : n < k) : laws_heldRingS.f k (upsR n 1) 1 = some (1 + 2 * (n : Int)) := by
  unfold laws_heldRingS.f
  exact heldR_at n [] k 1 (by omega) (by omega) (by simp; omega) hk

end Go.Proofs.Ytjbgmoinaalkgaa.Pure
