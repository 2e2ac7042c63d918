/- Plain lemmas by hand: what the statements' own helpers on lists of courses compute: a list equals itself; it is marked by rising numbers, and holds them. -/
import Derived.Test.YtibmehephlngfaaQ0
import Derived.Test.YtibmehephlngfaaQ8
import Derived.Test.YtibmehephlngfaaQ22
import Derived.Test.YtibmehephlngfaaPZero
namespace Go.Proofs.Ytibmehephlngfaa.Pure
open Go.RowKit Go.Proofs.Ytibmehephlngfaa.Q Go.Proofs.YtibmehephlngfaaW.PrintWords Go.Proofs.YtibmehephlngfaaW.PrintLast
set_option linter.unusedVariables false
set_option linter.unusedSimpArgs false

theorem rd24_at (pre : List S24) (p : S24) (post : List S24) : rd_T24 (pre ++ p :: post) (pre.length : Int) = p := by simp [rd_T24]
theorem eqC_self (a b c : Int) : laws_eqCourse.f a b c a b c = some true := by simp [laws_eqCourse.f]
theorem eqCs_at (l : List S24) (hl : l.length ≤ 140737488355328) (d : Nat) : ∀ (k : Nat) (i : Int), 0 ≤ i → (l.length : Int) - i ≤ d → d < k → laws_eqCourseS.l0 k l l i = some true := by
  induction d with
  | zero =>
    intro k i h0 hd hk
    obtain ⟨k, rfl⟩ : ∃ m, k = m + 1 := ⟨k - 1, by omega⟩
    simp only [laws_eqCourseS.l0]
    rw [if_neg (by omega)]
  | succ d ih =>
    intro k i h0 hd hk
    obtain ⟨k, rfl⟩ : ∃ m, k = m + 1 := ⟨k - 1, by omega⟩
    simp only [laws_eqCourseS.l0]
    by_cases h : i < (l.length : Int)
    · simp only [if_pos h, if_pos h0, eqC_self, Option.bind_some, if_true]
      rw [w64 (by omega)]
      exact ih k (i + 1) (by omega) (by omega) (by omega)
    · rw [if_neg h]
theorem eqCs_self (k : Nat) (l : List S24) (hl : l.length ≤ 140737488355328) (hk : l.length < k) : laws_eqCourseS.f k l l = some true := by
  unfold laws_eqCourseS.f
  rw [if_pos rfl]
  exact eqCs_at l hl l.length k 0 (by omega) (by omega) hk

def upsC : Nat → Int → List S24
  | 0, _ => []
  | n + 1, x => ⟨x, x + 1, x + 2⟩ :: upsC n (x + 3)
theorem upsC_length : ∀ (n : Nat) (x : Int), (upsC n x).length = n
  | 0, _ => rfl
  | n + 1, x => by simp [upsC, upsC_length n]

theorem markC_at (post : List S24) : ∀ (pre : List S24) (k : Nat) (x : Int), 0 ≤ x → x + 3 * post.length ≤ 844424930131968 → (pre.length : Int) + post.length ≤ 140737488355328 → post.length < k →
    laws_markCourseS.l0 k (pre ++ post) x pre.length = some (x + 3 * post.length, pre ++ upsC post.length x) := by
  induction post with
  | nil =>
    intro pre k x h0 hx hp hk
    obtain ⟨k, rfl⟩ : ∃ m, k = m + 1 := ⟨k - 1, by omega⟩
    simp only [laws_markCourseS.l0, List.append_nil]
    rw [if_neg (by omega)]
    simp [upsC]
  | cons p post ih =>
    intro pre k x h0 hx hp hk
    simp only [List.length_cons] at hx hp hk
    obtain ⟨k, rfl⟩ : ∃ m, k = m + 1 := ⟨k - 1, by omega⟩
    have hlt : (pre.length : Int) < ((pre ++ p :: post).length : Int) := by simp; omega
    have h0' : (0 : Int) ≤ (pre.length : Int) := by omega
    have e1 : ∀ (q q' : S24), (pre ++ q :: post).set ((pre.length : Int)).toNat q' = pre ++ q' :: post := by intro q q'; simp
    rw [laws_markCourseS.l0, if_pos hlt, if_pos h0', Option.bind_some, rd24_at, e1, Option.bind_some, rd24_at, e1, rd24_at, e1]
    rw [w64 (x := x + 1) (by omega), w64 (x := x + 1 + 1) (by omega), w64 (x := x + 1 + 1 + 1) (by omega), w64 (x := (pre.length : Int) + 1) (by omega)]
    have e0 : pre ++ (⟨x, x + 1, x + 1 + 1⟩ : S24) :: post = (pre ++ [⟨x, x + 1, x + 2⟩]) ++ post := by simp; omega
    have e2 : ((pre.length : Int) + 1) = ((pre ++ [(⟨x, x + 1, x + 2⟩ : S24)]).length : Int) := by simp
    have e3 : x + 1 + 1 + 1 = x + 3 := by omega
    rw [e0, e2, e3, ih (pre ++ [(⟨x, x + 1, x + 2⟩ : S24)]) k (x + 3) (by omega) (by omega) (by simp; omega) (by omega)]
    simp only [List.length_cons, upsC, Option.some.injEq, Prod.mk.injEq, List.append_assoc, List.singleton_append, and_true]
    omega
theorem markC_eq (k : Nat) (l : List S24) (hl : l.length ≤ 140737488355328) (hk : l.length < k) : laws_markCourseS.f k l 1 = some (1 + 3 * (l.length : Int), upsC l.length 1) := by
  unfold laws_markCourseS.f
  exact markC_at l [] k 1 (by omega) (by omega) (by simp; omega) hk

theorem heldC_at (m : Nat) : ∀ (pre : List S24) (k : Nat) (x : Int), 0 ≤ x → x + 3 * m ≤ 844424930131968 → (pre.length : Int) + m ≤ 140737488355328 → m < k →
    laws_heldCourseS.l0 k (pre ++ upsC m x) x pre.length = some (x + 3 * m) := by
  induction m with
  | zero =>
    intro pre k x h0 hx hp hk
    obtain ⟨k, rfl⟩ : ∃ m, k = m + 1 := ⟨k - 1, by omega⟩
    have e0 : pre ++ upsC 0 x = pre := by simp [upsC]
    rw [e0]
    simp only [laws_heldCourseS.l0]
    rw [if_neg (by omega)]
    simp
  | succ m ih =>
    intro pre k x h0 hx hp hk
    obtain ⟨k, rfl⟩ : ∃ m, k = m + 1 := ⟨k - 1, by omega⟩
    have e0 : pre ++ upsC (m + 1) x = pre ++ ⟨x, x + 1, x + 2⟩ :: upsC m (x + 3) := rfl
    rw [e0]
    have hlt : (pre.length : Int) < ((pre ++ (⟨x, x + 1, x + 2⟩ : S24) :: upsC m (x + 3)).length : Int) := by simp; omega
    have h0' : (0 : Int) ≤ (pre.length : Int) := by omega
    rw [laws_heldCourseS.l0, if_pos hlt, if_pos h0', rd24_at, w64 (x := x + 1) (by omega), w64 (x := x + 1 + 1) (by omega), w64 (x := x + 1 + 1 + 1) (by omega), w64 (x := (pre.length : Int) + 1) (by omega)]
    have e3 : x + 1 + 1 + 1 = x + 3 := by omega
    have e4 : x + 1 + 1 = x + 2 := by omega
    have e1 : pre ++ (⟨x, x + 1, x + 2⟩ : S24) :: upsC m (x + 3) = (pre ++ [⟨x, x + 1, x + 2⟩]) ++ upsC m (x + 3) := by simp
    have e2 : ((pre.length : Int) + 1) = ((pre ++ [(⟨x, x + 1, x + 2⟩ : S24)]).length : Int) := by simp
    have e5 : x + 2 + 1 = x + 3 := by omega
    simp only [e4, e5, if_true]
    rw [e1, e2, ih (pre ++ [(⟨x, x + 1, x + 2⟩ : S24)]) k (x + 3) (by omega) (by omega) (by simp; omega) (by omega)]
    simp only [Option.some.injEq]
    omega
theorem heldC_eq (k n : Nat) (hl : n ≤ 140737488355328) (hk : n < k) : laws_heldCourseS.f k (upsC n 1) 1 = some (1 + 3 * (n : Int)) := by
  unfold laws_heldCourseS.f
  exact heldC_at n [] k 1 (by omega) (by omega) (by simp; omega) hk

end Go.Proofs.Ytibmehephlngfaa.Pure
