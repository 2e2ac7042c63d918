/- The program's LongestRun and the reference's answer alike. -/
import Derived.Test.YtecengjkpcbbaaaQ0
import Derived.Test.YtecengjkpcbbaaaQ8
import Derived.Test.YtecengjkpcbbaaaPZero
import Derived.Test.YtecengjkpcbbaaaPList
import Derived.Test.YtecengjkpcbbaaaPTo
import Derived.Test.YtecengjkpcbbaaaPIsList
namespace Go.Proofs.Ytecengjkpcbbaaa.Pure
open Go.RowKit Go.Proofs.Ytecengjkpcbbaaa.Q Go.Proofs.YtecengjkpcbbaaaW.PrintWords Go.Proofs.YtecengjkpcbbaaaW.PrintLast
set_option linter.unusedVariables false
set_option linter.unusedSimpArgs false


theorem run_both (least : Int) (post : List Int) : ∀ (pre : List Int) (k : Nat) (at' best run : Int), (pre.length : Int) + post.length ≤ 64 → post.length < k → 0 ≤ run → run ≤ pre.length → 0 ≤ best → best ≤ 64 →
    ∃ r, spec_LongestRun.l0 k (pre ++ post) least at' best run pre.length = some r ∧ impl_LongestRun.l0 k least at' best (pre.length - run) (pre ++ post) ((pre ++ post).length : Int) pre.length = some r := by
  induction post with
  | nil =>
    intro pre k a b run hp hk h0 h1 h2 h3
    obtain ⟨k, rfl⟩ : ∃ m, k = m + 1 := ⟨k - 1, by omega⟩
    have hn : ¬ ((pre.length : Int) < ((pre ++ []).length : Int)) := by simp
    refine ⟨if b = 0 then (0, 0, false) else (a, b, true), ?_, ?_⟩
    · rw [spec_LongestRun.l0, if_neg hn]; split <;> rfl
    · rw [impl_LongestRun.l0, if_neg hn]; split <;> rfl
  | cons p post ih =>
    intro pre k a b run hp hk h0 h1 h2 h3
    simp only [List.length_cons] at hp hk
    obtain ⟨k, rfl⟩ : ∃ m, k = m + 1 := ⟨k - 1, by omega⟩
    have hlt : (pre.length : Int) < ((pre ++ p :: post).length : Int) := by simp; omega
    have h0' : (0 : Int) ≤ (pre.length : Int) := by omega
    have e0 : rd (pre ++ p :: post) (pre.length : Int) = p := by simp [rd]
    have e2 : ((pre.length : Int) + 1) = ((pre ++ [p]).length : Int) := by simp
    have e3 : pre ++ p :: post = (pre ++ [p]) ++ post := by simp
    have ew : wrap64 ((pre.length : Int) + 1) = (pre.length : Int) + 1 := w64 (by omega)
    rw [spec_LongestRun.l0, impl_LongestRun.l0, if_pos hlt, if_pos hlt, if_pos h0', if_pos h0', if_pos hlt, e0, ew]
    by_cases c : p < least
    · have hb : ¬ (0 > b) := by omega
      simp only [if_pos c, if_neg hb]
      obtain ⟨r, r1, r2⟩ := ih (pre ++ [p]) k a b 0 (by simp; omega) (by omega) (by omega) (by omega) h2 h3
      refine ⟨r, ?_, ?_⟩
      · rw [e2, e3]; exact r1
      · rw [e2, e3]
        have e5 : ((pre ++ [p]).length : Int) - 0 = ((pre ++ [p]).length : Int) := by omega
        rw [e5] at r2
        exact r2
    · have ed : (pre.length : Int) + 1 - (pre.length - run) = run + 1 := by omega
      simp only [if_neg c]
      rw [ed, w64 (x := run + 1) (by omega)]
      by_cases c2 : run + 1 > b
      · simp only [if_pos c2]
        obtain ⟨r, r1, r2⟩ := ih (pre ++ [p]) k (pre.length - run) (run + 1) (run + 1) (by simp; omega) (by omega) (by omega) (by simp; omega) (by omega) (by omega)
        have e5 : ((pre ++ [p]).length : Int) - (run + 1) = pre.length - run := by simp; omega
        have e6 : wrap64 ((pre.length : Int) + 1 - (run + 1)) = pre.length - run := by rw [w64 (by omega)]; omega
        rw [e6]
        rw [e5] at r2
        refine ⟨r, ?_, ?_⟩
        · rw [e2, e3]; exact r1
        · rw [e2, e3]; exact r2
      · simp only [if_neg c2]
        obtain ⟨r, r1, r2⟩ := ih (pre ++ [p]) k a b (run + 1) (by simp; omega) (by omega) (by omega) (by simp; omega) h2 h3
        have e5 : ((pre ++ [p]).length : Int) - (run + 1) = pre.length - run := by simp; omega
        rw [e5] at r2
        refine ⟨r, ?_, ?_⟩
        · rw [e2, e3]; exact r1
        · rw [e2, e3]; exact r2

theorem FnExactLongestRun (l : List Int) (least : Int) (hm : l.length ≤ 9223372036854775807) (_ : ∀ z ∈ l, (Lit.int .i64 z).wf = true) (_ : (Lit.int .i64 least).wf = true) : ∃ k, laws_FnExactLongestRun.f k l least = some true := by
  refine ⟨l.length + 70, ?_⟩
  unfold laws_FnExactLongestRun.f
  by_cases hs : (l.length : Int) > 1048576
  · rw [if_pos hs]
  · rw [if_neg hs, to_eq _ l (by omega) (by omega)]
    simp only [Option.bind_some]
    have fin : ∀ b : Bool, laws_FnExactLongestRun.j0 (l.length + 70) l l (b != b) = some true := by
      intro b
      have hbb : (b != b) = false := by cases b <;> rfl
      rw [hbb, laws_FnExactLongestRun.j0, if_neg (by simp), to_eq _ l (by omega) (by omega)]
      simp only [Option.bind_some]
      rw [eqInts_self _ l (by omega) (by omega)]
      simp only [Option.bind_some, if_true]
    have key : ∃ r, spec_LongestRun.f (l.length + 70) l least = some r ∧ impl_LongestRun.f (l.length + 70) l least = some r := by
      unfold spec_LongestRun.f impl_LongestRun.f
      rw [slist_eq _ l (by omega) (by omega), ilist_eq]
      simp only [Option.bind_some]
      cases h : listB l with
      | true =>
        have h64 : (l.length : Int) ≤ 64 := of_decide_eq_true (Bool.and_eq_true_iff.1 h).1
        obtain ⟨r, r1, r2⟩ := run_both least l [] (l.length + 70) 0 0 0 (by simp; omega) (by omega) (by omega) (by simp) (by omega) (by omega)
        exact ⟨r, by rw [if_pos rfl]; exact r1, by rw [if_pos rfl]; exact r2⟩
      | false => exact ⟨(0, 0, false), by rw [if_neg (by simp)], by rw [if_neg (by simp)]⟩
    obtain ⟨r, r1, r2⟩ := key
    rw [r1, r2]
    simp only [Option.bind_some, if_true]
    exact fin r.2.2

end Go.Proofs.Ytecengjkpcbbaaa.Pure
