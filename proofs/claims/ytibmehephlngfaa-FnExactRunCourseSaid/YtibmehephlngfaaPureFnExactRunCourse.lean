/- The program's RunCourse and the reference's answer alike. -/
import Derived.Test.YtibmehephlngfaaQ0
import Derived.Test.YtibmehephlngfaaQ3
import Derived.Test.YtibmehephlngfaaQ5
import Derived.Test.YtibmehephlngfaaQ15
import Derived.Test.YtibmehephlngfaaQ22
import Derived.Test.YtibmehephlngfaaQ23
import Derived.Test.YtibmehephlngfaaPCourse
import Derived.Test.YtibmehephlngfaaPCList
import Derived.Test.YtibmehephlngfaaPList
import Derived.Test.YtibmehephlngfaaPTo
namespace Go.Proofs.Ytibmehephlngfaa.Pure
open Go.RowKit Go.Proofs.Ytibmehephlngfaa.Q Go.Proofs.YtibmehephlngfaaW.PrintWords Go.Proofs.YtibmehephlngfaaW.PrintLast
set_option linter.unusedVariables false
set_option linter.unusedSimpArgs false

theorem run_both (a b : Int) (post : List Int) : ∀ (pre : List Int) (acc : List S24) (o h t : Int), valB a b o h t = true → pre.length + post.length ≤ 40 → acc.length ≤ pre.length →
    ∃ (r : List S24) (q : Bool), r.length ≤ 40 ∧ ∀ k, post.length + 1 < k → spec_l05Run.l0 k (pre ++ post) acc pre.length a b o h t = some (r, q) ∧ impl_RunCourse.l0 k acc (pre ++ post) ((pre ++ post).length : Int) pre.length a b o h t = some (r, q) := by
  induction post with
  | nil =>
    intro pre acc o h t hv hl ha
    have hn : ¬ ((pre.length : Int) < ((pre ++ []).length : Int)) := by simp
    refine ⟨acc, true, by simp at hl; omega, fun k hk => ?_⟩
    obtain ⟨k, rfl⟩ : ∃ m, k = m + 1 := ⟨k - 1, by omega⟩
    exact ⟨by rw [spec_l05Run.l0, if_neg hn], by rw [impl_RunCourse.l0, if_neg hn]⟩
  | cons u post ih =>
    intro pre acc o h t hv hl ha
    simp only [List.length_cons] at hl
    have hlt : (pre.length : Int) < ((pre ++ u :: post).length : Int) := by simp; omega
    have h0' : (0 : Int) ≤ (pre.length : Int) := by omega
    have hpl : acc.length < 5864062014805 := by omega
    have hw : wrap64 ((pre.length : Int) + 1) = ((pre ++ [u]).length : Int) := by rw [w64 (by omega)]; simp
    have er : rd (pre ++ u :: post) (pre.length : Int) = u := by simp [rd]
    have e1 : pre ++ u :: post = (pre ++ [u]) ++ post := by simp
    cases hk : okN a b o h t u with
    | true =>
      obtain ⟨n1, n2⟩ := okN_iff hv hk
      obtain ⟨r, q, hr, e2⟩ := ih (pre ++ [u]) (acc ++ [⟨o + h, h + u, u⟩]) (o + h) (h + u) u n2 (by simp; omega) (by simp; omega)
      refine ⟨r, q, hr, fun k hk' => ?_⟩
      simp only [List.length_cons] at hk'
      obtain ⟨k, rfl⟩ : ∃ m, k = m + 2 := ⟨k - 2, by omega⟩
      obtain ⟨e3, e4⟩ := e2 (k + 1) (by omega)
      constructor
      · rw [spec_l05Run.l0, if_pos hlt, if_pos h0', er, snext_eq, n1, Option.bind_some, if_pos rfl, if_pos hpl, hw, e1]; exact e3
      · rw [impl_RunCourse.l0, if_pos hlt, if_pos h0', if_pos hlt, er, inext_eq k hv, n1, Option.bind_some, if_pos rfl, if_pos hpl, hw, e1]; exact e4
    | false =>
      have n1 : (nextT a b o h t u).2.2.2 = false := by rw [nextT_ok, hk]
      refine ⟨[], false, by simp, fun k hk' => ?_⟩
      simp only [List.length_cons] at hk'
      obtain ⟨k, rfl⟩ : ∃ m, k = m + 2 := ⟨k - 2, by omega⟩
      constructor
      · rw [spec_l05Run.l0, if_pos hlt, if_pos h0', er, snext_eq, Option.bind_some, n1, if_neg (by simp)]
      · rw [impl_RunCourse.l0, if_pos hlt, if_pos h0', if_pos hlt, er, inext_eq k hv, Option.bind_some, n1, if_neg (by simp)]
theorem runM_both (a b o h t : Int) (l : List Int) : ∃ (r : List S24) (q : Bool), r.length ≤ 40 ∧ ∀ k, l.length + 3 < k → spec_RunCourse.f k a b o h t l = some (r, q) ∧ impl_RunCourse.f k a b o h t l = some (r, q) := by
  cases hv : valB a b o h t with
  | false =>
    refine ⟨[], false, by simp, fun k hk => ?_⟩
    obtain ⟨k, rfl⟩ : ∃ m, k = m + 1 := ⟨k - 1, by omega⟩
    constructor
    · unfold spec_RunCourse.f; rw [sis_eq, hv]; rfl
    · unfold impl_RunCourse.f; rw [ivalc_eq, hv]; rfl
  | true =>
    by_cases hl : (l.length : Int) > 40
    · refine ⟨[], false, by simp, fun k hk => ?_⟩
      obtain ⟨k, rfl⟩ : ∃ m, k = m + 1 := ⟨k - 1, by omega⟩
      constructor
      · unfold spec_RunCourse.f; rw [sis_eq, hv, Option.bind_some, if_pos rfl, if_pos hl]
      · unfold impl_RunCourse.f; rw [ivalc_eq, hv, Option.bind_some, if_pos rfl, decide_eq_true hl, impl_RunCourse.j0, if_pos rfl]
    · obtain ⟨r, q, hr, e⟩ := run_both a b l [] [] o h t hv (by simp; omega) (by simp)
      refine ⟨r, q, hr, fun k hk => ?_⟩
      obtain ⟨k, rfl⟩ : ∃ m, k = m + 1 := ⟨k - 1, by omega⟩
      constructor
      · unfold spec_RunCourse.f spec_l05Run.f
        rw [sis_eq, hv, Option.bind_some, if_pos rfl, if_neg hl]
        have e1 : spec_l05Run.l0 (k + 1) l [] 0 a b o h t = some (r, q) := (e (k + 1) (by omega)).1
        rw [e1]; rfl
      · unfold impl_RunCourse.f
        rw [ivalc_eq, hv, Option.bind_some, if_pos rfl, decide_eq_false hl, impl_RunCourse.j0, if_neg (by simp)]
        exact (e k (by omega)).2

theorem FnExactRunCourse (a b o h t : Int) (l : List Int) (_ : (Lit.int .i64 a).wf = true) (_ : (Lit.int .i64 b).wf = true) (_ : (Lit.int .i64 o).wf = true) (_ : (Lit.int .i64 h).wf = true) (_ : (Lit.int .i64 t).wf = true)
    (hm : l.length ≤ 9223372036854775807) (_ : ∀ z ∈ l, (Lit.int .i64 z).wf = true) : ∃ k, laws_FnExactRunCourse.f k a b o h t l = some true := by
  refine ⟨l.length + 110, ?_⟩
  unfold laws_FnExactRunCourse.f
  by_cases hl : (l.length : Int) > 1048576
  · rw [if_pos hl]
  · obtain ⟨r, q, hr, e⟩ := runM_both a b o h t l
    have hbb : (q != q) = false := by cases q <;> rfl
    rw [if_neg hl]
    simp only [laws_toLimits.f, laws_toCourse.f, Option.bind_some]
    rw [to_eq _ l (by omega) (by omega), Option.bind_some, (e _ (by omega)).1, Option.bind_some, Option.bind_some, (e _ (by omega)).2]
    simp only [Option.bind_some]
    rw [eqCs_self _ r (by omega) (by omega)]
    simp only [Option.bind_some, if_true, hbb]
    rw [laws_FnExactRunCourse.j0, if_neg (by simp), to_eq _ l (by omega) (by omega)]
    simp only [Option.bind_some]
    rw [eqInts_self _ l (by omega) (by omega)]
    simp only [Option.bind_some, if_true]
    rw [mark_eq _ l (by omega) (by omega)]
    simp only [Option.bind_some]
    rw [if_neg (by omega), eqCs_self _ r (by omega) (by omega)]
    simp only [Option.bind_some, if_true, hbb]
    rw [laws_FnExactRunCourse.j1, if_neg (by simp), markC_eq _ r (by omega) (by omega)]
    simp only [Option.bind_some]
    rw [heldC_eq _ r.length (by omega) (by omega)]
    simp only [Option.bind_some]
    rw [if_neg (by omega)]
    simp only [if_true, laws_toLimits.f, laws_toCourse.f, Option.bind_some]
    rw [to_eq _ l (by omega) (by omega)]
    simp only [Option.bind_some]
    rw [(e _ (by omega)).2]
    simp only [Option.bind_some]
    rw [eqCs_self _ r (by omega) (by omega)]
    simp only [Option.bind_some, if_true, hbb]
    rw [laws_FnExactRunCourse.j2, if_neg (by simp), heldC_eq _ r.length (by omega) (by omega)]
    simp only [Option.bind_some]
    rw [if_neg (by omega)]
    simp only [if_true]

end Go.Proofs.Ytibmehephlngfaa.Pure
