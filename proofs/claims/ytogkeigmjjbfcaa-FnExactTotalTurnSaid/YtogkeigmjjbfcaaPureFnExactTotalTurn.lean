/- The program's TotalTurn and the reference's answer alike for every tube. -/
import Derived.Test.YtogkeigmjjbfcaaQ0
import Derived.Test.YtogkeigmjjbfcaaQ18
import Derived.Test.YtogkeigmjjbfcaaQ24
import Derived.Test.YtogkeigmjjbfcaaPTube
namespace Go.Proofs.Ytogkeigmjjbfcaa.Pure
open Go.RowKit Go.Proofs.Ytogkeigmjjbfcaa.Q Go.Proofs.YtogkeigmjjbfcaaW.PrintWords Go.Proofs.YtogkeigmjjbfcaaW.PrintLast
set_option linter.unusedVariables false
set_option linter.unusedSimpArgs false

theorem total_both (post : List S26) : ∀ (pre : List S26) (x y : Int), (pre.length : Int) + post.length ≤ 60 → (∀ z ∈ post, ringB z.f0 z.f1 = true) →
    ∃ r, ∀ k, post.length < k → spec_l03Total.l0 k (pre ++ post) x y pre.length = some r ∧ impl_totalTurn.l0 k x y (pre ++ post) ((pre ++ post).length : Int) pre.length = some r := by
  induction post with
  | nil =>
    intro pre x y hp hv
    have hn : ¬ ((pre.length : Int) < ((pre ++ []).length : Int)) := by simp
    refine ⟨(x, y), fun k hk => ?_⟩
    obtain ⟨k, rfl⟩ : ∃ m, k = m + 1 := ⟨k - 1, by omega⟩
    exact ⟨by rw [spec_l03Total.l0, if_neg hn], by rw [impl_totalTurn.l0, if_neg hn]⟩
  | cons z post ih =>
    intro pre x y hp hv
    simp only [List.length_cons] at hp
    have hlt : (pre.length : Int) < ((pre ++ z :: post).length : Int) := by simp <;> omega
    have h0' : (0 : Int) ≤ (pre.length : Int) := by omega
    have e2 : wrap64 ((pre.length : Int) + 1) = ((pre ++ [z]).length : Int) := by rw [w64 (by omega)]; simp
    have e3 : pre ++ z :: post = (pre ++ [z]) ++ post := by simp
    obtain ⟨t, t1, t2⟩ := turn_both (hv z (by simp))
    obtain ⟨r, hr⟩ := ih (pre ++ [z]) (wrap64 (x + t.1)) (wrap64 (y + t.2)) (by simp <;> omega) (fun z hz => hv z (by simp [hz]))
    refine ⟨r, fun k hk => ?_⟩
    simp only [List.length_cons] at hk
    obtain ⟨k, rfl⟩ : ∃ m, k = m + 1 := ⟨k - 1, by omega⟩
    obtain ⟨r1, r2⟩ := hr k (by omega)
    constructor
    · rw [spec_l03Total.l0, if_pos hlt, if_pos h0', rd26_at, t1, Option.bind_some, e2, e3]; exact r1
    · rw [impl_totalTurn.l0, if_pos hlt, if_pos h0', if_pos hlt, rd26_at, t2, Option.bind_some, e2, e3]; exact r2

theorem FnExactTotalTurn (l : List S23) (hm : l.length ≤ 9223372036854775807) (_ : ∀ z ∈ l, (Lit.int .i64 z.f0).wf = true ∧ (Lit.int .i64 z.f1).wf = true) : ∃ k, laws_FnExactTotalTurn.f k l = some true := by
  refine ⟨l.length + 121, ?_⟩
  unfold laws_FnExactTotalTurn.f
  rw [szR_eq l hm]
  simp only [Option.bind_some]
  by_cases h : (l.length : Int) > 1048576
  · rw [if_pos h, if_pos (by omega)]
  · rw [if_neg h, if_neg (by omega), toRings_eq _ l (by omega) (by omega)]
    simp only [Option.bind_some, spec_TotalTurn.f, impl_TotalTurn.f]
    rw [stube_eq _ (l.map ringOf) (by simp <;> omega) (by simp <;> omega), itube_eq _ (l.map ringOf) (by simp <;> omega) (by simp <;> omega)]
    have fin : laws_FnExactTotalTurn.j0 (l.length + 121) l (l.map ringOf) false = some true := by
      rw [laws_FnExactTotalTurn.j0, if_neg (by simp), toRings_eq _ l (by omega) (by omega), Option.bind_some, eqRs_self _ (l.map ringOf) (by simp <;> omega) (by simp <;> omega)]
      rfl
    cases hv : tubeV (l.map ringOf) with
    | false =>
      simp only [Option.bind_some, if_true, Bool.false_eq_true, if_false]
      exact fin
    | true =>
      obtain ⟨v1, v2⟩ := tubeV_iff hv
      obtain ⟨r, hr⟩ := total_both (l.map ringOf) [] 0 0 (by simp only [List.length_nil]; omega) v1
      have hll : (l.map ringOf).length = l.length := by simp
      obtain ⟨r1, r2⟩ := hr (l.length + 121) (by omega)
      have r1' : spec_l03Total.f (l.length + 121) (l.map ringOf) = some r := r1
      have r2' : impl_totalTurn.f (l.length + 121) (l.map ringOf) = some r := r2
      simp only [Option.bind_some, if_true, r1', r2']
      exact fin

end Go.Proofs.Ytogkeigmjjbfcaa.Pure
