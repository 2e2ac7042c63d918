/- The program's QuarterTube and the reference's answer alike for every tube. -/
import Derived.Test.YtogkeigmjjbfcaaQ0
import Derived.Test.YtogkeigmjjbfcaaQ26
import Derived.Test.YtogkeigmjjbfcaaPRList
import Derived.Test.YtogkeigmjjbfcaaGTurned
namespace Go.Proofs.Ytogkeigmjjbfcaa.Pure
open Go.RowKit Go.Proofs.Ytogkeigmjjbfcaa.Q Go.Proofs.YtogkeigmjjbfcaaW.PrintWords Go.Proofs.YtogkeigmjjbfcaaW.PrintLast
set_option linter.unusedVariables false
set_option linter.unusedSimpArgs false

theorem turn_all (post : List S26) : ∀ (pre acc : List S26), (pre.length : Int) + post.length ≤ 60 → acc.length ≤ pre.length → (∀ z ∈ post, ringB z.f0 z.f1 = true) →
    ∃ r : List S26, r.length ≤ 60 ∧ ∀ k, post.length < k → spec_QuarterTube.l0 k (pre ++ post) acc pre.length = some (r, true) ∧ impl_turnedU.l0 k acc (pre ++ post) ((pre ++ post).length : Int) pre.length = some (r, true) := by
  induction post with
  | nil =>
    intro pre acc hp ha hv
    have hn : ¬ ((pre.length : Int) < ((pre ++ []).length : Int)) := by simp
    refine ⟨acc, by simp at hp; omega, fun k hk => ?_⟩
    obtain ⟨k, rfl⟩ : ∃ m, k = m + 1 := ⟨k - 1, by omega⟩
    exact ⟨by rw [spec_QuarterTube.l0, if_neg hn], by rw [impl_turnedU.l0, if_neg hn]⟩
  | cons z post ih =>
    intro pre acc hp ha hv
    simp only [List.length_cons] at hp
    have hlt : (pre.length : Int) < ((pre ++ z :: post).length : Int) := by simp; omega
    have h0' : (0 : Int) ≤ (pre.length : Int) := by omega
    have e2 : wrap64 ((pre.length : Int) + 1) = ((pre ++ [z]).length : Int) := by rw [w64 (by omega)]; simp
    have e3 : pre ++ z :: post = (pre ++ [z]) ++ post := by simp
    have hal : acc.length < 8796093022208 := by omega
    have hz := hv z (by simp)
    simp only [ringB, Bool.and_eq_true] at hz
    have hz2 := inR_iff hz.2
    have hkey : Int.tmod (wrap64 ((wrap64 (z.f1 + 4)) + 16)) 16 = Int.tmod (wrap64 (z.f1 + 4)) 16 := by
      rw [w64 (x := z.f1 + 4) (by omega), w64 (by omega), Int.tmod_eq_emod_of_nonneg (by omega), Int.tmod_eq_emod_of_nonneg (by omega)]
      omega
    obtain ⟨r, hr1, hr⟩ := ih (pre ++ [z]) (acc ++ [(⟨z.f0, Int.tmod (wrap64 (z.f1 + 4)) 16⟩ : S26)]) (by simp; omega) (by simp; omega) (fun z hz => hv z (by simp [hz]))
    refine ⟨r, hr1, fun k hk => ?_⟩
    simp only [List.length_cons] at hk
    obtain ⟨k, rfl⟩ : ∃ m, k = m + 1 := ⟨k - 1, by omega⟩
    obtain ⟨r1, r2⟩ := hr k (by omega)
    constructor
    · rw [spec_QuarterTube.l0, if_pos hlt, if_pos h0', if_pos hal, rd26_at, e2, e3]; exact r1
    · rw [impl_turnedU.l0, if_pos hlt, if_pos h0', if_pos hlt, impl_QuarterTube_S1.f, Option.bind_some, if_pos hal, rd26_at, hkey, e2, e3]; exact r2
theorem turned_M (l : List S26) (hl : l.length ≤ 1048576) : ∃ (r : List S26) (q : Bool), r.length ≤ 60 ∧ ∀ k, l.length + 110 < k → spec_QuarterTube.f k l = some (r, q) ∧ impl_QuarterTube.f k l = some (r, q) := by
  cases hv : tubeV l with
  | false =>
    refine ⟨[], false, by simp, fun k hk => ⟨?_, ?_⟩⟩
    · unfold spec_QuarterTube.f; rw [stube_eq k l (by omega) hk, hv]; rfl
    · unfold impl_QuarterTube.f impl_turnedU.f; rw [itube_eq k l (by omega) hk, hv]; rfl
  | true =>
    obtain ⟨v1, v2⟩ := tubeV_iff hv
    obtain ⟨r, hr1, hr⟩ := turn_all l [] [] (by simp only [List.length_nil]; omega) (by simp) v1
    refine ⟨r, true, hr1, fun k hk => ?_⟩
    obtain ⟨r1, r2⟩ := hr k (by omega)
    constructor
    · unfold spec_QuarterTube.f; rw [stube_eq k l (by omega) hk, hv]; exact r1
    · unfold impl_QuarterTube.f impl_turnedU.f; rw [itube_eq k l (by omega) hk, hv]; exact r2

theorem FnExactQuarterTube (l : List S23) (hm : l.length ≤ 9223372036854775807) (_ : ∀ z ∈ l, (Lit.int .i64 z.f0).wf = true ∧ (Lit.int .i64 z.f1).wf = true) : ∃ k, laws_FnExactQuarterTube.f k l = some true := by
  refine ⟨l.length + 220, ?_⟩
  unfold laws_FnExactQuarterTube.f
  rw [szR_eq l hm]
  simp only [Option.bind_some]
  by_cases h : (l.length : Int) > 1048576
  · rw [if_pos h, if_pos (by omega)]
  · have hll : (l.map ringOf).length = l.length := by simp
    obtain ⟨r, q, hr, e⟩ := turned_M (l.map ringOf) (by omega)
    have hbb : (q != q) = false := by cases q <;> rfl
    rw [if_neg h, if_neg (by omega), toRings_eq _ l (by omega) (by omega)]
    simp only [Option.bind_some]
    rw [(e _ (by omega)).1, Option.bind_some, (e _ (by omega)).2]
    simp only [Option.bind_some]
    rw [eqRs_self _ r (by omega) (by omega)]
    simp only [Option.bind_some, if_true, hbb]
    rw [laws_FnExactQuarterTube.j0, if_neg (by simp), toRings_eq _ l (by omega) (by omega)]
    simp only [Option.bind_some]
    rw [eqRs_self _ (l.map ringOf) (by omega) (by omega)]
    simp only [Option.bind_some, if_true]
    rw [markR_eq _ (l.map ringOf) (by omega) (by omega)]
    simp only [Option.bind_some]
    rw [if_neg (by omega), eqRs_self _ r (by omega) (by omega)]
    simp only [Option.bind_some, if_true, hbb]
    rw [laws_FnExactQuarterTube.j1, if_neg (by simp), markR_eq _ r (by omega) (by omega)]
    simp only [Option.bind_some]
    rw [heldR_eq _ r.length (by omega) (by omega)]
    simp only [Option.bind_some]
    rw [if_neg (by omega)]
    simp only [if_true]
    rw [toRings_eq _ l (by omega) (by omega)]
    simp only [Option.bind_some]
    rw [(e _ (by omega)).2]
    simp only [Option.bind_some]
    rw [eqRs_self _ r (by omega) (by omega)]
    simp only [Option.bind_some, if_true, hbb]
    rw [laws_FnExactQuarterTube.j2, if_neg (by simp), heldR_eq _ r.length (by omega) (by omega)]
    simp only [Option.bind_some]
    rw [if_neg (by omega)]
    simp only [if_true]

end Go.Proofs.Ytogkeigmjjbfcaa.Pure
