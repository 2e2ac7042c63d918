/- The program's TurnsFrom and the reference's answer alike. -/
import Derived.Test.YtibmehephlngfaaQ0
import Derived.Test.YtibmehephlngfaaQ3
import Derived.Test.YtibmehephlngfaaQ5
import Derived.Test.YtibmehephlngfaaQ7
import Derived.Test.YtibmehephlngfaaQ14
import Derived.Test.YtibmehephlngfaaQ21
import Derived.Test.YtibmehephlngfaaPCourse
import Derived.Test.YtibmehephlngfaaPList
namespace Go.Proofs.Ytibmehephlngfaa.Pure
open Go.RowKit Go.Proofs.Ytibmehephlngfaa.Q Go.Proofs.YtibmehephlngfaaW.PrintWords Go.Proofs.YtibmehephlngfaaW.PrintLast
set_option linter.unusedVariables false
set_option linter.unusedSimpArgs false

theorem turns_both (a b o h t : Int) (hv : valB a b o h t = true) (d : Nat) : ∀ (pre : List Int) (u : Int), -3 ≤ u → u ≤ a + 1 → a + 1 - u = d → pre.length ≤ u + 3 →
    ∃ r : List Int, r.length ≤ 7 ∧ ∀ k, d + 1 < k → spec_TurnsFrom.l0 k pre u a b o h t = some (r, true) ∧ impl_Limits_turns.l0 k pre u a b o h t = some r := by
  obtain ⟨ha, hb, ho, hh, ht⟩ := valB_iff hv
  induction d with
  | zero =>
    intro pre u h0 h1 hd hl
    have hn : ¬ (u ≤ a) := by omega
    refine ⟨pre, by omega, fun k hk => ?_⟩
    obtain ⟨k, rfl⟩ : ∃ m, k = m + 1 := ⟨k - 1, by omega⟩
    exact ⟨by rw [spec_TurnsFrom.l0, if_neg hn], by rw [impl_Limits_turns.l0, if_neg hn]⟩
  | succ d ih =>
    intro pre u h0 h1 hd hl
    have hlt : u ≤ a := by omega
    have hpl : pre.length < 17592186044416 := by omega
    have hw : wrap64 (u + 1) = u + 1 := w64 (by omega)
    cases hk : okN a b o h t u with
    | true =>
      obtain ⟨r, e1, e2⟩ := ih (pre ++ [u]) (u + 1) (by omega) (by omega) (by omega) (by simp; omega)
      refine ⟨r, e1, fun k hk' => ?_⟩
      obtain ⟨k, rfl⟩ : ∃ m, k = m + 2 := ⟨k - 2, by omega⟩
      obtain ⟨e3, e4⟩ := e2 (k + 1) (by omega)
      constructor
      · rw [spec_TurnsFrom.l0, if_pos hlt, snext_eq, Option.bind_some, nextT_ok, hk, if_pos rfl, if_pos hpl, hw]; exact e3
      · rw [impl_Limits_turns.l0, if_pos hlt, inext_eq k hv, Option.bind_some, nextT_ok, hk, if_pos rfl, if_pos hpl, hw]; exact e4
    | false =>
      obtain ⟨r, e1, e2⟩ := ih pre (u + 1) (by omega) (by omega) (by omega) (by omega)
      refine ⟨r, e1, fun k hk' => ?_⟩
      obtain ⟨k, rfl⟩ : ∃ m, k = m + 2 := ⟨k - 2, by omega⟩
      obtain ⟨e3, e4⟩ := e2 (k + 1) (by omega)
      constructor
      · rw [spec_TurnsFrom.l0, if_pos hlt, snext_eq, Option.bind_some, nextT_ok, hk, if_neg (by simp), hw]; exact e3
      · rw [impl_Limits_turns.l0, if_pos hlt, inext_eq k hv, Option.bind_some, nextT_ok, hk, if_neg (by simp), hw]; exact e4
theorem turnsM_both (a b o h t : Int) : ∃ (r : List Int) (q : Bool), r.length ≤ 7 ∧ ∀ k, 20 < k → spec_TurnsFrom.f k a b o h t = some (r, q) ∧ impl_TurnsFrom.f k a b o h t = some (r, q) := by
  cases hv : valB a b o h t with
  | false =>
    refine ⟨[], false, by simp, fun k hk => ⟨?_, ?_⟩⟩
    · unfold spec_TurnsFrom.f; rw [sis_eq, hv]; rfl
    · unfold impl_TurnsFrom.f; rw [ivalc_eq, hv]; rfl
  | true =>
    obtain ⟨ha, hb, ho, hh, ht⟩ := valB_iff hv
    obtain ⟨r, e1, e2⟩ := turns_both a b o h t hv (2 * a + 1).toNat [] (-a) (by omega) (by omega) (by omega) (by simp; omega)
    refine ⟨r, true, e1, fun k hk => ?_⟩
    obtain ⟨e3, e4⟩ := e2 k (by omega)
    constructor
    · unfold spec_TurnsFrom.f; rw [sis_eq, hv, w64 (by omega)]; exact e3
    · unfold impl_TurnsFrom.f impl_Limits_turns.f; rw [ivalc_eq, hv, w64 (by omega), Option.bind_some, if_pos rfl, e4]; rfl

theorem FnExactTurnsFrom (a b o h t : Int) (_ : (Lit.int .i64 a).wf = true) (_ : (Lit.int .i64 b).wf = true) (_ : (Lit.int .i64 o).wf = true) (_ : (Lit.int .i64 h).wf = true) (_ : (Lit.int .i64 t).wf = true) :
    ∃ k, laws_FnExactTurnsFrom.f k a b o h t = some true := by
  obtain ⟨r, q, hr, e⟩ := turnsM_both a b o h t
  have hbb : (q != q) = false := by cases q <;> rfl
  refine ⟨102, ?_⟩
  unfold laws_FnExactTurnsFrom.f laws_toLimits.f laws_toCourse.f
  simp only [Option.bind_some]
  rw [(e 102 (by omega)).1, Option.bind_some, (e 102 (by omega)).2]
  simp only [Option.bind_some]
  rw [eqInts_self 102 r (by omega) (by omega)]
  simp only [Option.bind_some, if_true, hbb]
  rw [laws_FnExactTurnsFrom.j0, if_neg (by simp), mark_eq 101 r (by omega) (by omega)]
  simp only [Option.bind_some]
  rw [held_eq 101 r.length (by omega) (by omega)]
  simp only [Option.bind_some]
  rw [if_neg (by omega)]
  simp only [if_true, laws_toLimits.f, laws_toCourse.f, Option.bind_some]
  rw [(e 101 (by omega)).2]
  simp only [Option.bind_some]
  rw [eqInts_self 101 r (by omega) (by omega)]
  simp only [Option.bind_some, if_true, hbb]
  rw [laws_FnExactTurnsFrom.j1, if_neg (by simp), held_eq 100 r.length (by omega) (by omega)]
  simp only [Option.bind_some]
  rw [if_neg (by omega)]
  simp only [if_true]

end Go.Proofs.Ytibmehephlngfaa.Pure
