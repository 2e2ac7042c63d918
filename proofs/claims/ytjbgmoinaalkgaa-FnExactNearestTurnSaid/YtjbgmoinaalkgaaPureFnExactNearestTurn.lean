/- The program's NearestTurn and the reference's answer alike. -/
import Derived.Test.YtjbgmoinaalkgaaQ0
import Derived.Test.YtjbgmoinaalkgaaQ2
import Derived.Test.YtjbgmoinaalkgaaPZero
import Derived.Test.YtjbgmoinaalkgaaPRingN
namespace Go.Proofs.Ytjbgmoinaalkgaa.Pure
open Go.RowKit Go.Proofs.Ytjbgmoinaalkgaa.Q Go.Proofs.YtjbgmoinaalkgaaW.PrintWords Go.Proofs.YtjbgmoinaalkgaaW.PrintLast
set_option linter.unusedVariables false
set_option linter.unusedSimpArgs false

theorem nearL_len (g : S27 → List S27 × Int) (m : Nat) : ∀ (L : List S27) (p : List S27 × Int), (∀ r ∈ L, (g r).1.length ≤ m) → p.1.length ≤ m → (nearL g L p).1.length ≤ m
  | [], p, _, hp => hp
  | r :: rs, p, hl, hp => by
    rw [nearL]
    refine nearL_len g m rs _ (fun r hr => hl r (by simp [hr])) ?_
    split
    · exact hl r (by simp)
    · exact hp
theorem near_len (B R : Int) : ∀ (n : Nat) (last : S27) (t : List S27), (near B R n last t).1.length ≤ t.length + n
  | 0, _, t => Nat.le_refl _
  | n + 1, last, t => by
    rw [near]
    refine nearL_len _ _ _ _ (fun r _ => ?_) (Nat.zero_le _)
    have := near_len B R n r (t ++ [r])
    simp at this
    omega

theorem sring_eq (a b : Int) : spec_l03Is.f a b = some (ringB a b) := by
  unfold spec_l03Is.f ringB
  simp only [in_eq, Option.bind_some, and_some]

theorem near_both (a b c B R : Int) : ∃ (r : List S27) (m : Int) (q : Bool), r.length ≤ 4 ∧ spec_NearestTurn.f a b c B R = some (r, m, q) ∧ impl_NearestTurn.f a b c B R = some (r, m, q) := by
  unfold spec_NearestTurn.f impl_NearestTurn.f spec_l03Nearest.f
  simp only [sring_eq, in_eq, Option.bind_some]
  cases h1 : ringB a b with
  | false => exact ⟨[], 0, false, by simp, by simp, by simp⟩
  | true =>
    cases h2 : inR 1 4 c with
    | false => exact ⟨[], 0, false, by simp, by simp, by simp⟩
    | true =>
      cases h3 : inR (-100000) 100000 B with
      | false => exact ⟨[], 0, false, by simp, by simp, by simp⟩
      | true =>
        cases h4 : inR (-100000) 100000 R with
        | false => exact ⟨[], 0, false, by simp, by simp, by simp⟩
        | true =>
          have := near_len B R c.toNat ⟨a, b⟩ []
          have hc := inR_iff h2
          refine ⟨(near B R c.toNat ⟨a, b⟩ []).1, (near B R c.toNat ⟨a, b⟩ []).2, true, by simp at this; omega, by simp, by simp⟩

theorem FnExactNearestTurn (a b c B R : Int) (_ : (Lit.int .i64 a).wf = true) (_ : (Lit.int .i64 b).wf = true) (_ : (Lit.int .i64 c).wf = true) (_ : (Lit.int .i64 B).wf = true) (_ : (Lit.int .i64 R).wf = true) : ∃ k, laws_FnExactNearestTurn.f k a b c B R = some true := by
  refine ⟨100, ?_⟩
  obtain ⟨r, m, q, hl, h1, h2⟩ := near_both a b c B R
  have hbb : (q != q) = false := by cases q <;> rfl
  unfold laws_FnExactNearestTurn.f laws_toRing.f
  simp only [Option.bind_some, h1, h2, eqRs_self 100 r (by omega) (by omega), if_true, hbb]
  rw [laws_FnExactNearestTurn.j0]
  simp only [markR_eq 99 r (by omega) (by omega), Option.bind_some, heldR_eq 99 r.length (by omega) (by omega), if_true, Bool.false_eq_true, if_false]
  rw [if_neg (by omega)]
  unfold laws_toRing.f
  simp only [Option.bind_some, h2, eqRs_self 99 r (by omega) (by omega), if_true, hbb]
  rw [laws_FnExactNearestTurn.j1]
  simp only [Option.bind_some, heldR_eq 98 r.length (by omega) (by omega), if_true, Bool.false_eq_true, if_false]
  rw [if_neg (by omega)]

end Go.Proofs.Ytjbgmoinaalkgaa.Pure
