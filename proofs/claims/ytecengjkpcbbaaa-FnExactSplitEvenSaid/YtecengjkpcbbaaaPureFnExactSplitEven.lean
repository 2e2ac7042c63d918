/- The program's SplitEven and the reference's answer alike. -/
import Derived.Test.YtecengjkpcbbaaaQ0
import Derived.Test.YtecengjkpcbbaaaQ7
import Derived.Test.YtecengjkpcbbaaaPZero
import Derived.Test.YtecengjkpcbbaaaPList
namespace Go.Proofs.Ytecengjkpcbbaaa.Pure
open Go.RowKit Go.Proofs.Ytecengjkpcbbaaa.Q Go.Proofs.YtecengjkpcbbaaaW.PrintWords Go.Proofs.YtecengjkpcbbaaaW.PrintLast
set_option linter.unusedVariables false
set_option linter.unusedSimpArgs false


theorem split_both (t p : Int) (hp : 1 ≤ p ∧ p ≤ 64) (d : Nat) : ∀ (pre : List Int) (i : Int), 0 ≤ i → i ≤ p → p - i = d → pre.length = i.toNat →
    ∃ r : List Int, r.length = p.toNat ∧ ∀ k, d < k → spec_l01Split.l0 k t p pre i = some r ∧ impl_SplitEven.l0 k t p pre p i = some (r, true) := by
  induction d with
  | zero =>
    intro pre i h0 h1 hd hl
    have hn : ¬ (i < p) := by omega
    refine ⟨pre, by omega, fun k hk => ?_⟩
    obtain ⟨k, rfl⟩ : ∃ m, k = m + 1 := ⟨k - 1, by omega⟩
    exact ⟨by rw [spec_l01Split.l0, if_neg hn], by rw [impl_SplitEven.l0, if_neg hn]⟩
  | succ d ih =>
    intro pre i h0 h1 hd hl
    have hlt : i < p := by omega
    have hz : ¬ (p = 0) := by omega
    have hpl : pre.length < 17592186044416 := by omega
    obtain ⟨r, e3, e⟩ := ih (pre ++ [wrap64 ((wrap64 (Int.tdiv (wrap64 ((wrap64 (i + 1)) * t)) p)) - (wrap64 (Int.tdiv (wrap64 (i * t)) p)))]) (i + 1) (by omega) (by omega) (by omega) (by simp; omega)
    have hw : wrap64 (i + 1) = i + 1 := w64 (by omega)
    refine ⟨r, e3, fun k hk => ?_⟩
    obtain ⟨k, rfl⟩ : ∃ m, k = m + 1 := ⟨k - 1, by omega⟩
    obtain ⟨e1, e2⟩ := e k (by omega)
    constructor
    · rw [spec_l01Split.l0, if_pos hlt, if_neg hz, if_pos hpl]
      rw [hw] at e1 ⊢
      exact e1
    · rw [impl_SplitEven.l0, if_pos hlt, if_neg hz, if_pos hpl]
      rw [hw] at e2 ⊢
      exact e2

theorem FnExactSplitEven (t p : Int) (_ : (Lit.int .i64 t).wf = true) (_ : (Lit.int .i64 p).wf = true) : ∃ k, laws_FnExactSplitEven.f k t p = some true := by
  refine ⟨102, ?_⟩
  have hspec : spec_SplitEven.f 102 t p = if (inR 0 1000000000 t && inR 1 64 p) = true then ((spec_l01Split.f 102 t p).bind fun t130 => (some (t130, true))) else some (([] : List Int), false) := by
    unfold spec_SplitEven.f
    simp only [in_eq, Option.bind_some]
    cases inR 0 1000000000 t <;> cases inR 1 64 p <;> simp
  have himpl : impl_SplitEven.f 102 t p = if (inR 0 1000000000 t && inR 1 64 p) = true then (impl_SplitEven.l0 101 t p [] p 0) else some (([] : List Int), false) := by
    unfold impl_SplitEven.f
    simp only [within_eq, Option.bind_some]
    cases inR 0 1000000000 t <;> cases inR 1 64 p <;> simp [impl_SplitEven.j0]
  have himpl' : impl_SplitEven.f 101 t p = if (inR 0 1000000000 t && inR 1 64 p) = true then (impl_SplitEven.l0 100 t p [] p 0) else some (([] : List Int), false) := by
    unfold impl_SplitEven.f
    simp only [within_eq, Option.bind_some]
    cases inR 0 1000000000 t <;> cases inR 1 64 p <;> simp [impl_SplitEven.j0]
  have fin : ∀ (r : List Int) (b : Bool), r.length ≤ 64 → impl_SplitEven.f 101 t p = some (r, b) → laws_FnExactSplitEven.j0 102 t p r b r (b != b) = some true := by
    intro r b hr hb
    have hbb : (b != b) = false := by cases b <;> rfl
    rw [laws_FnExactSplitEven.j0, hbb, if_neg (by simp), mark_eq 101 r (by omega) (by omega)]
    simp only [Option.bind_some]
    rw [held_eq 101 r.length (by omega) (by omega)]
    simp only [Option.bind_some]
    rw [if_neg (by omega)]
    simp only [if_true]
    rw [hb]
    simp only [Option.bind_some]
    rw [eqInts_self 101 r (by omega) (by omega)]
    simp only [Option.bind_some, if_true]
    rw [hbb, laws_FnExactSplitEven.j1, if_neg (by simp), held_eq 100 r.length (by omega) (by omega)]
    simp only [Option.bind_some]
    rw [if_neg (by omega)]
    simp only [if_true]
  unfold laws_FnExactSplitEven.f
  rw [hspec, himpl]
  cases h : (inR 0 1000000000 t && inR 1 64 p) with
  | true =>
    obtain ⟨_, h2⟩ := Bool.and_eq_true_iff.1 h
    have hp := inR_iff h2
    obtain ⟨r, e3, e⟩ := split_both t p hp p.toNat [] 0 (by omega) (by omega) (by omega) rfl
    rw [h] at himpl'
    simp only [if_true] at himpl'
    rw [(e 100 (by omega)).2] at himpl'
    simp only [if_true]
    have e5 : spec_l01Split.f 102 t p = some r := (e 102 (by omega)).1
    rw [e5, (e 101 (by omega)).2]
    simp only [Option.bind_some]
    rw [eqInts_self 102 r (by omega) (by omega)]
    simp only [Option.bind_some, if_true]
    exact fin r true (by omega) himpl'
  | false =>
    rw [h] at himpl'
    simp only [Bool.false_eq_true, if_false, Option.bind_some]
    rw [eqInts_self 102 [] (by simp) (by simp)]
    simp only [Option.bind_some, if_true]
    exact fin [] false (by simp) (by rw [himpl']; simp)

end Go.Proofs.Ytecengjkpcbbaaa.Pure
