/- Plain lemmas by hand: which keys may follow a ring, in the program and in the reference: all closed, reckoned by the kernel. -/
import Derived.Test.YtogkeigmjjbfcaaQ0
import Derived.Test.YtogkeigmjjbfcaaQ15
import Derived.Test.YtogkeigmjjbfcaaQ16
import Derived.Test.YtogkeigmjjbfcaaPMeet
namespace Go.Proofs.Ytogkeigmjjbfcaa.Pure
open Go.RowKit Go.Proofs.Ytogkeigmjjbfcaa.Q Go.Proofs.YtogkeigmjjbfcaaW.PrintWords Go.Proofs.YtogkeigmjjbfcaaW.PrintLast
set_option linter.unusedVariables false
set_option linter.unusedSimpArgs false

def nt (y : Int) : List Int := (spec_l03Next.f 100 y).getD []
def keysFrom : Nat → Int → List Int
  | 0, _ => []
  | d + 1, i => i :: keysFrom d (i + 1)
theorem nextS_fin : ∀ (y : Fin 16), spec_l03Next.f 100 (y.val : Int) = some (nt (y.val : Int)) ∧ (nt (y.val : Int)).length = 5 := by decide +kernel
theorem nextK_fin : ∀ (y : Fin 16), (keysFrom 16 0).filter (fun q => decide ((mt (y.val : Int) q).length = 0)) = nt (y.val : Int) := by decide +kernel
theorem nk_at {a b : Int} (h : ringB a b = true) (d : Nat) : ∀ (k : Nat) (acc : List Int) (i : Int), 0 ≤ i → i + d = 16 → acc.length ≤ i → 100 + d < k →
    impl_NextKeys.l0 k acc i a b = some (acc ++ (keysFrom d i).filter (fun q => decide ((mt b q).length = 0)), true) := by
  induction d with
  | zero =>
    intro k acc i h0 hd ha hk
    obtain ⟨k, rfl⟩ : ∃ m, k = m + 1 := ⟨k - 1, by omega⟩
    rw [impl_NextKeys.l0, if_neg (by omega)]
    simp [keysFrom]
  | succ d ih =>
    intro k acc i h0 hd ha hk
    obtain ⟨k, rfl⟩ : ∃ m, k = m + 1 := ⟨k - 1, by omega⟩
    have hi : ringB 0 i = true := by simp only [ringB, Bool.and_eq_true]; exact ⟨by decide, by unfold inR; simp; omega⟩
    obtain ⟨_, h2, _⟩ := meet_both h hi (k := k) (by omega)
    have hl : acc.length < 17592186044416 := by omega
    rw [impl_NextKeys.l0, if_pos (by omega), h2, Option.bind_some, w64 (by omega), keysFrom, List.filter_cons]
    by_cases hc : (mt b i).length = 0
    · have hc' : ((mt b i).length : Int) = 0 := by omega
      rw [if_pos hc', if_pos hl, ih k _ (i + 1) (by omega) (by omega) (by simp; omega) (by omega), decide_eq_true hc, if_pos rfl]
      simp
    · have hc' : ¬ ((mt b i).length : Int) = 0 := by omega
      rw [if_neg hc', ih k _ (i + 1) (by omega) (by omega) (by omega) (by omega), decide_eq_false hc, if_neg (by simp)]
theorem next_both {a b : Int} (h : ringB a b = true) {k : Nat} (hk : 120 ≤ k) : spec_l03Next.f k b = some (nt b) ∧ impl_NextKeys.f k a b = some (nt b, true) ∧ (nt b).length = 5 := by
  have h0 := h
  obtain ⟨x, y, rfl, rfl⟩ := ring_fin h
  obtain ⟨h1, h3⟩ := nextS_fin y
  refine ⟨at_rounds (g := fun k => spec_l03Next.f k (y.val : Int)) (fun k => spec_l03Next.mono _ k) (by omega) h1, ?_, h3⟩
  unfold impl_NextKeys.f
  rw [iring_eq, h0, Option.bind_some, if_pos rfl, nk_at h0 16 k [] 0 (by omega) (by omega) (by simp) (by omega), nextK_fin y, List.nil_append]

end Go.Proofs.Ytogkeigmjjbfcaa.Pure
