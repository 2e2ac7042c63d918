/- The program's IsName and the reference's IsName answer alike for every text of at most 2^20 bytes; longer texts are let by. -/
import Derived.Test.YtkmlijnfhnpbjaaPFnExactIsNamex1
namespace Go.Proofs.Ytkmlijnfhnpbjaa.Pure
open Go.RowKit Go.Proofs.Ytkmlijnfhnpbjaa.PFnExactIsName Go.Proofs.YtkmlijnfhnpbjaaW.PrintWords Go.Proofs.YtkmlijnfhnpbjaaW.PrintLast

set_option linter.unusedSimpArgs false
set_option linter.unusedVariables false

theorem wrap_i {i : Int} {n : Nat} (h0 : 0 ≤ i) (h : i < (n : Int)) (hn : n ≤ 140737488351232) : wrap64 (i + 1) = i + 1 := by
  unfold wrap64
  omega

theorem name_loops (s : ByteArray) (hn : s.size ≤ 140737488351232) (d : Nat) : ∀ (k : Nat) (i : Int), 1 ≤ i → (s.size : Int) - i ≤ d → d < k →
    ∃ b, spec_l01Name.l0 k s i = some b ∧ impl_IsName.l0 k s (s.size : Int) i = some (b && decide (1 ≤ (s.size : Int)) && decide ((s.size : Int) ≤ 12)) := by
  induction d with
  | zero =>
    intro k i h0 hd hk
    obtain ⟨k, rfl⟩ : ∃ m, k = m + 1 := ⟨k - 1, by omega⟩
    refine ⟨true, ?_, ?_⟩
    · simp only [spec_l01Name.l0]; rw [if_neg (by omega)]
    · simp only [impl_IsName.l0]; rw [if_neg (by omega)]
      by_cases c : (s.size : Int) ≥ 1
      · rw [if_pos c]; simp [c]
      · rw [if_neg c]; simp [c]
  | succ d ih =>
    intro k i h0 hd hk
    obtain ⟨k, rfl⟩ : ∃ m, k = m + 1 := ⟨k - 1, by omega⟩
    simp only [spec_l01Name.l0, impl_IsName.l0]
    by_cases h : i < (s.size : Int)
    · have h01 : 0 ≤ i := by omega
      simp only [if_pos h, if_pos h01, wrap_i h01 h hn]
      obtain ⟨b, h1, h2⟩ := ih k (i + 1) (by omega) (by omega) (by omega)
      rw [h1, h2]
      have e0 : ¬ i = 0 := by omega
      by_cases c1 : bt s i ≥ 97 <;> by_cases c2 : bt s i ≤ 122 <;> by_cases c3 : bt s i ≥ 48 <;> by_cases c4 : bt s i ≤ 57 <;>
        simp only [c1, c2, c3, c4, e0, if_true, if_false] <;>
        (repeat (first | rw [if_pos (by omega)] | rw [if_neg (by omega)])) <;>
        first | exact ⟨_, rfl, rfl⟩ | exact ⟨false, rfl, rfl⟩ | omega
    · rw [if_neg h, if_neg h]
      refine ⟨true, rfl, ?_⟩
      by_cases c : (s.size : Int) ≥ 1
      · rw [if_pos c]; simp [c]
      · rw [if_neg c]; simp [c]

theorem wrap_0 : wrap64 (0 + 1) = 1 := by unfold wrap64; omega

theorem name_all (s : ByteArray) (hn : s.size ≤ 140737488351232) (k : Nat) (hk : s.size < k) : ∃ b, spec_IsName.f (k + 2) s = some b ∧ impl_IsName.f (k + 2) s = some b := by
  obtain ⟨b, h1, h2⟩ := name_loops s hn s.size (k + 1) 1 (by omega) (by omega) (by omega)
  obtain ⟨b1, g1, _⟩ := name_loops s hn s.size k 1 (by omega) (by omega) (by omega)
  have e := (spec_l01Name.mono_l k).2 s 1 b1 g1
  rw [h1] at e
  obtain rfl := Option.some.inj e
  clear e
  obtain ⟨m, hm⟩ : ∃ m, m = k + 1 := ⟨_, rfl⟩
  have hm2 : k + 2 = m + 1 := by omega
  rw [← hm] at h1 h2
  unfold spec_IsName.f impl_IsName.f spec_l01Name.f
  rw [hm2]
  simp only [impl_IsName.l0, spec_l01Name.j0, wrap_0, h2]
  have e00 : (0 : Int) ≤ 0 := by omega
  by_cases z : (s.size : Int) < 1
  · have z' : ¬ (0 : Int) < (s.size : Int) := by omega
    have z2 : ¬ (s.size : Int) ≥ 1 := by omega
    rw [if_pos z]
    simp only [if_neg z', if_neg z2, if_true, Option.bind_some]
    exact ⟨false, rfl, rfl⟩
  · have z' : (0 : Int) < (s.size : Int) := by omega
    have z2 : (1 : Int) ≤ (s.size : Int) := by omega
    rw [if_neg z]
    simp only [if_pos z', if_pos e00, decide_eq_true z2, Bool.and_true, if_true]
    by_cases y : (s.size : Int) > 12
    · have e12 : decide ((s.size : Int) ≤ 12) = false := by simp; omega
      rw [e12, if_pos y]
      by_cases c1 : bt s 0 ≥ 97 <;> by_cases c2 : bt s 0 ≤ 122 <;> simp [c1, c2]
    · have e12 : decide ((s.size : Int) ≤ 12) = true := by simp; omega
      rw [e12, if_neg y]
      by_cases c1 : bt s 0 ≥ 97
      · have c1' : ¬ bt s 0 < 97 := by omega
        have c3 : bt s 0 ≥ 48 := by omega
        by_cases c2 : bt s 0 ≤ 122
        · have c2' : ¬ bt s 0 > 122 := by omega
          have hl : spec_l01Name.l0 m s 0 = some b := by
            rw [hm]
            simp only [spec_l01Name.l0]
            rw [wrap_0, g1]
            simp only [if_pos z', if_pos e00, if_pos c1, if_pos c3, if_pos c2]
          simp only [if_neg c1', if_pos c1, if_pos c2, decide_eq_false c2', Bool.and_true]
          rw [if_neg (by simp), hl]
          exact ⟨b, rfl, rfl⟩
        · have c2' : bt s 0 > 122 := by omega
          simp [c1', c1, c2, c2']
      · have c1' : bt s 0 < 97 := by omega
        simp [c1', c1]

theorem FnExactIsName : laws_FnExactIsName.Pure := by
  intro s hn
  refine ⟨s.size + 1 + 2, ?_⟩
  unfold laws_FnExactIsName.f
  by_cases hb : (s.size : Int) > 1048576
  · rw [if_pos hb]
  · obtain ⟨b, h1, h2⟩ := name_all s hn (s.size + 1) (by omega)
    rw [if_neg hb, h1, h2]
    simp

end Go.Proofs.Ytkmlijnfhnpbjaa.Pure
