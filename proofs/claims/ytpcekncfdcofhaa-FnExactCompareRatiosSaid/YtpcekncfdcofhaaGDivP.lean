/- Plain lemmas for impl.divMag: what its parts compute. -/
import Derived.Test.YtpcekncfdcofhaaQ0
import Derived.Test.YtpcekncfdcofhaaGShift
namespace Go.Proofs.Ytpcekncfdcofhaa.Q
open Go.RowKit Go.Proofs.YtpcekncfdcofhaaW.PrintWords Go.Proofs.YtpcekncfdcofhaaW.PrintLast Go.Proofs.YtpcekncfdcofhaaW.PrintMore
set_option linter.unusedVariables false
set_option linter.unusedSimpArgs false

/-! ### the guess -/
section
variable {u0 u1 u2 v0 v1 g r : Int}
structure Top (u0 u1 u2 v0 v1 : Int) : Prop where
  a0 : 0 ≤ u0 ∧ u0 ≤ 4294967295
  a1 : 0 ≤ u1 ∧ u1 ≤ 4294967295
  a2 : 0 ≤ u2 ∧ u2 ≤ 4294967295
  b0 : 0 ≤ v0 ∧ v0 ≤ 4294967295
  b1 : 2147483648 ≤ v1 ∧ v1 ≤ 4294967295
  lt : u0 + 4294967296 * (u1 + 4294967296 * u2) < 4294967296 * (v0 + 4294967296 * v1)
/-- The state of the loop that makes the guess less. -/
structure Gs (u0 u1 u2 v0 v1 g r : Int) : Prop where
  sum : g * v1 + r = u2 * 4294967296 + u1
  nn : 0 ≤ r ∧ r ≤ 8589934591
  le : g ≤ 4294967297
  ge : (u0 + 4294967296 * (u1 + 4294967296 * u2)) / (v0 + 4294967296 * v1) ≤ g
theorem quo_nn (h : Top u0 u1 u2 v0 v1) : 0 ≤ (u0 + 4294967296 * (u1 + 4294967296 * u2)) / (v0 + 4294967296 * v1) := by
  have := h.a0; have := h.a1; have := h.a2; have := h.b0; have := h.b1
  exact Int.ediv_nonneg (by omega) (by omega)
theorem quo_lt (h : Top u0 u1 u2 v0 v1) : (u0 + 4294967296 * (u1 + 4294967296 * u2)) / (v0 + 4294967296 * v1) < 4294967296 := by
  have := h.b0; have := h.b1
  exact Int.ediv_lt_of_lt_mul (by omega) h.lt
theorem Gs.start (h : Top u0 u1 u2 v0 v1) : Gs u0 u1 u2 v0 v1 ((u2 * 4294967296 + u1) / v1) ((u2 * 4294967296 + u1) % v1) := by
  obtain ⟨a0, a1, a2, b0, b1, lt⟩ := h
  have hm0 := Int.emod_nonneg (u2 * 4294967296 + u1) (show v1 ≠ 0 by omega)
  have hm1 := Int.emod_lt_of_pos (u2 * 4294967296 + u1) (show 0 < v1 by omega)
  refine ⟨?_, ⟨hm0, by omega⟩, ?_, ?_⟩
  · have := Int.mul_ediv_add_emod (u2 * 4294967296 + u1) v1
    rw [Int.mul_comm] at this
    exact this
  · have h1 : u2 * 4294967296 + u1 < 4294967298 * v1 := by omega
    have := Int.ediv_lt_of_lt_mul (show 0 < v1 by omega) h1
    omega
  · generalize hq : (u0 + 4294967296 * (u1 + 4294967296 * u2)) / (v0 + 4294967296 * v1) = q
    have hM : 0 < v0 + 4294967296 * v1 := by omega
    have hqM : q * (v0 + 4294967296 * v1) ≤ u0 + 4294967296 * (u1 + 4294967296 * u2) := by rw [← hq]; exact Int.ediv_mul_le _ (by omega)
    have hq0 : 0 ≤ q := by rw [← hq]; exact Int.ediv_nonneg (by omega) (by omega)
    have h1 : q * (v0 + 4294967296 * v1) = q * v0 + 4294967296 * (q * v1) := by
      rw [Int.mul_add, ← Int.mul_assoc, Int.mul_comm q 4294967296, Int.mul_assoc]
    have h2 : 0 ≤ q * v0 := Int.mul_nonneg hq0 b0.1
    rw [h1] at hqM
    exact Int.le_ediv_of_mul_le (by omega) (by omega)
theorem big (h : Gs u0 u1 u2 v0 v1 g r) : g * (v0 + 4294967296 * v1) = g * v0 + 4294967296 * (u2 * 4294967296 + u1 - r) := by
  have h1 : g * (v0 + 4294967296 * v1) = g * v0 + 4294967296 * (g * v1) := by
    rw [Int.mul_add, ← Int.mul_assoc, Int.mul_comm g 4294967296, Int.mul_assoc]
  have := h.sum
  rw [h1]
  omega
theorem Gs.step (t : Top u0 u1 u2 v0 v1) (h : Gs u0 u1 u2 v0 v1 g r) (hr : r < 4294967296) (hc : 4294967296 ≤ g ∨ r * 4294967296 + u0 < g * v0) : Gs u0 u1 u2 v0 v1 (g - 1) (r + v1) ∧ 1 ≤ g := by
  have hb := big h
  have hq := quo_lt t
  have hq0 := quo_nn t
  have hlt : (u0 + 4294967296 * (u1 + 4294967296 * u2)) / (v0 + 4294967296 * v1) < g := by
    rcases hc with hc | hc
    · omega
    · refine Int.ediv_lt_of_lt_mul (by have := t.b0; have := t.b1; omega) ?_
      rw [hb]
      omega
  have := t.b1
  refine ⟨⟨?_, by have := h.nn; omega, by have := h.le; omega, by omega⟩, by omega⟩
  have := h.sum
  rw [Int.sub_mul]
  omega
theorem Gs.fin (t : Top u0 u1 u2 v0 v1) (h : Gs u0 u1 u2 v0 v1 g r) (hc : ¬ (r < 4294967296 ∧ (4294967296 ≤ g ∨ r * 4294967296 + u0 < g * v0))) : g = (u0 + 4294967296 * (u1 + 4294967296 * u2)) / (v0 + 4294967296 * v1) ∧ 0 ≤ g ∧ g ≤ 4294967295 := by
  have hb := big h
  have hq := quo_lt t
  have hq0 := quo_nn t
  have hge := h.ge
  have hg0 : 0 ≤ g := by omega
  have hle : g * (v0 + 4294967296 * v1) ≤ u0 + 4294967296 * (u1 + 4294967296 * u2) := by
    rw [hb]
    by_cases hr : r < 4294967296
    · have : ¬ (r * 4294967296 + u0 < g * v0) := fun hh => hc ⟨hr, Or.inr hh⟩
      omega
    · have h1 := mul_le (⟨hg0, h.le⟩ : 0 ≤ g ∧ g ≤ 4294967297) t.b0 (by omega)
      have := t.a0
      omega
  have h2 : g ≤ (u0 + 4294967296 * (u1 + 4294967296 * u2)) / (v0 + 4294967296 * v1) := Int.le_ediv_of_mul_le (by have := t.b0; have := t.b1; omega) hle
  omega
end

/-! ### the shift back -/
def sr (p : Int) : List Int → List Int
  | [] => []
  | x :: xs => ((hd xs * 4294967296 + x) / p % 4294967296) :: sr p xs
theorem sr_ok (k : Nat) (hk : k ≤ 31) : ∀ l : List Int, D32 l → D32 (sr (2 ^ k) l) ∧ vl (sr (2 ^ k) l) = vl l / 2 ^ k ∧ (sr (2 ^ k) l).length = l.length
  | [], _ => ⟨fun d hd => (by cases hd), by simp [sr, vl], rfl⟩
  | x :: xs, h => by
    obtain ⟨h1, h2⟩ := D32.cons.1 h
    obtain ⟨i1, i2, i3⟩ := sr_ok k hk xs h2
    have hp := pow_le ⟨k, by omega⟩
    simp only at hp
    refine ⟨D32.cons.2 ⟨⟨Int.emod_nonneg _ (by decide), by have := Int.emod_lt_of_pos ((hd xs * 4294967296 + x) / 2 ^ k) (show (0 : Int) < 4294967296 by decide); omega⟩, i1⟩, ?_, by rw [sr, List.length_cons, i3]; rfl⟩
    rw [sr, vl, i2, vl]
    have ev : vl xs = hd xs + 4294967296 * vl xs.tail := by cases xs <;> simp [vl, hd]
    obtain ⟨c, hc⟩ : ∃ c : Int, 4294967296 = 2 ^ k * c := by
      refine ⟨2 ^ (32 - k), ?_⟩
      rw [← Int.pow_add, show k + (32 - k) = 32 by omega]
      rfl
    generalize (2 : Int) ^ k = p at *
    have hp0 : p ≠ 0 := by omega
    have e1 : (x + 4294967296 * vl xs) / p = (hd xs * 4294967296 + x) / p + 4294967296 * (c * vl xs.tail) := by
      rw [ev]
      have : x + 4294967296 * (hd xs + 4294967296 * vl xs.tail) = (hd xs * 4294967296 + x) + p * (c * (4294967296 * vl xs.tail)) := by
        have e3 : p * (c * (4294967296 * vl xs.tail)) = (p * c) * (4294967296 * vl xs.tail) := by rw [Int.mul_assoc]
        rw [e3, ← hc]
        omega
      rw [this, Int.add_mul_ediv_left _ _ hp0]
      have : c * (4294967296 * vl xs.tail) = 4294967296 * (c * vl xs.tail) := by rw [← Int.mul_assoc, Int.mul_comm c, Int.mul_assoc]
      rw [this]
    have e2 : vl xs / p = ((x + 4294967296 * vl xs) / p) / 4294967296 := by
      rw [Int.ediv_ediv_of_nonneg (by omega), Int.mul_comm p 4294967296, ← Int.ediv_ediv_of_nonneg (by decide)]
      congr 1
      omega
    rw [e2, e1]
    omega

/-- A row's front with its own digit, and a digit behind it or none. -/
theorem Rep.len {l : List Int} {n : Int} (h : Rep l n) : (l.length = 0 ∧ n = 0) ∨ (0 < l.length ∧ 4294967296 ^ (l.length - 1) ≤ n ∧ n < 4294967296 ^ l.length) := by
  have hub : ∀ l : List Int, D32 l → vl l < 4294967296 ^ l.length := by
    intro l
    induction l with
    | nil => intro _; simp [vl]
    | cons d l ih =>
      intro hd
      obtain ⟨d1, d2⟩ := D32.cons.1 hd
      have := ih d2
      rw [vl, List.length_cons, Int.pow_succ]
      omega
  by_cases hl : l = []
  · subst hl
    left
    exact ⟨rfl, h.val.symm⟩
  · right
    have hpos : 0 < l.length := List.length_pos_iff.2 hl
    refine ⟨hpos, ?_, by rw [← h.val]; exact hub l h.dig⟩
    have hlast := h.last hl
    have e : l = l.take (l.length - 1) ++ [rd l ((l.length : Int) - 1)] := by
      have h2 := take_snoc (l := l) (m := l.length - 1) (by omega)
      rw [show l.length - 1 + 1 = l.length by omega, List.take_length] at h2
      have e2 : ((l.length - 1 : Nat) : Int) = (l.length : Int) - 1 := by omega
      rw [e2] at h2
      exact h2
    have hd : 1 ≤ rd l ((l.length : Int) - 1) := by
      have hm : rd l ((l.length : Int) - 1) ∈ l := by
        have hh : ((l.length : Int) - 1).toNat < l.length := by omega
        unfold rd
        rw [List.getD_eq_getElem?_getD, List.getElem?_eq_getElem hh]
        exact List.getElem_mem hh
      have := h.dig _ hm
      omega
    have hv := vl_snoc (l.take (l.length - 1)) (rd l ((l.length : Int) - 1))
    rw [← e, h.val] at hv
    have h0 := vl_nn (h.dig.take (l.length - 1))
    rw [List.length_take, Nat.min_eq_left (by omega)] at hv
    have hp : (0 : Int) < 4294967296 ^ (l.length - 1) := Int.pow_pos (by decide)
    have : 4294967296 ^ (l.length - 1) * 1 ≤ 4294967296 ^ (l.length - 1) * rd l ((l.length : Int) - 1) := Int.mul_le_mul_of_nonneg_left hd (by omega)
    omega

end Go.Proofs.Ytpcekncfdcofhaa.Q
