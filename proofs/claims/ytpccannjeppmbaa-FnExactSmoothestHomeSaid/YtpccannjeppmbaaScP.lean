/- The reference's tables of least costs as plain functions on lists, and what holds of them all along. -/
import Derived.Test.YtpccannjeppmbaaSmP
namespace Go.Proofs.Ytpccannjeppmbaa.Q
open Go.Proofs.YtpccannjeppmbaaW.PrintWords
set_option linter.unusedVariables false
set_option linter.unusedSimpArgs false

def rdT (xs : List S31) (i : Int) : S31 := xs.getD i.toNat home
def rdL (xs : List (List Int)) (i : Int) : List Int := xs.getD i.toNat []
/-- The course before c that has turned by u. -/
def prevOf (c : S31) (u : Int) : S31 := ⟨c.f0 - (c.f1 - c.f2), c.f1 - c.f2, u⟩
def fitP (a b : Int) (c : S31) (u : Int) : Bool := insS a (prevOf c u) && decide (-b ≤ c.f2 - u ∧ c.f2 - u ≤ b)
def spotZ (c : S31) : Int := ((c.f0 + 40) * 21 + c.f1 + 10) * 7 + c.f2 + 3
theorem spotZ_le {a : Int} (ha : a ≤ 3) {c : S31} (h : insS a c = true) : 0 ≤ spotZ c ∧ spotZ c < 11907 := by
  obtain ⟨h1, h2, h3⟩ := insS_iff.1 h
  unfold spotZ
  omega
theorem spotZ_inj {a : Int} (ha : a ≤ 3) {c d : S31} (h : insS a c = true) (h' : insS a d = true) (e : spotZ c = spotZ d) : c = d := by
  obtain ⟨h1, h2, h3⟩ := insS_iff.1 h
  obtain ⟨k1, k2, k3⟩ := insS_iff.1 h'
  unfold spotZ at e
  have e2 : c.f2 = d.f2 := by omega
  have e1 : c.f1 = d.f1 := by omega
  have e0 : c.f0 = d.f0 := by omega
  cases c; cases d
  simp only at e0 e1 e2
  subst e0 e1 e2
  rfl

abbrev CB := List Int × List S31
def costC (prev : List Int) (c : S31) (u : Int) : Int := rd prev (spotZ c) + (c.f2 - u) * (c.f2 - u)
/-- A course before is found at a cost. -/
def putC (p : S31) (cost : Int) (s : CB) : CB :=
  (if rd s.1 (spotZ p) = 0 ∨ cost < rd s.1 (spotZ p) then s.1.set (spotZ p).toNat cost else s.1, if rd s.1 (spotZ p) = 0 then s.2 ++ [p] else s.2)
def stepC (a b : Int) (prev : List Int) (c : S31) (s : CB) (u : Int) : CB := if fitP a b c u = true then putC (prevOf c u) (costC prev c u) s else s
/-- All turns from u on, so many. -/
def innerC (a b : Int) (prev : List Int) (c : S31) : Nat → Int → CB → CB
  | 0, _, s => s
  | k + 1, u, s => innerC a b prev c k (u + 1) (stepC a b prev c s u)
def ringC (a b : Int) (prev : List Int) : List S31 → CB → CB
  | [], s => s
  | c :: r, s => ringC a b prev r (innerC a b prev c (2 * a + 1).toNat (-a) s)
def zerosC : List Int := List.replicate 11907 0
/-- All rings from the i-th on, so many. -/
def levelsC (a b : Int) : Nat → Int → List (List Int) → List S31 → List (List Int)
  | 0, _, out, _ => out
  | k + 1, i, out, now => levelsC a b k (i + 1) (out ++ [(ringC a b (rdL out i) now (zerosC, [])).1]) (ringC a b (rdL out i) now (zerosC, [])).2
def firstC : List Int := zerosC.set (spotZ home).toNat 1
def costsP (a b rings : Int) : List (List Int) := levelsC a b rings.toNat 0 [firstC] [home]

/-! ### what holds all along -/
def TabOk (M : Int) (t : List Int) : Prop := t.length = 11907 ∧ ∀ j : Int, 0 ≤ rd t j ∧ rd t j ≤ M
def InvC (a M : Int) (m : Nat) (s : CB) : Prop := TabOk M s.1 ∧ (∀ c ∈ s.2, insS a c = true) ∧ s.2.length ≤ m
theorem rd_set (t : List Int) (n : Nat) (x : Int) (j : Int) : rd (t.set n x) j = if j.toNat = n ∧ n < t.length then x else rd t j := by
  unfold rd
  simp only [List.getD_eq_getElem?_getD]
  by_cases e : j.toNat = n
  · subst e
    by_cases h : j.toNat < t.length
    · rw [if_pos ⟨rfl, h⟩]
      simp [List.getElem?_set, h]
    · rw [if_neg (fun q => h q.2)]
      simp [List.getElem?_set, h]
  · rw [if_neg (fun q => e q.1)]
    rw [List.getElem?_set_ne (fun q => e q.symm)]
theorem TabOk.set {M x : Int} {t : List Int} (h : TabOk M t) (n : Nat) (hx : 0 ≤ x ∧ x ≤ M) : TabOk M (t.set n x) := by
  refine ⟨by rw [List.length_set]; exact h.1, fun j => ?_⟩
  rw [rd_set]
  by_cases e : j.toNat = n ∧ n < t.length
  · rw [if_pos e]; exact hx
  · rw [if_neg e]; exact h.2 j
theorem rd_zeros (j : Int) : rd zerosC j = 0 := by
  unfold rd zerosC
  simp only [List.getD_eq_getElem?_getD, List.getElem?_replicate]
  split <;> rfl
theorem zeros_ok {M : Int} (hM : 0 ≤ M) : TabOk M zerosC := ⟨by unfold zerosC; exact List.length_replicate, fun j => by rw [rd_zeros]; exact ⟨Int.le_refl 0, hM⟩⟩
theorem first_ok : TabOk 1 firstC := (zeros_ok (by decide)).set _ (by decide)
theorem costC_le {a M : Int} {prev : List Int} {c : S31} {u : Int} (ha : 1 ≤ a ∧ a ≤ 3) (hp : TabOk M prev) (hc : insS a c = true) (hu : -a ≤ u ∧ u ≤ a) : 0 ≤ costC prev c u ∧ costC prev c u ≤ M + 36 := by
  have h3 := (insS_iff.1 hc).2.2
  have hq := square_le (d := c.f2 - u) (by omega)
  have := hp.2 (spotZ c)
  unfold costC
  omega
theorem putC_inv {a M x : Int} {m : Nat} {p : S31} {s : CB} (h : InvC a M m s) (hp : insS a p = true) (hx : 0 ≤ x ∧ x ≤ M) : InvC a M (m + 1) (putC p x s) := by
  unfold putC
  refine ⟨?_, ?_, ?_⟩
  · show TabOk M (if _ then _ else _)
    split
    · exact h.1.set _ hx
    · exact h.1
  · intro c hc
    simp only at hc
    split at hc
    · rcases List.mem_append.1 hc with hc | hc
      · exact h.2.1 c hc
      · simp only [List.mem_singleton] at hc
        rw [hc]; exact hp
    · exact h.2.1 c hc
  · show (if _ then _ else _ : List S31).length ≤ m + 1
    have := h.2.2
    split
    · simp only [List.length_append, List.length_cons, List.length_nil]; omega
    · omega
theorem stepC_inv {a b M : Int} {prev : List Int} {c : S31} {u : Int} {m : Nat} {s : CB} (ha : 1 ≤ a ∧ a ≤ 3) (hp : TabOk M prev) (hc : insS a c = true) (hu : -a ≤ u ∧ u ≤ a) (h : InvC a (M + 36) m s) : InvC a (M + 36) (m + 1) (stepC a b prev c s u) := by
  unfold stepC
  by_cases e : fitP a b c u = true
  · rw [if_pos e]
    exact putC_inv h (Bool.and_eq_true_iff.1 e).1 (costC_le ha hp hc hu)
  · rw [if_neg e]
    exact ⟨h.1, h.2.1, Nat.le_succ_of_le h.2.2⟩
theorem innerC_inv {a b M : Int} {prev : List Int} {c : S31} (ha : 1 ≤ a ∧ a ≤ 3) (hp : TabOk M prev) (hc : insS a c = true) : ∀ (k : Nat) (u : Int) (m : Nat) (s : CB), -a ≤ u → u + k ≤ a + 1 → InvC a (M + 36) m s → InvC a (M + 36) (m + k) (innerC a b prev c k u s)
  | 0, u, m, s, _, _, h => h
  | k + 1, u, m, s, h0, h1, h => by
    have := innerC_inv (b := b) ha hp hc k (u + 1) (m + 1) _ (by omega) (by omega) (stepC_inv (b := b) ha hp hc ⟨h0, by omega⟩ h)
    rw [show m + (k + 1) = m + 1 + k from by omega]
    exact this
theorem ringC_inv {a b M : Int} {prev : List Int} (ha : 1 ≤ a ∧ a ≤ 3) (hp : TabOk M prev) : ∀ (r : List S31) (m : Nat) (s : CB), (∀ c ∈ r, insS a c = true) → InvC a (M + 36) m s → InvC a (M + 36) (m + 7 * r.length) (ringC a b prev r s)
  | [], m, s, _, h => h
  | c :: r, m, s, hr, h => by
    have h1 := innerC_inv (b := b) ha hp (hr c (by simp)) (2 * a + 1).toNat (-a) m s (by omega) (by omega) h
    have h2 : InvC a (M + 36) (m + 7) (innerC a b prev c (2 * a + 1).toNat (-a) s) := ⟨h1.1, h1.2.1, by have := h1.2.2; omega⟩
    have := ringC_inv (b := b) ha hp r (m + 7) _ (fun d hd => hr d (by simp [hd])) h2
    simp only [List.length_cons]
    rw [show m + 7 * (r.length + 1) = m + 7 + 7 * r.length from by omega]
    exact this
theorem ringC_at (a b : Int) (prev : List Int) (l : List S31) (x : Int) (h0 : 0 ≤ x) (h1 : x < l.length) (s : CB) :
    ringC a b prev (l.drop x.toNat) s = ringC a b prev (l.drop (x + 1).toNat) (innerC a b prev (rdT l x) (2 * a + 1).toNat (-a) s) := by
  have hl : x.toNat < l.length := by omega
  rw [List.drop_eq_getElem_cons hl]
  have e1 : (x + 1).toNat = x.toNat + 1 := by omega
  have e2 : rdT l x = l[x.toNat] := by simp [rdT, hl]
  rw [e1, e2]
  rfl
theorem rdL_last (outs : List (List Int)) (t : List Int) (i : Int) (h : i = outs.length) : rdL (outs ++ [t]) i = t := by
  subst h
  unfold rdL
  simp [List.getD_eq_getElem?_getD]
def pow7 : Nat → Nat
  | 0 => 1
  | k + 1 => 7 * pow7 k
theorem pow7_le : ∀ (k : Nat), k ≤ 8 → pow7 k ≤ 5764801 := by
  intro k hk
  have : k = 0 ∨ k = 1 ∨ k = 2 ∨ k = 3 ∨ k = 4 ∨ k = 5 ∨ k = 6 ∨ k = 7 ∨ k = 8 := by omega
  rcases this with h | h | h | h | h | h | h | h | h <;> subst h <;> decide

end Go.Proofs.Ytpccannjeppmbaa.Q
