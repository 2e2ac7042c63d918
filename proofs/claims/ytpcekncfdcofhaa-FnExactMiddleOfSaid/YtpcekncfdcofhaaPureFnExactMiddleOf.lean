/- The program's MiddleOf and the reference's answer alike: the number at the middle of the sorted list is the one such that not more than half are less and more than half are not greater. -/
import Derived.Test.YtpcekncfdcofhaaQ0
import Derived.Test.YtpcekncfdcofhaaQ4
import Derived.Test.YtpcekncfdcofhaaPZero
import Derived.Test.YtpcekncfdcofhaaPEqIZ
import Derived.Test.YtpcekncfdcofhaaGMiddle
import Derived.Test.YtpcekncfdcofhaaPTo
import Derived.Test.YtpcekncfdcofhaaPIsListS
namespace Go.Proofs.Ytpcekncfdcofhaa.Pure
open Go.RowKit Go.Proofs.Ytpcekncfdcofhaa.Q Go.Proofs.YtpcekncfdcofhaaW.PrintWords Go.Proofs.YtpcekncfdcofhaaW.PrintLast
set_option linter.unusedVariables false
set_option linter.unusedSimpArgs false

def ltc (x : Int) (l : List Int) : Nat := l.countP (fun y => decide (y < x))
def eqc (x : Int) (l : List Int) : Nat := l.countP (fun y => decide (y = x))

theorem ltc_cons (x a : Int) (l : List Int) : ltc x (a :: l) = ltc x l + if a < x then 1 else 0 := by
  unfold ltc; rw [List.countP_cons]; simp
theorem eqc_cons (x a : Int) (l : List Int) : eqc x (a :: l) = eqc x l + if a = x then 1 else 0 := by
  unfold eqc; rw [List.countP_cons]; simp
theorem ltc_zero (x : Int) (l : List Int) (h : ∀ y ∈ l, x ≤ y) : ltc x l = 0 := by
  unfold ltc
  rw [List.countP_eq_zero]
  intro y hy
  have := h y hy
  simp only [decide_eq_true_eq]
  omega
theorem eqc_zero (x : Int) (l : List Int) (h : ∀ y ∈ l, x < y) : eqc x l = 0 := by
  unfold eqc
  rw [List.countP_eq_zero]
  intro y hy
  have := h y hy
  simp only [decide_eq_true_eq]
  omega

theorem at_only (x : Int) (s : List Int) (hs : s.Pairwise (· ≤ ·)) : ∀ j, j < s.length → ltc x s ≤ j → j < ltc x s + eqc x s → s[j]?.getD 0 = x := by
  induction s with
  | nil => intro j hj; simp at hj
  | cons a t ih =>
    obtain ⟨ha, ht⟩ := List.pairwise_cons.1 hs
    intro j hj h1 h2
    rw [ltc_cons, eqc_cons] at *
    by_cases c : a < x
    · rw [if_pos c] at *
      rw [if_neg (by omega)] at h2
      obtain ⟨j, rfl⟩ : ∃ m, j = m + 1 := ⟨j - 1, by omega⟩
      simp only [List.getElem?_cons_succ]
      exact ih ht j (by simp at hj; omega) (by omega) (by omega)
    · by_cases e : a = x
      · subst e
        cases j with
        | zero => rfl
        | succ j =>
          simp only [List.getElem?_cons_succ]
          have := ltc_zero a t ha
          exact ih ht j (by simp at hj; omega) (by omega) (by simp at h2; omega)
      · have z1 := ltc_zero x t (fun y hy => by have := ha y hy; omega)
        have z2 := eqc_zero x t (fun y hy => by have := ha y hy; omega)
        rw [if_neg c, if_neg e] at h2
        omega

theorem at_is (s : List Int) (hs : s.Pairwise (· ≤ ·)) : ∀ j, j < s.length → ltc (s[j]?.getD 0) s ≤ j ∧ j < ltc (s[j]?.getD 0) s + eqc (s[j]?.getD 0) s := by
  induction s with
  | nil => intro j hj; simp at hj
  | cons a t ih =>
    obtain ⟨ha, ht⟩ := List.pairwise_cons.1 hs
    intro j hj
    cases j with
    | zero =>
      simp only [List.getElem?_cons_zero, Option.getD_some]
      rw [ltc_cons, eqc_cons, if_neg (by omega), if_pos rfl, ltc_zero a t ha]
      omega
    | succ j =>
      simp only [List.getElem?_cons_succ]
      have hj' : j < t.length := by simp at hj; omega
      obtain ⟨h1, h2⟩ := ih ht j hj'
      have hx : a ≤ t[j]?.getD 0 := by
        apply ha
        rw [List.getElem?_eq_getElem hj']
        exact List.getElem_mem hj'
      generalize t[j]?.getD 0 = x at *
      rw [ltc_cons, eqc_cons]
      by_cases c : a < x
      · rw [if_pos c, if_neg (by omega)]; omega
      · rw [if_neg c, if_pos (by omega)]; omega

theorem sortL_perm (l : List Int) : (sortL l).Perm l := List.mergeSort_perm _ _
theorem sortL_sorted (l : List Int) : (sortL l).Pairwise (· ≤ ·) := by
  have := List.pairwise_mergeSort (le := fun x y : Int => decide (x ≤ y)) (fun a b c h1 h2 => by simp at *; omega) (fun a b => by simp; omega) l
  exact this.imp (fun h => by simpa using h)

theorem ltc_sort (x : Int) (l : List Int) : ltc x (sortL l) = ltc x l := (sortL_perm l).countP_eq _
theorem eqc_sort (x : Int) (l : List Int) : eqc x (sortL l) = eqc x l := (sortL_perm l).countP_eq _

def Mid (l : List Int) (x : Int) : Prop := ltc x l ≤ (l.length - 1) / 2 ∧ (l.length - 1) / 2 < ltc x l + eqc x l
instance (l : List Int) (x : Int) : Decidable (Mid l x) := by unfold Mid; exact inferInstance

theorem mid_only (l : List Int) (h : 0 < l.length) (x : Int) (hx : Mid l x) : x = midL l := by
  unfold midL
  refine (at_only x (sortL l) (sortL_sorted l) ((l.length - 1) / 2) (by rw [(sortL_perm l).length_eq]; omega) ?_ ?_).symm
  · rw [ltc_sort]; exact hx.1
  · rw [ltc_sort, eqc_sort]; exact hx.2
theorem mid_is (l : List Int) (h : 0 < l.length) : Mid l (midL l) ∧ midL l ∈ l := by
  have hl : (l.length - 1) / 2 < (sortL l).length := by rw [(sortL_perm l).length_eq]; omega
  have := at_is (sortL l) (sortL_sorted l) ((l.length - 1) / 2) hl
  rw [ltc_sort, eqc_sort] at this
  refine ⟨this, ?_⟩
  unfold midL
  rw [List.getElem?_eq_getElem hl, Option.getD_some]
  exact (sortL_perm l).mem_iff.1 (List.getElem_mem hl)

theorem cnt_at (l : List Int) (hl : l.length ≤ 64) (i : Nat) (hi : i < l.length) (post : List Int) : ∀ (pre : List Int) (k : Nat), l = pre ++ post → post.length < k →
    spec_MiddleOf.l1 k l i (ltc l[i] pre) (eqc l[i] pre) pre.length = if Mid l l[i] then some (l[i], true) else spec_MiddleOf.l0 (k - 1 - post.length) l ((i + 1 : Nat) : Int) := by
  have hr : rd l (i : Int) = l[i] := by simp [rd, hi]
  induction post with
  | nil =>
    intro pre k hp hk
    obtain ⟨k, rfl⟩ : ∃ m, k = m + 1 := ⟨k - 1, by omega⟩
    rw [List.append_nil] at hp
    rw [← hp]
    have hn : ¬ ((l.length : Int) < (l.length : Int)) := by omega
    have e1 : wrap64 (Int.tdiv (wrap64 ((l.length : Int) - 1)) 2) = (((l.length - 1) / 2 : Nat) : Int) := by
      rw [w64 (x := (l.length : Int) - 1) (by omega)]
      have : (l.length : Int) - 1 = ((l.length - 1 : Nat) : Int) := by omega
      rw [this]
      have e : Int.tdiv ((l.length - 1 : Nat) : Int) 2 = (((l.length - 1) / 2 : Nat) : Int) := rfl
      rw [e, w64 (by omega)]
    have b1 : ltc l[i] l ≤ l.length := List.countP_le_length
    have b2 : eqc l[i] l ≤ l.length := List.countP_le_length
    rw [spec_MiddleOf.l1, if_neg hn, e1, w64 (x := (ltc l[i] l : Int) + (eqc l[i] l : Int)) (by omega), w64 (x := (i : Int) + 1) (by omega), hr, if_pos (by omega : (0:Int) ≤ (i : Int)), if_pos (by omega : (i : Int) < (l.length : Int))]
    unfold Mid
    simp only [List.length_nil, Nat.sub_zero, Nat.add_sub_cancel]
    have e2 : ((i + 1 : Nat) : Int) = (i : Int) + 1 := by omega
    rw [e2]
    by_cases c1 : ltc l[i] l ≤ (l.length - 1) / 2
    · rw [if_pos (by omega)]
      by_cases c2 : (l.length - 1) / 2 < ltc l[i] l + eqc l[i] l
      · rw [if_pos (by omega), if_pos ⟨c1, c2⟩]
      · rw [if_neg (by omega), if_neg (fun h => c2 h.2)]
    · rw [if_neg (by omega), if_neg (fun h => c1 h.1)]
  | cons p post ih =>
    intro pre k hp hk
    simp only [List.length_cons] at hk ⊢
    obtain ⟨k, rfl⟩ : ∃ m, k = m + 1 := ⟨k - 1, by omega⟩
    have hlen : l.length = pre.length + (post.length + 1) := by rw [hp]; simp
    have hlt : (pre.length : Int) < (l.length : Int) := by omega
    have e0 : rd l (pre.length : Int) = p := by rw [hp]; simp [rd]
    have b1 : ltc l[i] pre ≤ pre.length := List.countP_le_length
    have b2 : eqc l[i] pre ≤ pre.length := List.countP_le_length
    have e2 : ((pre.length : Int) + 1) = ((pre ++ [p]).length : Int) := by simp
    have ih' := ih (pre ++ [p]) k (by rw [hp]; simp) (by omega)
    have l1 : ltc l[i] (pre ++ [p]) = ltc l[i] pre + if p < l[i] then 1 else 0 := by
      unfold ltc; rw [List.countP_append, List.countP_cons]; simp
    have l2 : eqc l[i] (pre ++ [p]) = eqc l[i] pre + if p = l[i] then 1 else 0 := by
      unfold eqc; rw [List.countP_append, List.countP_cons]; simp
    have ek : k + 1 - 1 - (post.length + 1) = k - 1 - post.length := by omega
    rw [ek, ← ih', l1, l2]
    rw [spec_MiddleOf.l1, if_pos hlt, if_pos (by omega : (0:Int) ≤ (pre.length : Int)), if_pos (by omega : (0:Int) ≤ (i : Int)), if_pos (by omega : (i : Int) < (l.length : Int)), e0, hr]
    rw [w64 (x := (pre.length : Int) + 1) (by omega), w64 (x := (ltc l[i] pre : Int) + 1) (by omega), w64 (x := (eqc l[i] pre : Int) + 1) (by omega), e2]
    by_cases c : p < l[i]
    · rw [if_pos c, if_neg (by omega), if_pos c, if_neg (by omega)]
      rfl
    · by_cases e : p = l[i]
      · rw [if_neg c, if_pos e, if_neg c, if_pos e]
        rfl
      · rw [if_neg c, if_neg e, if_neg c, if_neg e]
        rfl

theorem find_at (l : List Int) (hl : l.length ≤ 64) (n : Nat) : ∀ (i k : Nat), i + n = l.length → (∃ j, ∃ h : j < l.length, i ≤ j ∧ Mid l l[j]) → 70 * n + 70 ≤ k → spec_MiddleOf.l0 k l (i : Int) = some (midL l, true) := by
  induction n with
  | zero =>
    intro i k hi ⟨j, hj, hij, _⟩ hk
    omega
  | succ n ih =>
    intro i k hi ⟨j, hj, hij, hm⟩ hk
    obtain ⟨k, rfl⟩ : ∃ m, k = m + 1 := ⟨k - 1, by omega⟩
    have hil : i < l.length := by omega
    rw [spec_MiddleOf.l0, if_pos (by omega)]
    have := cnt_at l hl i hil l [] k (by simp) (by omega)
    have z1 : ltc l[i] [] = 0 := rfl
    have z2 : eqc l[i] [] = 0 := rfl
    rw [z1, z2] at this
    simp only [List.length_nil, Int.ofNat_zero] at this
    rw [this]
    by_cases c : Mid l l[i]
    · rw [if_pos c, mid_only l (by omega) _ c]
    · rw [if_neg c]
      have hk2 : 70 * n + 70 ≤ k - 1 - l.length := by
        clear hm c ih this z1 z2
        generalize l.length = L at *
        omega
      have hi2 : i + 1 + n = l.length := by rw [← hi]; rw [Nat.add_assoc, Nat.add_comm 1 n]
      refine ih (i + 1) (k - 1 - l.length) hi2 ⟨j, hj, ?_, hm⟩ hk2
      have hne : i ≠ j := fun e => by subst e; exact c hm
      exact Nat.lt_of_le_of_ne hij hne

theorem FnExactMiddleOf (l : List Int) (hm : l.length ≤ 9223372036854775807) (_ : ∀ z ∈ l, (Lit.int .i64 z).wf = true) : ∃ k, laws_FnExactMiddleOf.f k l = some true := by
  refine ⟨l.length + 6000, ?_⟩
  unfold laws_FnExactMiddleOf.f
  by_cases hs : (l.length : Int) > 1048576
  · rw [if_pos hs]
  · rw [if_neg hs, to_eq _ l (by omega) (by omega)]
    simp only [Option.bind_some]
    have fin : ∀ b : Bool, laws_FnExactMiddleOf.j0 (l.length + 6000) l l (b != b) = some true := by
      intro b
      have hbb : (b != b) = false := by cases b <;> rfl
      rw [hbb, laws_FnExactMiddleOf.j0, if_neg (by simp), to_eq _ l (by omega) (by omega)]
      simp only [Option.bind_some]
      rw [eqInts_self _ l (by omega) (by omega)]
      simp only [Option.bind_some, if_true]
    have key : ∃ r, spec_MiddleOf.f (l.length + 6000) l = some r ∧ impl_MiddleOf.f l = some r := by
      unfold spec_MiddleOf.f impl_MiddleOf.f
      rw [slist_eq _ l (by omega) (by omega)]
      simp only [Option.bind_some]
      have eL : isL l = listB l := rfl
      rw [eL]
      cases h : listB l with
      | true =>
        have h64 : (l.length : Int) ≤ 64 := of_decide_eq_true (Bool.and_eq_true_iff.1 h).1
        rw [if_pos rfl, spec_MiddleOf.j0]
        by_cases e : l = []
        · subst e
          exact ⟨(0, false), rfl, rfl⟩
        · have hpos : 0 < l.length := List.length_pos_iff.2 e
          have hz : ((l.length : Int) == 0) = false := by rw [beq_eq_false_iff_ne]; omega
          rw [hz, if_neg (by simp), if_pos ⟨rfl, e⟩]
          refine ⟨_, ?_, rfl⟩
          obtain ⟨hM, hmem⟩ := mid_is l hpos
          obtain ⟨j, hj, ej⟩ := List.mem_iff_getElem.1 hmem
          have := find_at l (by omega) l.length 0 (l.length + 5999) (by omega) ⟨j, hj, by omega, by rw [ej]; exact hM⟩ (by omega)
          simpa using this
      | false => exact ⟨(0, false), by rw [if_neg (by simp)]; rfl, by rw [if_neg (by simp)]⟩
    obtain ⟨r, r1, r2⟩ := key
    rw [r1, r2]
    simp only [Option.bind_some, if_true]
    exact fin r.2

end Go.Proofs.Ytpcekncfdcofhaa.Pure
