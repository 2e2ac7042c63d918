/- A ring has six joints, and its key may be followed by exactly the keys whose joints do not meet its joints, in both directions: the plain law. -/
import Derived.Test.YtogkeigmjjbfcaaQ0
import Derived.Test.YtogkeigmjjbfcaaQ14
import Derived.Test.YtogkeigmjjbfcaaQ17
import Derived.Test.YtogkeigmjjbfcaaQ27
import Derived.Test.YtogkeigmjjbfcaaPTube
import Derived.Test.YtogkeigmjjbfcaaPNextK
namespace Go.Proofs.Ytogkeigmjjbfcaa.Pure
open Go.RowKit Go.Proofs.Ytogkeigmjjbfcaa.Q Go.Proofs.YtogkeigmjjbfcaaW.PrintWords Go.Proofs.YtogkeigmjjbfcaaW.PrintLast
set_option linter.unusedVariables false
set_option linter.unusedSimpArgs false

theorem has_at (post : List Int) : ∀ (pre : List Int) (k : Nat) (v : Int), (pre.length : Int) + post.length ≤ 140737488355328 → post.length < k → laws_b10Has.l0 k (pre ++ post) v pre.length = some (post.contains v) := by
  induction post with
  | nil =>
    intro pre k v hp hk
    obtain ⟨k, rfl⟩ : ∃ m, k = m + 1 := ⟨k - 1, by omega⟩
    rw [laws_b10Has.l0, if_neg (by simp)]
    rfl
  | cons p post ih =>
    intro pre k v hp hk
    simp only [List.length_cons] at hp hk
    obtain ⟨k, rfl⟩ : ∃ m, k = m + 1 := ⟨k - 1, by omega⟩
    have hlt : (pre.length : Int) < ((pre ++ p :: post).length : Int) := by simp; omega
    have h0' : (0 : Int) ≤ (pre.length : Int) := by omega
    have er : rd (pre ++ p :: post) (pre.length : Int) = p := by simp [rd]
    have e2 : wrap64 ((pre.length : Int) + 1) = ((pre ++ [p]).length : Int) := by rw [w64 (by omega)]; simp
    have e3 : pre ++ p :: post = (pre ++ [p]) ++ post := by simp
    rw [laws_b10Has.l0, if_pos hlt, if_pos h0', er]
    by_cases h : p = v
    · rw [if_pos h]; subst h; simp
    · rw [if_neg h, e2, e3, ih (pre ++ [p]) k v (by simp; omega) (by omega)]
      have : (v == p) = false := by simpa using fun e => h e.symm
      rw [List.contains_cons, this, Bool.false_or]
theorem has_eq (k : Nat) (l : List Int) (v : Int) (hl : l.length ≤ 100) (hk : l.length < k) : laws_b10Has.f k l v = some (l.contains v) := by
  unfold laws_b10Has.f
  exact has_at l [] k v (by simp; omega) hk
theorem at_eq (l : List Int) (i n : Int) (hi : 0 ≤ i ∧ i ≤ 1) (hn : 2 ≤ n ∧ n ≤ 16) (hz : ∀ z ∈ l, 0 ≤ z ∧ z ≤ 255) : ∃ v, laws_b10At.f l i n = some v ∧ 0 ≤ v ∧ v < n := by
  unfold laws_b10At.f
  rw [if_neg (by omega)]
  by_cases h : i < (l.length : Int)
  · have hm : 0 ≤ rd l i ∧ rd l i ≤ 255 := by
      have hlt : i.toNat < l.length := by omega
      have e : rd l i = l[i.toNat] := by simp [rd, hlt]
      rw [e]
      exact hz _ (List.getElem_mem hlt)
    rw [if_pos h, if_pos hi.1, if_neg (by omega), w64 (by omega)]
    refine ⟨_, rfl, ?_⟩
    rw [Int.tmod_eq_emod_of_nonneg hm.1]
    exact ⟨Int.emod_nonneg _ (by omega), Int.emod_lt_of_pos _ (by omega)⟩
  · rw [if_neg h, if_neg (by omega), w64 (x := i * 37) (by omega), w64 (by omega)]
    refine ⟨_, rfl, ?_⟩
    rw [Int.tmod_eq_emod_of_nonneg (by omega)]
    exact ⟨Int.emod_nonneg _ (by omega), Int.emod_lt_of_pos _ (by omega)⟩
theorem mtc_fin : ∀ (x y : Fin 16), (keysFrom 16 0).all (fun i => (mt (x.val : Int) (y.val : Int)).contains i == ((jt (x.val : Int)).contains i && (jt (y.val : Int)).contains i)) = true := by decide +kernel
theorem nxt_fin : ∀ (x y : Fin 16), ((((mt (x.val : Int) (y.val : Int)).length : Int) == 0) == (nt (x.val : Int)).contains (y.val : Int)) = true ∧ ((nt (x.val : Int)).contains (y.val : Int) == (nt (y.val : Int)).contains (x.val : Int)) = true := by decide +kernel
theorem tube2 {a b c d : Int} (h : ringB a b = true) (h' : ringB c d = true) : tubeV [(⟨a, b⟩ : S26), ⟨c, d⟩] = decide ((mt b d).length = 0) := by
  unfold tubeV
  simp only [tubeB, behB, h, h', Bool.true_and, Bool.and_true]
  have : decide ((([(⟨a, b⟩ : S26), ⟨c, d⟩].length : Nat) : Int) ≤ 60) = true := decide_eq_true (by simp)
  rw [this, Bool.and_true]
theorem fin_at {a b c d : Int} (J J' M X Y : List Int) (l1 : J.length ≤ 6) (l2 : J'.length ≤ 6) (l3 : M.length ≤ 6) (l4 : X.length ≤ 6) (l5 : Y.length ≤ 6) (e1 : (((M.length : Int) == 0) == X.contains d) = true) (e2 : (X.contains d == Y.contains b) = true)
    (et : tubeV [(⟨a, b⟩ : S26), ⟨c, d⟩] = decide (M.length = 0)) (m : Nat) : ∀ (k : Nat) (i : Int), 0 ≤ i → i + m = 16 → (keysFrom m i).all (fun i => M.contains i == (J.contains i && J'.contains i)) = true → 120 + m < k →
    laws_FnJoints.l0 k J J' M X Y i a b c d = some true := by
  induction m with
  | zero =>
    intro k i h0 hi hA hk
    obtain ⟨k, rfl⟩ : ∃ m, k = m + 1 := ⟨k - 1, by omega⟩
    rw [laws_FnJoints.l0, if_neg (by omega), has_eq k _ _ (by omega) (by omega)]
    simp only [Option.bind_some]
    rw [if_pos e1, has_eq k _ _ (by omega) (by omega)]
    simp only [Option.bind_some]
    rw [if_pos e2, itube_eq k _ (by simp) (by simp; omega)]
    simp only [Option.bind_some, Option.some.injEq]
    rw [et]
    by_cases hc : M.length = 0
    · rw [decide_eq_true hc, hc]; rfl
    · rw [decide_eq_false hc]
      have : ((M.length : Int) == 0) = false := by simpa using fun e => hc (by rw [e]; rfl)
      rw [this]; rfl
  | succ m ih =>
    intro k i h0 hi hA hk
    obtain ⟨k, rfl⟩ : ∃ m, k = m + 1 := ⟨k - 1, by omega⟩
    rw [keysFrom, List.all_cons, Bool.and_eq_true] at hA
    obtain ⟨hA1, hA2⟩ := hA
    have hA1 := eq_of_beq hA1
    have hn := ih k (i + 1) (by omega) (by omega) hA2 (by omega)
    rw [laws_FnJoints.l0, if_pos (by omega), has_eq k _ _ (by omega) (by omega), Option.bind_some, has_eq k _ _ (by omega) (by omega), Option.bind_some, hA1, w64 (by omega)]
    cases J.contains i with
    | false =>
      rw [if_neg (by simp), Bool.false_and, if_neg (by simp)]; exact hn
    | true =>
      rw [if_pos rfl, has_eq k _ _ (by omega) (by omega), Option.bind_some, Bool.true_and]
      have hb : (J'.contains i != J'.contains i) = false := by cases J'.contains i <;> rfl
      rw [hb, if_neg (by simp)]; exact hn

theorem FnJoints (l0 l1 : List Int) (hm0 : l0.length ≤ 9223372036854775807) (hw0 : ∀ z ∈ l0, (Lit.int .u8 z).wf = true) (hm1 : l1.length ≤ 9223372036854775807) (hw1 : ∀ z ∈ l1, (Lit.int .u8 z).wf = true) : ∃ k, laws_FnJoints.f k l0 l1 = some true := by
  refine ⟨152, ?_⟩
  unfold laws_FnJoints.f laws_b10Long.f
  by_cases h0 : (l0.length : Int) > 1048576
  · rw [if_pos h0]; rfl
  · rw [if_neg h0, Option.bind_some]
    by_cases h1 : (l1.length : Int) > 1048576
    · rw [decide_eq_true h1]; rfl
    · rw [decide_eq_false h1, if_neg (by simp)]
      have wf8 : ∀ {z : Int}, (Lit.int .u8 z).wf = true → 0 ≤ z ∧ z ≤ 255 := fun {z} h => by
        have m0 : IntKind.u8.min = 0 := rfl
        have m1 : IntKind.u8.max = 255 := rfl
        simp only [Lit.wf, m0, m1, Bool.and_eq_true, decide_eq_true_eq] at h
        omega
      obtain ⟨a, a1, a2, a3⟩ := at_eq l0 0 2 (by omega) (by omega) (fun z hz => wf8 (hw0 z hz))
      obtain ⟨b, b1, b2, b3⟩ := at_eq l0 1 16 (by omega) (by omega) (fun z hz => wf8 (hw0 z hz))
      obtain ⟨c, c1, c2, c3⟩ := at_eq l1 0 2 (by omega) (by omega) (fun z hz => wf8 (hw1 z hz))
      obtain ⟨d, d1, d2, d3⟩ := at_eq l1 1 16 (by omega) (by omega) (fun z hz => wf8 (hw1 z hz))
      have h : ringB a b = true := by unfold ringB inR; simp; omega
      have h' : ringB c d = true := by unfold ringB inR; simp; omega
      obtain ⟨j1, j2, j3⟩ := joints_both h (k := 152) (by omega)
      obtain ⟨j4, j5, j6⟩ := joints_both h' (k := 152) (by omega)
      obtain ⟨m1, m2, m3⟩ := meet_both h h' (k := 152) (by omega)
      obtain ⟨n1, n2, n3⟩ := next_both h (k := 152) (by omega)
      obtain ⟨n4, n5, n6⟩ := next_both h' (k := 152) (by omega)
      have f1 : impl_JointsOf.f 152 a b = some (jt b, true) := by unfold impl_JointsOf.f; rw [iring_eq, h, Option.bind_some, if_pos rfl, j2]; rfl
      have f2 : impl_JointsOf.f 152 c d = some (jt d, true) := by unfold impl_JointsOf.f; rw [iring_eq, h', Option.bind_some, if_pos rfl, j5]; rfl
      have f3 : impl_MeetingJoints.f 152 a b c d = some (mt b d, true) := by unfold impl_MeetingJoints.f; rw [iring_eq, iring_eq, h, h', Option.bind_some, if_pos rfl, Option.bind_some, if_pos rfl, m2]; rfl
      rw [a1, Option.bind_some, b1, Option.bind_some, c1, Option.bind_some, d1, Option.bind_some, f1, Option.bind_some, f2, Option.bind_some, f3, Option.bind_some, n2, Option.bind_some, n5, Option.bind_some]
      have g1 : ((jt b).length : Int) = 6 := by omega
      have g2 : ((jt d).length : Int) = 6 := by omega
      have g3 : (((nt b).length : Int) != 5) = false := by rw [n3]; rfl
      simp only [if_true, g1, g2, g3]
      rw [laws_FnJoints.j0, if_neg (by simp)]
      obtain ⟨x, y, rfl, rfl⟩ := ring_fin h
      obtain ⟨x', y', rfl, rfl⟩ := ring_fin h'
      obtain ⟨e1, e2⟩ := nxt_fin y y'
      exact fin_at _ _ _ _ _ (by omega) (by omega) (by omega) (by omega) (by omega) e1 e2 (tube2 h h') 16 151 0 (by omega) (by omega) (mtc_fin y y') (by omega)

end Go.Proofs.Ytogkeigmjjbfcaa.Pure
