/- Plain lemmas by hand: the statements' own copy of a tube, and the test of a tube in the program and in the reference. -/
import Derived.Test.YtlmdoapjcnaflaaDoorQ0
import Derived.Test.YtlmdoapjcnaflaaDoorQ9
import Derived.Test.YtlmdoapjcnaflaaDoorQ10
import Derived.Test.YtlmdoapjcnaflaaDoorQ15
import Derived.Test.YtlmdoapjcnaflaaDoorPMeetT
namespace Go.Proofs.YtlmdoapjcnaflaaDoor.Pure
open Go.RowKit Go.Proofs.YtlmdoapjcnaflaaDoor.Q Go.Proofs.YtlmdoapjcnaflaaDoorW.PrintWords Go.Proofs.YtlmdoapjcnaflaaDoorW.PrintLast
set_option linter.unusedVariables false
set_option linter.unusedSimpArgs false

def ringOf (x : S73) : S71 := ⟨x.f0, x.f1⟩
theorem rd73_at (pre : List S73) (p : S73) (post : List S73) : rd_T73 (pre ++ p :: post) (pre.length : Int) = p := by simp [rd_T73]
theorem rd71_at (pre : List S71) (p : S71) (post : List S71) : rd_T71 (pre ++ p :: post) (pre.length : Int) = p := by simp [rd_T71]
theorem szR_eq (l : List S73) (hm : l.length ≤ 9223372036854775807) : laws_szRingS.f l 1048576 = some (if (l.length : Int) > 1048576 then -1 else 1048576 - (l.length : Int)) := by
  unfold laws_szRingS.f
  rw [w64 (by omega)]
  by_cases h : (l.length : Int) > 1048576
  · rw [if_pos (by omega), if_pos h]
  · rw [if_neg (by omega), if_neg h]
theorem toRings_at (post : List S73) : ∀ (pre : List S73) (k : Nat), (pre.length : Int) + post.length ≤ 140737488355328 → post.length < k →
    laws_toRingS.l0 k (pre ++ post) (pre.map ringOf ++ List.replicate post.length z71) pre.length = some ((pre ++ post).map ringOf) := by
  induction post with
  | nil =>
    intro pre k hp hk
    obtain ⟨k, rfl⟩ : ∃ m, k = m + 1 := ⟨k - 1, by omega⟩
    rw [laws_toRingS.l0, if_neg (by simp)]
    simp
  | cons p post ih =>
    intro pre k hp hk
    simp only [List.length_cons] at hp hk
    obtain ⟨k, rfl⟩ : ∃ m, k = m + 1 := ⟨k - 1, by omega⟩
    have hlt : (pre.length : Int) < ((pre ++ p :: post).length : Int) := by simp; omega
    have hlt2 : (pre.length : Int) < ((pre.map ringOf ++ List.replicate (p :: post).length z71).length : Int) := by simp; omega
    have h0' : (0 : Int) ≤ (pre.length : Int) := by omega
    have e1 : (pre.map ringOf ++ List.replicate (p :: post).length z71).set ((pre.length : Int)).toNat (⟨p.f0, p.f1⟩ : S71) = (pre ++ [p]).map ringOf ++ List.replicate post.length z71 := by simp [List.replicate_succ, ringOf]
    have e2 : ((pre.length : Int) + 1) = ((pre ++ [p]).length : Int) := by simp
    have e3 : pre ++ p :: post = (pre ++ [p]) ++ post := by simp
    rw [laws_toRingS.l0, if_pos hlt, if_pos h0', rd73_at]
    simp only [laws_toRing.f, Option.bind_some]
    rw [if_pos hlt2, w64 (x := (pre.length : Int) + 1) (by omega), e1, e2, e3]
    exact ih (pre ++ [p]) k (by simp; omega) (by omega)
theorem toRings_eq (k : Nat) (l : List S73) (hl : l.length ≤ 1048576) (hk : l.length < k) : laws_toRingS.f k l = some (l.map ringOf) := by
  unfold laws_toRingS.f
  rw [if_pos (by omega), if_pos (by omega)]
  have e : ((l.length : Int)).toNat = l.length := by omega
  rw [e]
  exact toRings_at l [] k (by simp; omega) hk
theorem eqR_self (a b : Int) : laws_eqRing.f a b a b = some true := by simp [laws_eqRing.f]
theorem eqRs_at (l : List S71) (hl : l.length ≤ 140737488355328) (d : Nat) : ∀ (k : Nat) (i : Int), 0 ≤ i → (l.length : Int) - i ≤ d → d < k → laws_eqRingS.l0 k l l i = some true := by
  induction d with
  | zero =>
    intro k i h0 hd hk
    obtain ⟨k, rfl⟩ : ∃ m, k = m + 1 := ⟨k - 1, by omega⟩
    simp only [laws_eqRingS.l0]
    rw [if_neg (by omega)]
  | succ d ih =>
    intro k i h0 hd hk
    obtain ⟨k, rfl⟩ : ∃ m, k = m + 1 := ⟨k - 1, by omega⟩
    simp only [laws_eqRingS.l0]
    by_cases h : i < (l.length : Int)
    · simp only [if_pos h, if_pos h0, eqR_self, Option.bind_some, if_true]
      rw [w64 (by omega)]
      exact ih k (i + 1) (by omega) (by omega) (by omega)
    · rw [if_neg h]
theorem eqRs_self (k : Nat) (l : List S71) (hl : l.length ≤ 140737488355328) (hk : l.length < k) : laws_eqRingS.f k l l = some true := by
  unfold laws_eqRingS.f
  rw [if_pos rfl]
  exact eqRs_at l hl l.length k 0 (by omega) (by omega) hk

/-- Whether what is left of a tube is valid behind a ring (none ahead of the first). -/
def behB : Option S71 → S71 → Bool
  | none, _ => true
  | some q, x => decide ((mt q.f1 x.f1).length = 0)
def tubeB (p : Option S71) : List S71 → Bool
  | [] => true
  | x :: xs => ringB x.f0 x.f1 && (behB p x && tubeB (some x) xs)
theorem tube_at (post : List S71) : ∀ (pre : List S71) (k : Nat), (pre.length : Int) + post.length ≤ 140737488355328 → post.length + 110 < k → (∀ x ∈ pre, ringB x.f0 x.f1 = true) →
    spec_l03Tube.l0 k (pre ++ post) pre.length = some (tubeB pre.getLast? post && decide (((pre ++ post).length : Int) ≤ 60)) ∧
    impl_ValidTube.l0 k (pre ++ post) (pre ++ post) ((pre ++ post).length : Int) pre.length = some (tubeB pre.getLast? post && decide (((pre ++ post).length : Int) ≤ 60)) := by
  induction post with
  | nil =>
    intro pre k hp hk hv
    obtain ⟨k, rfl⟩ : ∃ m, k = m + 1 := ⟨k - 1, by omega⟩
    have hn : ¬ ((pre.length : Int) < ((pre ++ []).length : Int)) := by simp
    rw [spec_l03Tube.l0, if_neg hn, impl_ValidTube.l0, if_neg hn]
    simp [tubeB]
  | cons x post ih =>
    intro pre k hp hk hv
    simp only [List.length_cons] at hp hk
    obtain ⟨k, rfl⟩ : ∃ m, k = m + 1 := ⟨k - 1, by omega⟩
    have hlt : (pre.length : Int) < ((pre ++ x :: post).length : Int) := by simp; omega
    have h0' : (0 : Int) ≤ (pre.length : Int) := by omega
    have e2 : ((pre.length : Int) + 1) = ((pre ++ [x]).length : Int) := by simp
    have e3 : pre ++ x :: post = (pre ++ [x]) ++ post := by simp
    rw [spec_l03Tube.l0, if_pos hlt, if_pos h0', rd71_at, sring_eq, impl_ValidTube.l0, if_pos hlt, if_pos h0', if_pos hlt, rd71_at, iring_eq, tubeB]
    simp only [Option.bind_some]
    cases hr : ringB x.f0 x.f1 with
    | false => simp
    | true =>
      simp only [if_true, Bool.true_and]
      have hv2 : ∀ y ∈ pre ++ [x], ringB y.f0 y.f1 = true := by
        intro y hy
        rcases List.mem_append.1 hy with hy | hy
        · exact hv y hy
        · rw [List.mem_singleton.1 hy]; exact hr
      obtain ⟨i1, i2⟩ := ih (pre ++ [x]) k (by simp; omega) (by omega) hv2
      have el : (pre ++ [x]).getLast? = some x := by simp
      rw [el] at i1 i2
      rcases List.eq_nil_or_concat pre with rfl | ⟨pre', q, rfl⟩
      · have hn0 : ¬ ((([] : List S71).length : Int) > 0) := by simp
        rw [if_neg hn0, if_neg hn0, w64 (by simp), e2, e3]
        simp only [List.getLast?_nil, behB, Bool.true_and]
        exact ⟨i1, i2⟩
      · simp only [List.concat_eq_append] at *
        have hp0 : ((pre' ++ [q]).length : Int) > 0 := by simp
        have ew : wrap64 (((pre' ++ [q]).length : Int) - 1) = (pre'.length : Int) := by rw [w64 (by omega)]; simp
        have eq' : pre' ++ [q] ++ x :: post = pre' ++ q :: (x :: post) := by simp
        have hlt3 : (pre'.length : Int) < ((pre' ++ [q] ++ x :: post).length : Int) := by simp; omega
        have er : rd_T71 (pre' ++ [q] ++ x :: post) (pre'.length : Int) = q := by rw [eq', rd71_at]
        have hq : ringB q.f0 q.f1 = true := hv q (by simp)
        obtain ⟨m1, m2, _⟩ := meet_both hq hr (k := k) (by omega)
        have h00 : (0 : Int) ≤ (pre'.length : Int) := by omega
        have elq : (pre' ++ [q]).getLast? = some q := by simp
        rw [if_pos hp0, if_pos hp0, ew, if_pos h00, if_pos h00, if_pos hlt3, if_pos hlt3, er, m1, m2, elq, behB]
        simp only [Option.bind_some]
        by_cases hc : (mt q.f1 x.f1).length = 0
        · have hc' : ¬ ((mt q.f1 x.f1).length : Int) > 0 := by omega
          rw [if_neg hc', if_neg hc', decide_eq_true hc, Bool.true_and, w64 (by omega), e2, e3]
          exact ⟨i1, i2⟩
        · have hc' : ((mt q.f1 x.f1).length : Int) > 0 := by omega
          rw [if_pos hc', if_pos hc', decide_eq_false hc]
          simp
def tubeV (l : List S71) : Bool := tubeB none l && decide ((l.length : Int) ≤ 60)
theorem stube_eq (k : Nat) (l : List S71) (hl : l.length ≤ 140737488355328) (hk : l.length + 110 < k) : spec_l03Tube.f k l = some (tubeV l) := by
  unfold spec_l03Tube.f tubeV
  exact (tube_at l [] k (by simp; omega) hk (by simp)).1
theorem itube_eq (k : Nat) (l : List S71) (hl : l.length ≤ 140737488355328) (hk : l.length + 110 < k) : impl_ValidTube.f k l = some (tubeV l) := by
  unfold impl_ValidTube.f tubeV
  exact (tube_at l [] k (by simp; omega) hk (by simp)).2
theorem tubeB_rings : ∀ (l : List S71) (p : Option S71), tubeB p l = true → ∀ x ∈ l, ringB x.f0 x.f1 = true
  | [], _, _, x, hx => by cases hx
  | y :: ys, p, h, x, hx => by
    simp only [tubeB, Bool.and_eq_true] at h
    rcases List.mem_cons.1 hx with rfl | hx
    · exact h.1
    · exact tubeB_rings ys (some y) h.2.2 x hx
theorem tubeV_iff {l : List S71} (h : tubeV l = true) : (∀ x ∈ l, ringB x.f0 x.f1 = true) ∧ l.length ≤ 60 := by
  unfold tubeV at h
  simp only [Bool.and_eq_true, decide_eq_true_eq] at h
  exact ⟨tubeB_rings l none h.1, by omega⟩

end Go.Proofs.YtlmdoapjcnaflaaDoor.Pure
