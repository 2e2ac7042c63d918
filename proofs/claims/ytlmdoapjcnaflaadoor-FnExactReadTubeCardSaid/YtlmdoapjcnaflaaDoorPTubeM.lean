/- Plain lemmas by hand: rings, joints, tubes and lists of rings, in one text. -/
import Derived.Test.YtlmdoapjcnaflaaDoorQ0
import Derived.Test.YtlmdoapjcnaflaaDoorQ9
import Derived.Test.YtlmdoapjcnaflaaDoorQ10
import Derived.Test.YtlmdoapjcnaflaaDoorQ22
import Derived.Test.YtlmdoapjcnaflaaDoorPZero
import Derived.Test.YtlmdoapjcnaflaaDoorGSort
namespace Go.Proofs.YtlmdoapjcnaflaaDoor.Pure
section
open Go.RowKit Go.Proofs.YtlmdoapjcnaflaaDoor.Q Go.Proofs.YtlmdoapjcnaflaaDoorW.PrintWords Go.Proofs.YtlmdoapjcnaflaaDoorW.PrintLast
set_option linter.unusedVariables false
set_option linter.unusedSimpArgs false

def ringB (a b : Int) : Bool := inR 0 1 a && inR 0 15 b
theorem sring_eq (a b : Int) : spec_l03Is.f a b = some (ringB a b) := by
  unfold spec_l03Is.f ringB
  simp only [in_eq, Option.bind_some, and_some]
theorem iring_eq (a b : Int) : impl_ValidRing.f a b = some (ringB a b) := by
  unfold impl_ValidRing.f ringB
  simp only [within_eq, Option.bind_some, and_some]
theorem ring_fin {a b : Int} (h : ringB a b = true) : ∃ (x : Fin 2) (y : Fin 16), a = (x.val : Int) ∧ b = (y.val : Int) := by
  simp only [ringB, Bool.and_eq_true] at h
  have h1 := inR_iff h.1
  have h2 := inR_iff h.2
  exact ⟨⟨a.toNat, by omega⟩, ⟨b.toNat, by omega⟩, by simp; omega, by simp; omega⟩

end
section
open Go.RowKit Go.Proofs.YtlmdoapjcnaflaaDoor.Q Go.Proofs.YtlmdoapjcnaflaaDoorW.PrintWords Go.Proofs.YtlmdoapjcnaflaaDoorW.PrintLast
set_option linter.unusedVariables false
set_option linter.unusedSimpArgs false

def jt (y : Int) : List Int := (spec_l03Joints.f 100 y).getD []
def mt (x y : Int) : List Int := (spec_l03Meet.f 100 x y).getD []
theorem joints_fin : ∀ (x : Fin 2) (y : Fin 16), spec_l03Joints.f 100 (y.val : Int) = some (jt (y.val : Int)) ∧ impl_Ring_joints.f 100 (x.val : Int) (y.val : Int) = some (jt (y.val : Int)) ∧ (jt (y.val : Int)).length = 6 := by decide +kernel
theorem meet_fin : ∀ (a b : Fin 2) (x y : Fin 16), spec_l03Meet.f 100 (x.val : Int) (y.val : Int) = some (mt (x.val : Int) (y.val : Int)) ∧ impl_meeting.f 100 (a.val : Int) (x.val : Int) (b.val : Int) (y.val : Int) = some (mt (x.val : Int) (y.val : Int)) ∧ (mt (x.val : Int) (y.val : Int)).length ≤ 6 := by decide +kernel
theorem joints_both {a b : Int} (h : ringB a b = true) {k : Nat} (hk : 100 ≤ k) : spec_l03Joints.f k b = some (jt b) ∧ impl_Ring_joints.f k a b = some (jt b) ∧ (jt b).length = 6 := by
  obtain ⟨x, y, rfl, rfl⟩ := ring_fin h
  obtain ⟨h1, h2, h3⟩ := joints_fin x y
  exact ⟨at_rounds (g := fun k => spec_l03Joints.f k (y.val : Int)) (fun k => spec_l03Joints.mono _ k) hk h1, at_rounds (g := fun k => impl_Ring_joints.f k (x.val : Int) (y.val : Int)) (fun k => impl_Ring_joints.mono _ _ k) hk h2, h3⟩
theorem meet_both {a b c d : Int} (h : ringB a b = true) (h' : ringB c d = true) {k : Nat} (hk : 100 ≤ k) : spec_l03Meet.f k b d = some (mt b d) ∧ impl_meeting.f k a b c d = some (mt b d) ∧ (mt b d).length ≤ 6 := by
  obtain ⟨x, y, rfl, rfl⟩ := ring_fin h
  obtain ⟨x', y', rfl, rfl⟩ := ring_fin h'
  obtain ⟨h1, h2, h3⟩ := meet_fin x x' y y'
  exact ⟨at_rounds (g := fun k => spec_l03Meet.f k (y.val : Int) (y'.val : Int)) (fun k => spec_l03Meet.mono _ _ k) hk h1, at_rounds (g := fun k => impl_meeting.f k (x.val : Int) (y.val : Int) (x'.val : Int) (y'.val : Int)) (fun k => impl_meeting.mono _ _ _ _ k) hk h2, h3⟩


end
section
open Go.RowKit Go.Proofs.YtlmdoapjcnaflaaDoor.Q Go.Proofs.YtlmdoapjcnaflaaDoorW.PrintWords Go.Proofs.YtlmdoapjcnaflaaDoorW.PrintLast
set_option linter.unusedVariables false
set_option linter.unusedSimpArgs false

theorem rd71_at (pre : List S71) (p : S71) (post : List S71) : rd_T71 (pre ++ p :: post) (pre.length : Int) = p := by simp [rd_T71]
theorem eqR_self (a b : Int) : laws_eqRing.f a b a b = some true := by simp [laws_eqRing.f]
theorem eqRs_at (l : List S71) (hl : l.length ≤ 140737488355328) (d : Nat) : ∀ (k : Nat) (i : Int), 0 ≤ i → (l.length : Int) - i ≤ d → d < k → laws_eqRingS.l0 k l l i = some true := by
  induction d with
  | zero =>
    intro k i h0 hd hk
    obtain ⟨k, rfl⟩ : ∃ m, k = m + 1 := ⟨k - 1, by omega⟩
    simp only [laws_eqRingS.l0]
    rw [if_neg (by omega)]
  | succ d ih =>
    intro k i h0 hd hk
    obtain ⟨k, rfl⟩ : ∃ m, k = m + 1 := ⟨k - 1, by omega⟩
    simp only [laws_eqRingS.l0]
    by_cases h : i < (l.length : Int)
    · simp only [if_pos h, if_pos h0, eqR_self, Option.bind_some, if_true]
      rw [w64 (by omega)]
      exact ih k (i + 1) (by omega) (by omega) (by omega)
    · rw [if_neg h]
theorem eqRs_self (k : Nat) (l : List S71) (hl : l.length ≤ 140737488355328) (hk : l.length < k) : laws_eqRingS.f k l l = some true := by
  unfold laws_eqRingS.f
  rw [if_pos rfl]
  exact eqRs_at l hl l.length k 0 (by omega) (by omega) hk

/-- Whether what is left of a tube is valid behind a ring (none ahead of the first). -/
def behB : Option S71 → S71 → Bool
  | none, _ => true
  | some q, x => decide ((mt q.f1 x.f1).length = 0)
def tubeB (p : Option S71) : List S71 → Bool
  | [] => true
  | x :: xs => ringB x.f0 x.f1 && (behB p x && tubeB (some x) xs)
theorem tube_at (post : List S71) : ∀ (pre : List S71) (k : Nat), (pre.length : Int) + post.length ≤ 140737488355328 → post.length + 110 < k → (∀ x ∈ pre, ringB x.f0 x.f1 = true) →
    spec_l03Tube.l0 k (pre ++ post) pre.length = some (tubeB pre.getLast? post && decide (((pre ++ post).length : Int) ≤ 60)) ∧
    impl_ValidTube.l0 k (pre ++ post) (pre ++ post) ((pre ++ post).length : Int) pre.length = some (tubeB pre.getLast? post && decide (((pre ++ post).length : Int) ≤ 60)) := by
  induction post with
  | nil =>
    intro pre k hp hk hv
    obtain ⟨k, rfl⟩ : ∃ m, k = m + 1 := ⟨k - 1, by omega⟩
    have hn : ¬ ((pre.length : Int) < ((pre ++ []).length : Int)) := by simp
    rw [spec_l03Tube.l0, if_neg hn, impl_ValidTube.l0, if_neg hn]
    simp [tubeB]
  | cons x post ih =>
    intro pre k hp hk hv
    simp only [List.length_cons] at hp hk
    obtain ⟨k, rfl⟩ : ∃ m, k = m + 1 := ⟨k - 1, by omega⟩
    have hlt : (pre.length : Int) < ((pre ++ x :: post).length : Int) := by simp; omega
    have h0' : (0 : Int) ≤ (pre.length : Int) := by omega
    have e2 : ((pre.length : Int) + 1) = ((pre ++ [x]).length : Int) := by simp
    have e3 : pre ++ x :: post = (pre ++ [x]) ++ post := by simp
    rw [spec_l03Tube.l0, if_pos hlt, if_pos h0', rd71_at, sring_eq, impl_ValidTube.l0, if_pos hlt, if_pos h0', if_pos hlt, rd71_at, iring_eq, tubeB]
    simp only [Option.bind_some]
    cases hr : ringB x.f0 x.f1 with
    | false => simp
    | true =>
      simp only [if_true, Bool.true_and]
      have hv2 : ∀ y ∈ pre ++ [x], ringB y.f0 y.f1 = true := by
        intro y hy
        rcases List.mem_append.1 hy with hy | hy
        · exact hv y hy
        · rw [List.mem_singleton.1 hy]; exact hr
      obtain ⟨i1, i2⟩ := ih (pre ++ [x]) k (by simp; omega) (by omega) hv2
      have el : (pre ++ [x]).getLast? = some x := by simp
      rw [el] at i1 i2
      rcases List.eq_nil_or_concat pre with rfl | ⟨pre', q, rfl⟩
      · have hn0 : ¬ ((([] : List S71).length : Int) > 0) := by simp
        rw [if_neg hn0, if_neg hn0, w64 (by simp), e2, e3]
        simp only [List.getLast?_nil, behB, Bool.true_and]
        exact ⟨i1, i2⟩
      · simp only [List.concat_eq_append] at *
        have hp0 : ((pre' ++ [q]).length : Int) > 0 := by simp
        have ew : wrap64 (((pre' ++ [q]).length : Int) - 1) = (pre'.length : Int) := by rw [w64 (by omega)]; simp
        have eq' : pre' ++ [q] ++ x :: post = pre' ++ q :: (x :: post) := by simp
        have hlt3 : (pre'.length : Int) < ((pre' ++ [q] ++ x :: post).length : Int) := by simp; omega
        have er : rd_T71 (pre' ++ [q] ++ x :: post) (pre'.length : Int) = q := by rw [eq', rd71_at]
        have hq : ringB q.f0 q.f1 = true := hv q (by simp)
        obtain ⟨m1, m2, _⟩ := meet_both hq hr (k := k) (by omega)
        have h00 : (0 : Int) ≤ (pre'.length : Int) := by omega
        have elq : (pre' ++ [q]).getLast? = some q := by simp
        rw [if_pos hp0, if_pos hp0, ew, if_pos h00, if_pos h00, if_pos hlt3, if_pos hlt3, er, m1, m2, elq, behB]
        simp only [Option.bind_some]
        by_cases hc : (mt q.f1 x.f1).length = 0
        · have hc' : ¬ ((mt q.f1 x.f1).length : Int) > 0 := by omega
          rw [if_neg hc', if_neg hc', decide_eq_true hc, Bool.true_and, w64 (by omega), e2, e3]
          exact ⟨i1, i2⟩
        · have hc' : ((mt q.f1 x.f1).length : Int) > 0 := by omega
          rw [if_pos hc', if_pos hc', decide_eq_false hc]
          simp
def tubeV (l : List S71) : Bool := tubeB none l && decide ((l.length : Int) ≤ 60)
theorem stube_eq (k : Nat) (l : List S71) (hl : l.length ≤ 140737488355328) (hk : l.length + 110 < k) : spec_l03Tube.f k l = some (tubeV l) := by
  unfold spec_l03Tube.f tubeV
  exact (tube_at l [] k (by simp; omega) hk (by simp)).1
theorem itube_eq (k : Nat) (l : List S71) (hl : l.length ≤ 140737488355328) (hk : l.length + 110 < k) : impl_ValidTube.f k l = some (tubeV l) := by
  unfold impl_ValidTube.f tubeV
  exact (tube_at l [] k (by simp; omega) hk (by simp)).2
theorem tubeB_rings : ∀ (l : List S71) (p : Option S71), tubeB p l = true → ∀ x ∈ l, ringB x.f0 x.f1 = true
  | [], _, _, x, hx => by cases hx
  | y :: ys, p, h, x, hx => by
    simp only [tubeB, Bool.and_eq_true] at h
    rcases List.mem_cons.1 hx with rfl | hx
    · exact h.1
    · exact tubeB_rings ys (some y) h.2.2 x hx
theorem tubeV_iff {l : List S71} (h : tubeV l = true) : (∀ x ∈ l, ringB x.f0 x.f1 = true) ∧ l.length ≤ 60 := by
  unfold tubeV at h
  simp only [Bool.and_eq_true, decide_eq_true_eq] at h
  exact ⟨tubeB_rings l none h.1, by omega⟩


end
section
open Go.RowKit Go.Proofs.YtlmdoapjcnaflaaDoor.Q Go.Proofs.YtlmdoapjcnaflaaDoorW.PrintWords Go.Proofs.YtlmdoapjcnaflaaDoorW.PrintLast
set_option linter.unusedVariables false
set_option linter.unusedSimpArgs false

def upsR : Nat → Int → List S71
  | 0, _ => []
  | n + 1, x => ⟨x, x + 1⟩ :: upsR n (x + 2)
theorem upsR_length : ∀ (n : Nat) (x : Int), (upsR n x).length = n
  | 0, _ => rfl
  | n + 1, x => by simp [upsR, upsR_length n]

theorem markR_at (post : List S71) : ∀ (pre : List S71) (k : Nat) (x : Int), 0 ≤ x → x + 2 * post.length ≤ 844424930131968 → (pre.length : Int) + post.length ≤ 140737488355328 → post.length < k →
    laws_markRingS.l0 k (pre ++ post) x pre.length = some (x + 2 * post.length, pre ++ upsR post.length x) := by
  induction post with
  | nil =>
    intro pre k x h0 hx hp hk
    obtain ⟨k, rfl⟩ : ∃ m, k = m + 1 := ⟨k - 1, by omega⟩
    simp only [laws_markRingS.l0, List.append_nil]
    rw [if_neg (by omega)]
    simp [upsR]
  | cons p post ih =>
    intro pre k x h0 hx hp hk
    simp only [List.length_cons] at hx hp hk
    obtain ⟨k, rfl⟩ : ∃ m, k = m + 1 := ⟨k - 1, by omega⟩
    have hlt : (pre.length : Int) < ((pre ++ p :: post).length : Int) := by simp; omega
    have h0' : (0 : Int) ≤ (pre.length : Int) := by omega
    have e1 : ∀ (q q' : S71), (pre ++ q :: post).set ((pre.length : Int)).toNat q' = pre ++ q' :: post := by intro q q'; simp
    rw [laws_markRingS.l0, if_pos hlt, if_pos h0', Option.bind_some, rd71_at, e1, rd71_at, e1]
    rw [w64 (x := x + 1) (by omega), w64 (x := x + 1 + 1) (by omega), w64 (x := (pre.length : Int) + 1) (by omega)]
    have e0 : pre ++ (⟨x, x + 1⟩ : S71) :: post = (pre ++ [⟨x, x + 1⟩]) ++ post := by simp
    have e2 : ((pre.length : Int) + 1) = ((pre ++ [(⟨x, x + 1⟩ : S71)]).length : Int) := by simp
    have e3 : x + 1 + 1 = x + 2 := by omega
    rw [e0, e2, e3, ih (pre ++ [(⟨x, x + 1⟩ : S71)]) k (x + 2) (by omega) (by omega) (by simp; omega) (by omega)]
    simp only [List.length_cons, upsR, Option.some.injEq, Prod.mk.injEq, List.append_assoc, List.singleton_append, and_true]
    omega
theorem markR_eq (k : Nat) (l : List S71) (hl : l.length ≤ 140737488355328) (hk : l.length < k) : laws_markRingS.f k l 1 = some (1 + 2 * (l.length : Int), upsR l.length 1) := by
  unfold laws_markRingS.f
  exact markR_at l [] k 1 (by omega) (by omega) (by simp; omega) hk

theorem heldR_at (m : Nat) : ∀ (pre : List S71) (k : Nat) (x : Int), 0 ≤ x → x + 2 * m ≤ 844424930131968 → (pre.length : Int) + m ≤ 140737488355328 → m < k →
    laws_heldRingS.l0 k (pre ++ upsR m x) x pre.length = some (x + 2 * m) := by
  induction m with
  | zero =>
    intro pre k x h0 hx hp hk
    obtain ⟨k, rfl⟩ : ∃ m, k = m + 1 := ⟨k - 1, by omega⟩
    have e0 : pre ++ upsR 0 x = pre := by simp [upsR]
    rw [e0]
    simp only [laws_heldRingS.l0]
    rw [if_neg (by omega)]
    simp
  | succ m ih =>
    intro pre k x h0 hx hp hk
    obtain ⟨k, rfl⟩ : ∃ m, k = m + 1 := ⟨k - 1, by omega⟩
    have e0 : pre ++ upsR (m + 1) x = pre ++ ⟨x, x + 1⟩ :: upsR m (x + 2) := rfl
    rw [e0]
    have hlt : (pre.length : Int) < ((pre ++ (⟨x, x + 1⟩ : S71) :: upsR m (x + 2)).length : Int) := by simp; omega
    have h0' : (0 : Int) ≤ (pre.length : Int) := by omega
    rw [laws_heldRingS.l0, if_pos hlt, if_pos h0', rd71_at, w64 (x := x + 1) (by omega), w64 (x := x + 1 + 1) (by omega), w64 (x := (pre.length : Int) + 1) (by omega)]
    have e4 : x + 1 + 1 = x + 2 := by omega
    have e1 : pre ++ (⟨x, x + 1⟩ : S71) :: upsR m (x + 2) = (pre ++ [⟨x, x + 1⟩]) ++ upsR m (x + 2) := by simp
    have e2 : ((pre.length : Int) + 1) = ((pre ++ [(⟨x, x + 1⟩ : S71)]).length : Int) := by simp
    simp only [e4, if_true]
    rw [e1, e2, ih (pre ++ [(⟨x, x + 1⟩ : S71)]) k (x + 2) (by omega) (by omega) (by simp; omega) (by omega)]
    simp only [Option.some.injEq]
    omega
theorem heldR_eq (k n : Nat) (hl : n ≤ 140737488355328) (hk : n < k) : laws_heldRingS.f k (upsR n 1) 1 = some (1 + 2 * (n : Int)) := by
  unfold laws_heldRingS.f
  exact heldR_at n [] k 1 (by omega) (by omega) (by simp; omega) hk


end
end Go.Proofs.YtlmdoapjcnaflaaDoor.Pure
