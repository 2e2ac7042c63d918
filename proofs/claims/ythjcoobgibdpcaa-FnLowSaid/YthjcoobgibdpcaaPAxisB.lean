/- Plain lemmas by hand: the program's and the reference's walk along an axis. -/
import Derived.Test.YthjcoobgibdpcaaQ0
import Derived.Test.YthjcoobgibdpcaaQ2
import Derived.Test.YthjcoobgibdpcaaQ3
import Derived.Test.YthjcoobgibdpcaaQ4
import Derived.Test.YthjcoobgibdpcaaPBase
namespace Go.Proofs.Ythjcoobgibdpcaa.Pure
open Go.RowKit Go.Proofs.Ythjcoobgibdpcaa.Q Go.Proofs.YthjcoobgibdpcaaW.PrintWords Go.Proofs.YthjcoobgibdpcaaW.PrintLast
set_option linter.unusedVariables false
set_option linter.unusedSimpArgs false

theorem rdC_at (pre : List S66) (p : S66) (post : List S66) : rd_T66 (pre ++ p :: post) (pre.length : Int) = p := by simp [rd_T66]

/-- One ring further. -/
def stepP (p : S25) (u v : Int) : S25 := ⟨wrap64 (p.f0 + p.f2), wrap64 (p.f1 + p.f3), wrap64 (p.f2 + u), wrap64 (p.f3 + v)⟩
def poseS (p : S25) : Bool := poseB p.f0 p.f1 p.f2 p.f3
/-- So many rings further, with all poses on the way valid: the poses. -/
def walkN : Nat → S25 → Int → Int → Option (List S25)
  | 0, _, _, _ => some []
  | n + 1, p, u, v => if poseS (stepP p u v) = true then (walkN n (stepP p u v) u v).map (stepP p u v :: ·) else none
theorem walkN_len : ∀ (n : Nat) (p : S25) (u v : Int) (l : List S25), walkN n p u v = some l → l.length = n := by
  intro n
  induction n with
  | zero => intro p u v l h; simp [walkN] at h; subst h; rfl
  | succ n ih =>
    intro p u v l h
    rw [walkN] at h
    by_cases c : poseS (stepP p u v) = true
    · rw [if_pos c, Option.map_eq_some_iff] at h
      obtain ⟨l', h1, rfl⟩ := h
      simp [ih _ _ _ _ h1]
    · rw [if_neg c] at h; simp at h
/-- The last of some poses, or p where there are none. -/
def lastP : S25 → List S25 → S25
  | p, [] => p
  | _, q :: l => lastP q l
theorem lastP_cons (p q : S25) (l : List S25) : lastP p (q :: l) = lastP q l := rfl
theorem lastP_append (p : S25) (l m : List S25) : lastP p (l ++ m) = lastP (lastP p l) m := by
  induction l generalizing p with
  | nil => rfl
  | cons q l ih => rw [List.cons_append, lastP_cons, lastP_cons, ih]

/-- All curves of an axis: all poses behind the first, or none where it is not valid; c is the number of rings before. -/
def goAll : List S66 → S25 → Nat → Option (List S25)
  | [], _, _ => some []
  | x :: xs, p, c =>
    if (inR 1 60 x.f0 && (turnB x.f1 x.f2 && decide (c + x.f0.toNat ≤ 60))) = true then
      match walkN x.f0.toNat p x.f1 x.f2 with
      | none => none
      | some l => (goAll xs (lastP p l) (c + x.f0.toNat)).map (l ++ ·)
    else none
/-- The poses of an axis. -/
def axisP (p : S25) (l : List S66) : Option (List S25) := if (poseS p && inR 1 8 (l.length : Int)) = true then (goAll l p 0).map (p :: ·) else none

theorem last_at (ys : List S25) : ∀ p : S25, (p :: ys)[ys.length]? = some (lastP p ys) := by
  induction ys with
  | nil => intro p; rfl
  | cons q ys ih => intro p; exact ih q
theorem rd25_last (ys : List S25) (p : S25) : rd_T25 (p :: ys) (((p :: ys).length : Int) - 1) = lastP p ys := by
  have e : ((((p :: ys).length : Int) - 1)).toNat = ys.length := by simp
  unfold rd_T25
  rw [e, List.getD_eq_getElem?_getD, last_at]
  rfl

theorem iwalk (x : S66) (xs : List S66) (n24 i : Int) (n : Nat) : ∀ (k : Nat) (p : S25) (ys : List S25) (j : Int), 0 ≤ j → x.f0 - j = n → x.f0 ≤ 60 → ys.length + n ≤ 1000 → n ≤ k →
    impl_Axis_poses.l1 (k + 1) (p :: ys) xs n24 i x.f0 j x.f0 x.f1 x.f2 =
      match walkN n (lastP p ys) x.f1 x.f2 with
      | some l => impl_Axis_poses.l0 (k - n) (p :: (ys ++ l)) xs n24 (wrap64 (i + 1))
      | none => some ([], false) := by
  induction n with
  | zero =>
    intro k p ys j h0 hn h60 hl hk
    have hlt : ¬ (j < x.f0) := by omega
    rw [impl_Axis_poses.l1, if_neg hlt]
    simp [walkN]
  | succ n ih =>
    intro k p ys j h0 hn h60 hl hk
    obtain ⟨k, rfl⟩ : ∃ m, k = m + 1 := ⟨k - 1, by omega⟩
    have hlt : j < x.f0 := by omega
    have hlen : ((p :: ys).length : Int) = ys.length + 1 := by simp
    have w1 : wrap64 (((p :: ys).length : Int) - 1) = ((p :: ys).length : Int) - 1 := w64 (by omega)
    have c1 : 0 ≤ ((p :: ys).length : Int) - 1 := by omega
    have c2 : ((p :: ys).length : Int) - 1 < ((p :: ys).length : Int) := by omega
    rw [impl_Axis_poses.l1, if_pos hlt]
    simp only [w1, if_pos c1, if_pos c2, rd25_last]
    unfold impl_Pose_next.f
    simp only [Option.bind_some, ipose_eq]
    have e : poseB (wrap64 ((lastP p ys).f0 + (lastP p ys).f2)) (wrap64 ((lastP p ys).f1 + (lastP p ys).f3)) (wrap64 ((lastP p ys).f2 + x.f1)) (wrap64 ((lastP p ys).f3 + x.f2)) = poseS (stepP (lastP p ys) x.f1 x.f2) := rfl
    rw [e, walkN]
    by_cases c : poseS (stepP (lastP p ys) x.f1 x.f2) = true
    · have c3 : (p :: ys).length < 4398046511104 := by simp; omega
      rw [if_pos c, if_pos c3, if_pos c, w64 (x := j + 1) (by omega)]
      have e4 : (p :: ys) ++ [(⟨wrap64 ((lastP p ys).f0 + (lastP p ys).f2), wrap64 ((lastP p ys).f1 + (lastP p ys).f3), wrap64 ((lastP p ys).f2 + x.f1), wrap64 ((lastP p ys).f3 + x.f2)⟩ : S25)] = p :: (ys ++ [stepP (lastP p ys) x.f1 x.f2]) := rfl
      rw [e4, ih k p (ys ++ [stepP (lastP p ys) x.f1 x.f2]) (j + 1) (by omega) (by omega) h60 (by simp; omega) (by omega)]
      have e5 : lastP p (ys ++ [stepP (lastP p ys) x.f1 x.f2]) = stepP (lastP p ys) x.f1 x.f2 := by rw [lastP_append]; rfl
      rw [e5]
      have e6 : k + 1 - (n + 1) = k - n := by omega
      rw [e6]
      cases walkN n (stepP (lastP p ys) x.f1 x.f2) x.f1 x.f2 with
      | none => rfl
      | some l => simp
    · rw [if_neg c, if_neg c]
theorem swalk (x : S66) (a b c d rings i : Int) (xs : List S66) (n : Nat) : ∀ (k : Nat) (p : S25) (j : Int), 0 ≤ j → x.f0 - j = n → x.f0 ≤ 60 → n ≤ k →
    spec_l02Is.l1 (k + 1) rings i j a b c d xs p.f0 p.f1 p.f2 p.f3 x.f0 x.f1 x.f2 =
      match walkN n p x.f1 x.f2 with
      | some l => spec_l02Is.l0 (k - n) rings (wrap64 (i + 1)) a b c d xs (lastP p l).f0 (lastP p l).f1 (lastP p l).f2 (lastP p l).f3
      | none => some false := by
  induction n with
  | zero =>
    intro k p j h0 hn h60 hk
    have hlt : ¬ (j < x.f0) := by omega
    rw [spec_l02Is.l1, if_neg hlt]
    simp [walkN, lastP]
  | succ n ih =>
    intro k p j h0 hn h60 hk
    obtain ⟨k, rfl⟩ : ∃ m, k = m + 1 := ⟨k - 1, by omega⟩
    have hlt : j < x.f0 := by omega
    rw [spec_l02Is.l1, if_pos hlt]
    unfold spec_l02Next.f
    simp only [Option.bind_some, spose_eq]
    have e : poseB (wrap64 (p.f0 + p.f2)) (wrap64 (p.f1 + p.f3)) (wrap64 (p.f2 + x.f1)) (wrap64 (p.f3 + x.f2)) = poseS (stepP p x.f1 x.f2) := rfl
    rw [e, walkN]
    by_cases hc : poseS (stepP p x.f1 x.f2) = true
    · rw [if_pos hc, if_pos hc, w64 (x := j + 1) (by omega)]
      have := ih k (stepP p x.f1 x.f2) (j + 1) (by omega) (by omega) h60 (by omega)
      refine Eq.trans this ?_
      have e6 : k + 1 - (n + 1) = k - n := by omega
      rw [e6]
      cases walkN n (stepP p x.f1 x.f2) x.f1 x.f2 with
      | none => rfl
      | some l => simp [lastP_cons]
    · rw [if_neg hc, if_neg hc]

theorem iall (post : List S66) : ∀ (pre : List S66) (ys : List S25) (k : Nat) (p : S25), pre.length + post.length ≤ 8 → ys.length ≤ 60 → 63 * post.length < k →
    impl_Axis_poses.l0 k (p :: ys) (pre ++ post) ((pre ++ post).length : Int) pre.length =
      match goAll post (lastP p ys) ys.length with
      | some l => some (p :: (ys ++ l), true)
      | none => some ([], false) := by
  induction post with
  | nil =>
    intro pre ys k p hl hy hk
    obtain ⟨k, rfl⟩ : ∃ m, k = m + 1 := ⟨k - 1, by omega⟩
    have hn : ¬ ((pre.length : Int) < ((pre ++ []).length : Int)) := by simp
    rw [impl_Axis_poses.l0, if_neg hn]
    simp [goAll]
  | cons x post ih =>
    intro pre ys k p hl hy hk
    simp only [List.length_cons] at hl hk
    obtain ⟨k, rfl⟩ : ∃ m, k = m + 3 := ⟨k - 3, by omega⟩
    have hlt : (pre.length : Int) < ((pre ++ x :: post).length : Int) := by simp; omega
    have h0' : (0 : Int) ≤ (pre.length : Int) := by omega
    rw [impl_Axis_poses.l0, if_pos hlt, if_pos h0', if_pos hlt, rdC_at, goAll]
    simp only [within_eq, iturn_eq, Option.bind_some]
    have hlen : ((p :: ys).length : Int) = ys.length + 1 := by simp
    cases c1 : inR 1 60 x.f0 with
    | false =>
      simp only [Bool.false_eq_true, if_false, Bool.false_and]
      rw [impl_Axis_poses.j2, if_pos rfl]
    | true =>
      have b1 := inR_iff c1
      cases c2 : turnB x.f1 x.f2 with
      | false =>
        simp only [Bool.false_eq_true, if_false, if_true, Bool.false_and, Bool.and_false]
        rw [impl_Axis_poses.j2, if_pos rfl]
      | true =>
        simp only [if_true, Bool.true_and]
        rw [hlen, w64 (x := (ys.length : Int) + 1 + x.f0) (by omega), impl_Axis_poses.j2]
        by_cases c3 : ys.length + x.f0.toNat ≤ 60
        · have hn : ¬ ((ys.length : Int) + 1 + x.f0 > 61) := by omega
          rw [decide_eq_false hn, if_neg (by simp), decide_eq_true c3, if_pos rfl]
          rw [iwalk x (pre ++ x :: post) _ _ x.f0.toNat k p ys 0 (by omega) (by omega) (by omega) (by omega) (by omega)]
          cases hw : walkN x.f0.toNat (lastP p ys) x.f1 x.f2 with
          | none => rfl
          | some l =>
            have hll := walkN_len _ _ _ _ _ hw
            have e2 : wrap64 ((pre.length : Int) + 1) = ((pre ++ [x]).length : Int) := by rw [w64 (by omega)]; simp
            have e3 : pre ++ x :: post = (pre ++ [x]) ++ post := by simp
            simp only []
            rw [e2, e3, ih (pre ++ [x]) (ys ++ l) (k - x.f0.toNat) p (by simp; omega) (by simp; omega) (by omega), lastP_append]
            have e4 : (ys ++ l).length = ys.length + x.f0.toNat := by simp [hll]
            rw [e4]
            cases goAll post (lastP (lastP p ys) l) (ys.length + x.f0.toNat) with
            | none => rfl
            | some m => simp
        · have hn : ((ys.length : Int) + 1 + x.f0 > 61) := by omega
          rw [decide_eq_true hn, if_pos rfl, decide_eq_false c3, if_neg (by simp)]
theorem sall (a b c d : Int) (post : List S66) : ∀ (pre : List S66) (n : Nat) (k : Nat) (p : S25), pre.length + post.length ≤ 8 → n ≤ 60 → 63 * post.length < k →
    spec_l02Is.l0 k (n : Int) pre.length a b c d (pre ++ post) p.f0 p.f1 p.f2 p.f3 = some (goAll post p n).isSome := by
  induction post with
  | nil =>
    intro pre n k p hl hy hk
    obtain ⟨k, rfl⟩ : ∃ m, k = m + 1 := ⟨k - 1, by omega⟩
    have hn : ¬ ((pre.length : Int) < ((pre ++ []).length : Int)) := by simp
    rw [spec_l02Is.l0, if_neg hn]
    simp [goAll]
  | cons x post ih =>
    intro pre n k p hl hy hk
    simp only [List.length_cons] at hl hk
    obtain ⟨k, rfl⟩ : ∃ m, k = m + 3 := ⟨k - 3, by omega⟩
    have hlt : (pre.length : Int) < ((pre ++ x :: post).length : Int) := by simp; omega
    have h0' : (0 : Int) ≤ (pre.length : Int) := by omega
    rw [spec_l02Is.l0, if_pos hlt, if_pos h0', rdC_at, goAll]
    simp only [in_eq, sturn_eq, Option.bind_some]
    rw [w64 (x := 60 - (n : Int)) (by omega)]
    by_cases c1 : inR 1 60 x.f0 = true ∧ n + x.f0.toNat ≤ 60
    · obtain ⟨c1, c3⟩ := c1
      have b1 := inR_iff c1
      have c1' : inR 1 (60 - (n : Int)) x.f0 = true := by simp [inR]; omega
      rw [if_pos c1', c1]
      cases c2 : turnB x.f1 x.f2 with
      | false =>
        simp only [Bool.false_eq_true, if_false, Bool.false_and, Bool.and_false, Bool.not_false]
        rw [spec_l02Is.j2, if_pos rfl]
        rfl
      | true =>
        rw [decide_eq_true c3]
        simp only [Bool.and_true, if_true, Bool.not_true]
        rw [spec_l02Is.j2, if_neg (by simp), w64 (x := (n : Int) + x.f0) (by omega), swalk x a b c d _ _ _ x.f0.toNat k p 0 (by omega) (by omega) (by omega) (by omega)]
        cases hw : walkN x.f0.toNat p x.f1 x.f2 with
        | none => rfl
        | some l =>
          have e2 : wrap64 ((pre.length : Int) + 1) = ((pre ++ [x]).length : Int) := by rw [w64 (by omega)]; simp
          have e3 : pre ++ x :: post = (pre ++ [x]) ++ post := by simp
          have e4 : (n : Int) + x.f0 = ((n + x.f0.toNat : Nat) : Int) := by omega
          simp only []
          rw [e2, e3, e4, ih (pre ++ [x]) (n + x.f0.toNat) (k - x.f0.toNat) (lastP p l) (by simp; omega) (by omega) (by omega)]
          cases goAll post (lastP p l) (n + x.f0.toNat) with
          | none => rfl
          | some m => rfl
    · have c1' : ¬ (inR 1 (60 - (n : Int)) x.f0 = true) := by
        intro h
        have := inR_iff h
        exact c1 ⟨by simp [inR]; omega, by omega⟩
      have c4 : (inR 1 60 x.f0 && (turnB x.f1 x.f2 && decide (n + x.f0.toNat ≤ 60))) = false := by
        cases h1 : inR 1 60 x.f0 with
        | false => rfl
        | true =>
          have : ¬ (n + x.f0.toNat ≤ 60) := fun h => c1 ⟨h1, h⟩
          rw [decide_eq_false this, Bool.and_false, Bool.and_false]
      rw [if_neg c1', c4, if_neg (by simp), spec_l02Is.j2, if_pos rfl]
      rfl

theorem iaxis_eq (k : Nat) (a b c d : Int) (l : List S66) (hk : 600 ≤ k) (hl : l.length ≤ 2000000) : impl_Axis_poses.f k a b c d l = some (match axisP ⟨a, b, c, d⟩ l with | some L => (L, true) | none => ([], false)) := by
  unfold impl_Axis_poses.f axisP
  obtain ⟨k, rfl⟩ : ∃ m, k = m + 1 := ⟨k - 1, by omega⟩
  simp only [Option.bind_some, ipose_eq, within_eq]
  have e : poseS ⟨a, b, c, d⟩ = poseB a b c d := rfl
  rw [e]
  cases h1 : poseB a b c d with
  | false => simp [impl_Axis_poses.j0]
  | true =>
    cases h2 : inR 1 8 (l.length : Int) with
    | false => simp [impl_Axis_poses.j0]
    | true =>
      have := inR_iff h2
      simp only [if_true, Bool.and_self, Bool.not_true]
      rw [impl_Axis_poses.j0, if_neg (by simp)]
      have hh := iall l [] [] k ⟨a, b, c, d⟩ (by simp; omega) (by simp) (by omega)
      refine Eq.trans hh ?_
      have e5 : lastP (⟨a, b, c, d⟩ : S25) [] = ⟨a, b, c, d⟩ := rfl
      rw [e5]
      show (match goAll l ⟨a, b, c, d⟩ 0 with | some l => some (_, true) | none => some ([], false)) = _
      cases goAll l ⟨a, b, c, d⟩ 0 with
      | none => rfl
      | some m => rfl
theorem saxis_eq (k : Nat) (a b c d : Int) (l : List S66) (hk : 600 ≤ k) (hl : l.length ≤ 2000000) : spec_l02Is.f k a b c d l = some (axisP ⟨a, b, c, d⟩ l).isSome := by
  unfold spec_l02Is.f axisP
  obtain ⟨k, rfl⟩ : ∃ m, k = m + 1 := ⟨k - 1, by omega⟩
  simp only [Option.bind_some, spose_eq, in_eq]
  have e : poseS ⟨a, b, c, d⟩ = poseB a b c d := rfl
  rw [e]
  cases h1 : poseB a b c d with
  | false => simp [spec_l02Is.j0]
  | true =>
    cases h2 : inR 1 8 (l.length : Int) with
    | false => simp [spec_l02Is.j0]
    | true =>
      have := inR_iff h2
      simp only [if_true, Bool.and_self, Bool.not_true]
      rw [spec_l02Is.j0, if_neg (by simp)]
      have hh := sall a b c d l [] 0 k ⟨a, b, c, d⟩ (by simp; omega) (by omega) (by omega)
      refine Eq.trans hh ?_
      cases goAll l ⟨a, b, c, d⟩ 0 with
      | none => rfl
      | some m => rfl

end Go.Proofs.Ythjcoobgibdpcaa.Pure
