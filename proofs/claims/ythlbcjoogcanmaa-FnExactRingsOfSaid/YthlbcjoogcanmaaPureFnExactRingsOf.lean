/- The program's RingsOf and the reference's answer alike for every axis. -/
import Derived.Test.YthlbcjoogcanmaaQ0
import Derived.Test.YthlbcjoogcanmaaQ31
import Derived.Test.YthlbcjoogcanmaaPAxis
namespace Go.Proofs.Ythlbcjoogcanmaa.Pure
open Go.RowKit Go.Proofs.Ythlbcjoogcanmaa.Q Go.Proofs.YthlbcjoogcanmaaW.PrintWords Go.Proofs.YthlbcjoogcanmaaW.PrintLast
set_option linter.unusedVariables false
set_option linter.unusedSimpArgs false

theorem turns_one (x : S116) (a b c d : Int) (pre post : List S116) (hs : pre.length + 1 + post.length ≤ 8) (n : Nat) : ∀ (k : Nat) (ts : List S116) (j : Int), 0 ≤ j → x.f0 - j = n → x.f0 ≤ 60 → ts.length + n ≤ 1000 → n ≤ k →
    ∃ ts' : List S116, ts'.length = ts.length + n ∧ spec_l02Turns.l1 (k + 1) ts pre.length j a b c d (pre ++ x :: post) = spec_l02Turns.l0 (k - n) ts' ((pre ++ [x]).length : Int) a b c d (pre ++ x :: post) := by
  induction n with
  | zero =>
    intro k ts j h0 hn h60 hl hk
    have hlt : (pre.length : Int) < ((pre ++ x :: post).length : Int) := by simp; omega
    have h0' : (0 : Int) ≤ (pre.length : Int) := by omega
    have hj : ¬ (j < x.f0) := by omega
    refine ⟨ts, rfl, ?_⟩
    rw [spec_l02Turns.l1, if_pos h0', if_pos hlt, rd116_at, if_neg hj, w64 (by omega)]
    simp
  | succ n ih =>
    intro k ts j h0 hn h60 hl hk
    obtain ⟨k, rfl⟩ : ∃ m, k = m + 1 := ⟨k - 1, by omega⟩
    have hlt : (pre.length : Int) < ((pre ++ x :: post).length : Int) := by simp; omega
    have h0' : (0 : Int) ≤ (pre.length : Int) := by omega
    have hj : j < x.f0 := by omega
    have hts : ts.length < 5864062014805 := by omega
    obtain ⟨ts', q1, q2⟩ := ih k (ts ++ [(⟨1, x.f1, x.f2⟩ : S116)]) (j + 1) (by omega) (by omega) h60 (by simp; omega) (by omega)
    refine ⟨ts', by rw [q1]; simp; omega, ?_⟩
    rw [spec_l02Turns.l1, if_pos h0', if_pos hlt, rd116_at, if_pos hj, if_pos hts, w64 (x := j + 1) (by omega), q2]
    have e6 : k + 1 - (n + 1) = k - n := by omega
    rw [e6]
theorem turns_all (a b c d : Int) (post : List S116) : ∀ (pre : List S116) (ts : List S116) (k : Nat) (p : S25) (n : Nat) (L : List S25), pre.length + post.length ≤ 8 → ts.length = n → n ≤ 60 → 63 * post.length < k → goAll post p n = some L →
    ∃ ts' : List S116, ts'.length = ts.length + L.length ∧ spec_l02Turns.l0 k ts pre.length a b c d (pre ++ post) = some ts' := by
  induction post with
  | nil =>
    intro pre ts k p n L hl hn h60 hk hg
    obtain ⟨k, rfl⟩ : ∃ m, k = m + 1 := ⟨k - 1, by omega⟩
    have hlt : ¬ ((pre.length : Int) < ((pre ++ []).length : Int)) := by simp
    simp [goAll] at hg
    subst hg
    exact ⟨ts, by simp, by rw [spec_l02Turns.l0, if_neg hlt]⟩
  | cons x post ih =>
    intro pre ts k p n L hl hn h60 hk hg
    simp only [List.length_cons] at hl hk
    obtain ⟨k, rfl⟩ : ∃ m, k = m + 2 := ⟨k - 2, by omega⟩
    have hlt : (pre.length : Int) < ((pre ++ x :: post).length : Int) := by simp; omega
    rw [goAll] at hg
    by_cases hc : (inR 1 60 x.f0 && (turnB x.f1 x.f2 && decide (n + x.f0.toNat ≤ 60))) = true
    · rw [if_pos hc] at hg
      simp only [Bool.and_eq_true, decide_eq_true_eq] at hc
      obtain ⟨c1, c2, c3⟩ := hc
      have b1 := inR_iff c1
      cases hw : walkN x.f0.toNat p x.f1 x.f2 with
      | none => rw [hw] at hg; simp at hg
      | some l =>
        rw [hw] at hg
        simp only [Option.map_eq_some_iff] at hg
        obtain ⟨L', g1, rfl⟩ := hg
        have hll := walkN_len _ _ _ _ _ hw
        obtain ⟨ts1, q1, q2⟩ := turns_one x a b c d pre post (by omega) x.f0.toNat k ts 0 (by omega) (by omega) (by omega) (by omega) (by omega)
        have e3 : pre ++ x :: post = (pre ++ [x]) ++ post := by simp
        obtain ⟨ts2, r1, r2⟩ := ih (pre ++ [x]) ts1 (k - x.f0.toNat) (lastP p l) (n + x.f0.toNat) L' (by simp; omega) (by omega) (by omega) (by omega) g1
        refine ⟨ts2, by rw [r1, q1]; simp; omega, ?_⟩
        rw [spec_l02Turns.l0, if_pos hlt, q2, e3]
        exact r2
    · rw [if_neg hc] at hg; simp at hg
theorem axisP_len (p : S25) (l : List S116) (L : List S25) (h : axisP p l = some L) : ∃ M, L = p :: M ∧ goAll l p 0 = some M ∧ 1 ≤ l.length ∧ l.length ≤ 8 := by
  unfold axisP at h
  by_cases hc : (poseS p && inR 1 8 (l.length : Int)) = true
  · rw [if_pos hc, Option.map_eq_some_iff] at h
    obtain ⟨M, h1, rfl⟩ := h
    have := inR_iff (Bool.and_eq_true_iff.1 hc).2
    exact ⟨M, rfl, h1, by omega, by omega⟩
  · rw [if_neg hc] at h; simp at h
theorem goAll_len (post : List S116) : ∀ (p : S25) (n : Nat) (L : List S25), n ≤ 60 → goAll post p n = some L → L.length + n ≤ 60 := by
  induction post with
  | nil => intro p n L hn h; simp [goAll] at h; subst h; simpa using hn
  | cons x post ih =>
    intro p n L hn hg
    rw [goAll] at hg
    by_cases hc : (inR 1 60 x.f0 && (turnB x.f1 x.f2 && decide (n + x.f0.toNat ≤ 60))) = true
    · rw [if_pos hc] at hg
      simp only [Bool.and_eq_true, decide_eq_true_eq] at hc
      cases hw : walkN x.f0.toNat p x.f1 x.f2 with
      | none => rw [hw] at hg; simp at hg
      | some l =>
        rw [hw] at hg
        simp only [Option.map_eq_some_iff] at hg
        obtain ⟨L', g1, rfl⟩ := hg
        have hll := walkN_len _ _ _ _ _ hw
        have := ih _ _ _ hc.2.2 g1
        simp
        omega
    · rw [if_neg hc] at hg; simp at hg

theorem rings_both (k : Nat) (a b c d : Int) (l : List S116) (hk : 600 ≤ k) (hl : l.length ≤ 2000000) : ∃ r, spec_RingsOf.f k a b c d l = some r ∧ impl_RingsOf.f k a b c d l = some r := by
  unfold spec_RingsOf.f impl_RingsOf.f spec_l02Rings.f spec_l02Turns.f
  rw [saxis_eq k a b c d l hk hl, iaxis_eq k a b c d l hk hl]
  simp only [Option.bind_some]
  cases h : axisP ⟨a, b, c, d⟩ l with
  | none => exact ⟨(0, false), by simp, by simp⟩
  | some L =>
    obtain ⟨M, rfl, hg, h1, h8⟩ := axisP_len _ _ _ h
    have hM := goAll_len _ _ _ _ (by omega) hg
    obtain ⟨ts, q1, q2⟩ := turns_all a b c d l [] [] k ⟨a, b, c, d⟩ 0 M (by simp; omega) rfl (by omega) (by omega) hg
    have q3 : spec_l02Turns.l0 k [] 0 a b c d l = some ts := q2
    refine ⟨((M.length : Int), true), ?_, ?_⟩
    · simp only [Option.isSome_some, if_true, q3, Option.bind_some]
      rw [q1]
      simp
    · simp only [if_true]
      rw [w64 (by simp; omega)]
      simp

theorem FnExactRingsOf (a b c d : Int) (l : List S118) (_ : (Lit.int .i64 a).wf = true) (_ : (Lit.int .i64 b).wf = true) (_ : (Lit.int .i64 c).wf = true) (_ : (Lit.int .i64 d).wf = true)
    (hm : l.length ≤ 9223372036854775807) (_ : ∀ z ∈ l, (Lit.int .i64 z.f0).wf = true ∧ (Lit.int .i64 z.f1).wf = true ∧ (Lit.int .i64 z.f2).wf = true) : ∃ k, laws_FnExactRingsOf.f k a b c d l = some true := by
  refine ⟨l.length + 601, ?_⟩
  unfold laws_FnExactRingsOf.f
  rw [szAxis_eq a b c d l hm]
  simp only [Option.bind_some]
  by_cases h : (l.length : Int) > 1048576
  · rw [if_pos h, if_pos (by omega)]
  · rw [if_neg h, if_neg (by omega), toAxis_eq _ a b c d l (by omega) (by omega)]
    simp only [Option.bind_some]
    obtain ⟨r, r1, r2⟩ := rings_both (l.length + 601) a b c d (l.map curveOf) (by omega) (by simp; omega)
    rw [r1, r2]
    have hbb : (r.2 != r.2) = false := by cases r.2 <;> rfl
    simp only [Option.bind_some, if_true, hbb]
    rw [laws_FnExactRingsOf.j0, if_neg (by simp), toAxis_eq _ a b c d l (by omega) (by omega)]
    simp only [Option.bind_some]
    rw [eqAxis_self _ a b c d (l.map curveOf) (by simp; omega) (by simp)]
    simp

end Go.Proofs.Ythlbcjoogcanmaa.Pure
