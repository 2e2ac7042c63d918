/- The low points of a drawn axis: each is not above its neighbours, and between two neighbouring ones some pose is higher than both. -/
import Derived.Test.YthjcoobgibdpcaaQ0
import Derived.Test.YthjcoobgibdpcaaQ2
import Derived.Test.YthjcoobgibdpcaaQ3
import Derived.Test.YthjcoobgibdpcaaQ4
import Derived.Test.YthjcoobgibdpcaaQ5
import Derived.Test.YthjcoobgibdpcaaPAxisB
import Derived.Test.YthjcoobgibdpcaaPDrawA
namespace Go.Proofs.Ythjcoobgibdpcaa.Pure
open Go.RowKit Go.Proofs.Ythjcoobgibdpcaa.Q Go.Proofs.YthjcoobgibdpcaaW.PrintWords Go.Proofs.YthjcoobgibdpcaaW.PrintLast
set_option linter.unusedVariables false
set_option linter.unusedSimpArgs false

abbrev Cv := S66
abbrev Ps := S25

/-! ### the drawn axis is valid -/
def GoodC (x : Cv) : Prop := (1 ≤ x.f0 ∧ x.f0 ≤ 5) ∧ (-12 ≤ x.f1 ∧ x.f1 ≤ 12) ∧ (-2 ≤ x.f2 ∧ x.f2 ≤ 2)
def yawB : List Cv → Nat
  | [] => 0
  | x :: l => x.f0.toNat * x.f1.natAbs + yawB l
theorem yawB_snoc (l : List Cv) (x : Cv) : yawB (l ++ [x]) = yawB l + x.f0.toNat * x.f1.natAbs := by
  induction l with
  | nil => simp [yawB]
  | cons y l ih => simp only [List.cons_append, yawB, ih]; omega

theorem poseS_ok (p : Ps) (h0 : p.f0.natAbs ≤ 100000) (h1 : p.f1.natAbs ≤ 100000) (h2 : p.f2.natAbs ≤ 400) (h3 : p.f3.natAbs ≤ 400) : poseS p = true := by
  unfold poseS poseB inR
  simp only [Bool.and_eq_true, decide_eq_true_eq]
  omega

theorem le4 {a b c d e : Nat} (h1 : a ≤ b + c) (h2 : b + (d + c) ≤ e) : a + d ≤ e := by omega
theorem le5 {a b c n e : Nat} (h1 : a ≤ b + c) (h2 : c ≤ 400) (h3 : b + 400 * (n + 1) ≤ e) : a + 400 * n ≤ e := by omega
theorem le6 {l a b c d : Nat} (h : l ≤ a + d) (h1 : a ≤ b + c) : l ≤ b + (d + c) := by omega
theorem le7 {l a b c n : Nat} (h : l ≤ a + 400 * n) (h1 : a ≤ b + c) (h2 : c ≤ 400) : l ≤ b + 400 * (n + 1) := by omega
theorem le8 {a b c d e : Nat} (h1 : a ≤ b + c) (h2 : b + (d + c) ≤ e) : a ≤ e := by omega
theorem le9 {a b c n e : Nat} (h1 : a ≤ b + c) (h2 : c ≤ 400) (h3 : b + 400 * (n + 1) ≤ e) : a ≤ e := by omega
theorem le1 {b d e : Nat} (h2 : b + d ≤ e) : b ≤ e := by omega

theorem walkN_ok (u v : Int) (hu : u.natAbs ≤ 12) (hv : v.natAbs ≤ 12) : ∀ (n : Nat) (p : Ps), p.f2.natAbs + n * u.natAbs ≤ 400 → p.f3.natAbs + n * v.natAbs ≤ 400 → p.f0.natAbs + 400 * n ≤ 100000 → p.f1.natAbs + 400 * n ≤ 100000 →
    ∃ l, walkN n p u v = some l ∧ (lastP p l).f2.natAbs ≤ p.f2.natAbs + n * u.natAbs ∧ (lastP p l).f3.natAbs ≤ p.f3.natAbs + n * v.natAbs ∧ (lastP p l).f0.natAbs ≤ p.f0.natAbs + 400 * n ∧ (lastP p l).f1.natAbs ≤ p.f1.natAbs + 400 * n := by
  intro n
  induction n with
  | zero => intro p h2 h3 h0 h1; exact ⟨[], rfl, by simp [lastP], by simp [lastP], by simp [lastP], by simp [lastP]⟩
  | succ n ih =>
    intro p h2 h3 h0 h1
    rw [Nat.succ_mul] at h2 h3
    have b0 := le1 h0
    have b1 := le1 h1
    have b2 := le1 h2
    have b3 := le1 h3
    have k0 : (stepP p u v).f0.natAbs ≤ p.f0.natAbs + p.f2.natAbs := by
      have e : (stepP p u v).f0 = p.f0 + p.f2 := by unfold stepP; exact w64 (by clear h0 h1 h2 h3; omega)
      rw [e]; exact Int.natAbs_add_le _ _
    have k1 : (stepP p u v).f1.natAbs ≤ p.f1.natAbs + p.f3.natAbs := by
      have e : (stepP p u v).f1 = p.f1 + p.f3 := by unfold stepP; exact w64 (by clear h0 h1 h2 h3; omega)
      rw [e]; exact Int.natAbs_add_le _ _
    have k2 : (stepP p u v).f2.natAbs ≤ p.f2.natAbs + u.natAbs := by
      have e : (stepP p u v).f2 = p.f2 + u := by unfold stepP; exact w64 (by clear h0 h1 h2 h3; omega)
      rw [e]; exact Int.natAbs_add_le _ _
    have k3 : (stepP p u v).f3.natAbs ≤ p.f3.natAbs + v.natAbs := by
      have e : (stepP p u v).f3 = p.f3 + v := by unfold stepP; exact w64 (by clear h0 h1 h2 h3; omega)
      rw [e]; exact Int.natAbs_add_le _ _
    obtain ⟨l, hl, a, b, c, d⟩ := ih (stepP p u v) (le4 k2 h2) (le4 k3 h3) (le5 k0 b2 h0) (le5 k1 b3 h1)
    have hp : poseS (stepP p u v) = true := poseS_ok _ (le9 k0 b2 h0) (le9 k1 b3 h1) (le8 k2 h2) (le8 k3 h3)
    refine ⟨stepP p u v :: l, ?_, ?_⟩
    · rw [walkN, if_pos hp, hl]; rfl
    · rw [lastP_cons, Nat.succ_mul, Nat.succ_mul]
      exact ⟨le6 a k2, le6 b k3, le7 c k0 b2, le7 d k1 b3⟩

theorem goAll_ok : ∀ (l : List Cv) (p : Ps) (c : Nat), (∀ x ∈ l, GoodC x) → p.f2.natAbs + yawB l ≤ 400 → p.f3.natAbs + 10 * l.length ≤ 400 → p.f0.natAbs + 2000 * l.length ≤ 100000 → p.f1.natAbs + 2000 * l.length ≤ 100000 → c + 5 * l.length ≤ 60 →
    ∃ m, goAll l p c = some m := by
  intro l
  induction l with
  | nil => intro p c _ _ _ _ _ _; exact ⟨[], rfl⟩
  | cons x l ih =>
    intro p c hg h2 h3 h0 h1 hc
    obtain ⟨⟨g1, g2⟩, ⟨g3, g4⟩, ⟨g5, g6⟩⟩ := hg x (by simp)
    simp only [List.length_cons, yawB] at h2 h3 h0 h1 hc
    have hv : x.f0.toNat * x.f2.natAbs ≤ 10 := Nat.le_trans (Nat.mul_le_mul (show x.f0.toNat ≤ 5 by omega) (show x.f2.natAbs ≤ 2 by omega)) (by decide)
    obtain ⟨m, hm, a, b, d, e⟩ := walkN_ok x.f1 x.f2 (by omega) (by omega) x.f0.toNat p (by omega) (by omega) (by omega) (by omega)
    obtain ⟨q, hq⟩ := ih (lastP p m) (c + x.f0.toNat) (fun y hy => hg y (by simp [hy])) (by omega) (by omega) (by omega) (by omega) (by omega)
    have hc1 : (inR 1 60 x.f0 && (turnB x.f1 x.f2 && decide (c + x.f0.toNat ≤ 60))) = true := by
      unfold inR turnB inR
      simp only [Bool.and_eq_true, decide_eq_true_eq]
      omega
    refine ⟨m ++ q, ?_⟩
    rw [goAll, if_pos hc1, hm]
    simp only [hq, Option.map_some]

theorem axis_zero (l : List Cv) (hg : ∀ x ∈ l, GoodC x) (h1 : 1 ≤ l.length) (h8 : l.length ≤ 8) (hy : yawB l ≤ 300 + 2 * l.length) : ∃ L, axisP ⟨0, 0, 0, 0⟩ l = some L := by
  obtain ⟨m, hm⟩ := goAll_ok l ⟨0, 0, 0, 0⟩ 0 hg (by simp; omega) (by simp; omega) (by simp; omega) (by simp; omega) (by omega)
  have hc : (poseS (⟨0, 0, 0, 0⟩ : Ps) && inR 1 8 (l.length : Int)) = true := by
    rw [poseS_ok _ (by simp) (by simp) (by simp) (by simp)]
    unfold inR
    simp only [Bool.true_and, Bool.and_eq_true, decide_eq_true_eq]
    omega
  exact ⟨_, by unfold axisP; rw [if_pos hc, hm]; rfl⟩

abbrev R7 := Int × Int × Int × Int × List Cv × Int × Int
def okA (r : R7) : Prop := ∃ L, axisP ⟨r.1, r.2.1, r.2.2.1, r.2.2.2.1⟩ r.2.2.2.2.1 = some L

theorem draw_fin (k : Nat) (hk : 600 ≤ k) (a0 a1 a2 a3 x y : Int) (l : List Cv) (hg : ∀ x ∈ l, GoodC x) (h1 : 1 ≤ l.length) (h8 : l.length ≤ 8) (hy : yawB l ≤ 300 + 2 * l.length) :
    Ends ((spec_l02Is.f k a0 a1 a2 a3 l).bind fun t => (if t = true then (some (a0, a1, a2, a3, l, x, y)) else (some (0, 0, 0, 0, l, x, y)))) okA := by
  rw [saxis_eq k a0 a1 a2 a3 l hk (by omega), Option.bind_some]
  cases h : axisP ⟨a0, a1, a2, a3⟩ l with
  | some L => exact ⟨_, rfl, L, h⟩
  | none => exact ⟨_, rfl, axis_zero l hg h1 h8 hy⟩

theorem draw_more {s : List Int} (a0 a1 a2 a3 x y : Int) : ∀ (d : Nat) (k : Nat) (l : List Cv), l.length + d = 8 → 601 + d ≤ k → (∀ x ∈ l, GoodC x) → 1 ≤ l.length → yawB l ≤ 300 + 2 * l.length →
    Ends (spec_l02DrawOk.l1 k s x y a0 a1 a2 a3 l) okA := by
  intro d
  induction d with
  | zero =>
    intro k l hl hk hg h1 hy
    obtain ⟨k, rfl⟩ : ∃ m, k = m + 1 := ⟨k - 1, by omega⟩
    rw [spec_l02DrawOk.l1, if_neg (by omega)]
    exact draw_fin k (by omega) _ _ _ _ _ _ l hg h1 (by omega) hy
  | succ d ih =>
    intro k l hl hk hg h1 hy
    obtain ⟨k, rfl⟩ : ∃ m, k = m + 1 := ⟨k - 1, by omega⟩
    rw [spec_l02DrawOk.l1, if_pos (by omega), if_pos (by omega)]
    refine ih k _ (by simp; omega) (by omega) ?_ (by simp) ?_
    · intro z hz
      rcases List.mem_append.1 hz with hz | hz
      · exact hg z hz
      · simp only [List.mem_singleton] at hz
        subst hz
        exact ⟨⟨by show (1 : Int) ≤ 1; omega, by show (1 : Int) ≤ 5; omega⟩, ⟨by show (-12 : Int) ≤ (l.length : Int) % 3; omega, by show (l.length : Int) % 3 ≤ 12; omega⟩, ⟨by show (-2 : Int) ≤ 0; omega, by show (0 : Int) ≤ 2; omega⟩⟩
    · rw [yawB_snoc]
      have : (1 : Int).toNat * ((l.length : Int) % 3).natAbs ≤ 2 := by
        have e : (1 : Int).toNat = 1 := rfl
        rw [e, Nat.one_mul]; omega
      simp only [List.length_append, List.length_cons, List.length_nil]
      show yawB l + (1 : Int).toNat * ((l.length : Int) % 3).natAbs ≤ _
      omega

theorem draw_loop {s : List Int} (hs : Bytes s) (a0 a1 a2 a3 : Int) : ∀ (d : Nat) (k : Nat) (n b seed : Int) (l : List Cv), n = d → l.length + d ≤ 5 → 1 ≤ l.length + d → 620 + d ≤ k → (∀ x ∈ l, GoodC x) → yawB l ≤ 60 * l.length → 0 ≤ b → b + 20 * d ≤ 10000000 →
    Ends (spec_l02DrawOk.l0 k n s b seed a0 a1 a2 a3 l) okA := by
  intro d
  induction d with
  | zero =>
    intro k n b seed l hn hl h1 hk hg hy hb0 hb1
    obtain ⟨k, rfl⟩ : ∃ m, k = m + 1 := ⟨k - 1, by omega⟩
    rw [spec_l02DrawOk.l0, if_neg (by omega)]
    refine Ends.bind (one_ends hs _ _ _ hb0 (by omega) (by omega) (by omega)) fun r g => ?_
    refine Ends.ite (fun c => ?_) (fun c => ?_)
    · exact draw_more a0 a1 a2 a3 _ _ (8 - l.length) k l (by omega) (by omega) hg (by omega) (by omega)
    · exact draw_fin k (by omega) _ _ _ _ _ _ l hg (by omega) (by omega) (by omega)
  | succ d ih =>
    intro k n b seed l hn hl h1 hk hg hy hb0 hb1
    obtain ⟨k, rfl⟩ : ∃ m, k = m + 1 := ⟨k - 1, by omega⟩
    have hadd : ∀ x : Cv, GoodC x → (∀ z ∈ l ++ [x], GoodC z) ∧ yawB (l ++ [x]) ≤ 60 * (l ++ [x]).length := by
      intro x hx
      refine ⟨?_, ?_⟩
      · intro z hz
        rcases List.mem_append.1 hz with hz | hz
        · exact hg z hz
        · simp only [List.mem_singleton] at hz
          exact hz ▸ hx
      · rw [yawB_snoc]
        obtain ⟨⟨q1, q2⟩, ⟨q3, q4⟩, _⟩ := hx
        have : x.f0.toNat * x.f1.natAbs ≤ 60 := Nat.le_trans (Nat.mul_le_mul (show x.f0.toNat ≤ 5 by omega) (show x.f1.natAbs ≤ 12 by omega)) (by decide)
        simp only [List.length_append, List.length_cons, List.length_nil]
        omega
    rw [spec_l02DrawOk.l0, if_pos (by omega), w64 (x := n - 1) (by omega)]
    refine Ends.bind (pick_ends hs _ _ _ hb0 (by omega) (by omega) (by omega)) fun r1 g1 => ?_
    refine Ends.bind (pick_ends hs _ _ _ (by omega) (by omega) (by omega) (by omega)) fun r2 g2 => ?_
    refine Ends.bind (pick_ends hs _ _ _ (by omega) (by omega) (by omega) (by omega)) fun r3 g3 => ?_
    refine Ends.bind (one_ends hs _ _ _ (by omega) (by omega) (by omega) (by omega)) fun r4 g4 => ?_
    rw [w64 (x := 1 + r1.1) (by omega), w64 (x := r2.1 - 2) (by omega), w64 (x := r3.1 - 2) (by omega)]
    refine Ends.ite (fun c => ?_) (fun c => ?_)
    · have hin : Ends (spec_l00Src_among.f s r4.2.1 r4.2.2 ([-12, 12] : List Int)) fun r => (-12 ≤ r.1 ∧ r.1 ≤ 12) ∧ r4.2.1 ≤ r.2.1 ∧ r.2.1 ≤ r4.2.1 + 2 := by
        unfold spec_l00Src_among.f
        refine Ends.bind (pick_ends hs _ _ _ (by omega) (by omega) (by simp) (by simp)) fun r hr => ?_
        have hl2 : ((([-12, 12] : List Int)).length : Int) = 2 := rfl
        rw [if_pos hr.1.1, if_pos hr.1.2]
        refine Ends.some ⟨?_, hr.2⟩
        have h01 : r.1 = 0 ∨ r.1 = 1 := by have := hr.1; omega
        show -12 ≤ rd [-12, 12] r.1 ∧ rd [-12, 12] r.1 ≤ 12
        rcases h01 with h | h <;> rw [h] <;> exact ⟨by decide, by decide⟩
      refine Ends.bind hin fun r5 g5 => ?_
      rw [if_pos (by omega)]
      have ha := hadd ⟨1 + r1.1, r5.1, r3.1 - 2⟩ ⟨⟨by show 1 ≤ 1 + r1.1; omega, by show 1 + r1.1 ≤ 5; omega⟩, g5.1, ⟨by show -2 ≤ r3.1 - 2; omega, by show r3.1 - 2 ≤ 2; omega⟩⟩
      exact ih k (n - 1) _ _ _ (by omega) (by simp; omega) (by simp; omega) (by omega) ha.1 ha.2 (by omega) (by omega)
    · rw [if_pos (by omega)]
      have ha := hadd ⟨1 + r1.1, r2.1 - 2, r3.1 - 2⟩ ⟨⟨by show 1 ≤ 1 + r1.1; omega, by show 1 + r1.1 ≤ 5; omega⟩, ⟨by show -12 ≤ r2.1 - 2; omega, by show r2.1 - 2 ≤ 12; omega⟩, ⟨by show -2 ≤ r3.1 - 2; omega, by show r3.1 - 2 ≤ 2; omega⟩⟩
      exact ih k (n - 1) _ _ _ (by omega) (by simp; omega) (by simp; omega) (by omega) ha.1 ha.2 (by omega) (by omega)

theorem axis_drawn {s : List Int} (hs : Bytes s) (k : Nat) (hk : 630 ≤ k) : ∃ a b c d l L, spec_R8Axis.f k s = some (a, b, c, d, l) ∧ axisP ⟨a, b, c, d⟩ l = some L ∧ l.length ≤ 8 := by
  have h : Ends (spec_l02DrawOk.f k s 0 0) okA := by
    unfold spec_l02DrawOk.f
    obtain ⟨k1, rfl⟩ : ∃ m, k = m + 1 := ⟨k - 1, by omega⟩
    refine Ends.bind (pose_ends hs k1 0 0 (by omega) (by omega)) fun r1 g1 => ?_
    refine Ends.bind (pick_ends hs _ _ _ (by omega) (by omega) (by omega) (by omega)) fun r2 g2 => ?_
    rw [w64 (x := 1 + r2.1) (by omega)]
    exact draw_loop hs _ _ _ _ (1 + r2.1).toNat (k1 + 1) (1 + r2.1) _ _ [] (by omega) (by simp; omega) (by simp; omega) (by omega) (by simp) (by simp [yawB]) (by omega) (by omega)
  obtain ⟨r, e, L, hL⟩ := h
  refine ⟨r.1, r.2.1, r.2.2.1, r.2.2.2.1, r.2.2.2.2.1, L, ?_, hL, ?_⟩
  · unfold spec_R8Axis.f spec_l00From.f
    simp only [Option.bind_some, e]
  · unfold axisP at hL
    by_cases c : (poseS (⟨r.1, r.2.1, r.2.2.1, r.2.2.2.1⟩ : Ps) && inR 1 8 (r.2.2.2.2.1.length : Int)) = true
    · have := inR_iff (Bool.and_eq_true_iff.1 c).2
      omega
    · rw [if_neg c] at hL; cases hL

theorem goAll_len : ∀ (l : List Cv) (p : Ps) (c : Nat) (m : List Ps), goAll l p c = some m → c ≤ 60 → c + m.length ≤ 60 ∧ (1 ≤ l.length → 1 ≤ m.length) := by
  intro l
  induction l with
  | nil => intro p c m h hc; simp only [goAll, Option.some.injEq] at h; subst h; exact ⟨by simp; omega, by simp⟩
  | cons x l ih =>
    intro p c m h hc
    rw [goAll] at h
    by_cases c1 : (inR 1 60 x.f0 && (turnB x.f1 x.f2 && decide (c + x.f0.toNat ≤ 60))) = true
    · rw [if_pos c1] at h
      simp only [Bool.and_eq_true, decide_eq_true_eq] at c1
      have b := inR_iff c1.1
      cases hw : walkN x.f0.toNat p x.f1 x.f2 with
      | none => rw [hw] at h; simp at h
      | some w =>
        rw [hw] at h
        simp only [Option.map_eq_some_iff] at h
        obtain ⟨q, hq, rfl⟩ := h
        have hl := walkN_len _ _ _ _ _ hw
        have := ih _ _ q hq c1.2.2
        rw [List.length_append]
        omega
    · rw [if_neg c1] at h; cases h

theorem axis_len {p : Ps} {l : List Cv} {L : List Ps} (h : axisP p l = some L) : 2 ≤ L.length ∧ L.length ≤ 61 := by
  unfold axisP at h
  by_cases c : (poseS p && inR 1 8 (l.length : Int)) = true
  · rw [if_pos c, Option.map_eq_some_iff] at h
    obtain ⟨m, hm, rfl⟩ := h
    have b := inR_iff (Bool.and_eq_true_iff.1 c).2
    have := goAll_len l p 0 m hm (by omega)
    simp only [List.length_cons]
    omega
  · rw [if_neg c] at h; cases h

/-! ### the low points -/
def hh (x : List Ps) (i : Int) : Int := (rd_T25 x i).f1
def LowOK (x : List Ps) (l : List Int) : Prop := ∀ i : Int, 0 ≤ i → i < (l.length : Int) →
  1 ≤ rd l i ∧ rd l i ≤ (x.length : Int) - 2 ∧ hh x (rd l i - 1) > hh x (rd l i) ∧ ¬ (hh x (rd l i + 1) < hh x (rd l i)) ∧
    (0 < i → rd l (i - 1) < rd l i ∧ 0 ≤ rd l (i - 1) ∧ ∃ m, rd l (i - 1) ≤ m ∧ m < rd l i ∧ hh x m > hh x (rd l i) ∧ hh x m > hh x (rd l (i - 1)))
theorem rd_left (l : List Int) (k i : Int) (h0 : 0 ≤ i) (h : i < (l.length : Int)) : rd (l ++ [k]) i = rd l i := by
  unfold rd
  rw [List.getD_eq_getElem?_getD, List.getD_eq_getElem?_getD, List.getElem?_append_left (by omega)]
theorem rd_last (l : List Int) (k : Int) : rd (l ++ [k]) (l.length : Int) = k := by simp [rd]

def InvL (x : List Ps) (l : List Int) (f : Int) : Prop :=
  LowOK x l ∧ (0 < l.length → rd l ((l.length : Int) - 1) < f ∧ ∃ m, rd l ((l.length : Int) - 1) < m ∧ m ≤ f ∧ hh x m > hh x (rd l ((l.length : Int) - 1)))

theorem inv_push (x : List Ps) (l : List Int) (f tt : Int) (h : InvL x l f) (h0 : 0 < f) (hto : f < tt) (hlen : tt < (x.length : Int)) (hpl : ∀ j, f ≤ j → j < tt → hh x j = hh x f) (h1 : hh x (f - 1) > hh x f) (h2 : hh x tt > hh x f) : InvL x (l ++ [f]) tt := by
  have hlast : rd (l ++ [f]) (((l ++ [f]).length : Int) - 1) = f := by
    have e : ((l ++ [f]).length : Int) - 1 = (l.length : Int) := by simp
    rw [e]; exact rd_last l f
  refine ⟨?_, fun _ => ⟨by rw [hlast]; exact hto, tt, by rw [hlast]; exact hto, Int.le_refl _, by rw [hlast]; exact h2⟩⟩
  intro i i0 i1
  have hi1 : i < (l.length : Int) + 1 := by simpa using i1
  by_cases c : i < (l.length : Int)
  · rw [rd_left l f i i0 c]
    obtain ⟨a, b, d, e, g⟩ := h.1 i i0 c
    refine ⟨a, b, d, e, fun hi => ?_⟩
    rw [rd_left l f (i - 1) (by omega) (by omega)]
    exact g hi
  · have e : i = (l.length : Int) := by omega
    subst e
    rw [rd_last]
    refine ⟨by omega, by omega, h1, ?_, fun hi => ?_⟩
    · by_cases c1 : f + 1 < tt
      · rw [hpl (f + 1) (by omega) c1]; omega
      · have : f + 1 = tt := by omega
        rw [this]; omega
    · have hne : 0 < l.length := by omega
      obtain ⟨q1, m, m0, m1, m2⟩ := h.2 hne
      have hl := h.1 ((l.length : Int) - 1) (by omega) (by omega)
      rw [rd_left l f ((l.length : Int) - 1) (by omega) (by omega)]
      refine ⟨q1, by omega, ?_⟩
      by_cases c1 : m < f ∧ hh x m > hh x f
      · exact ⟨m, by omega, c1.1, c1.2, m2⟩
      · refine ⟨f - 1, by omega, by omega, h1, ?_⟩
        by_cases c2 : m = f
        · subst c2; omega
        · have : m < f := by omega
          have : ¬ (hh x m > hh x f) := fun hm => c1 ⟨this, hm⟩
          omega

theorem inv_stay (x : List Ps) (l : List Int) (f tt : Int) (h : InvL x l f) (hto : f ≤ tt) : InvL x l tt := by
  refine ⟨h.1, fun hn => ?_⟩
  obtain ⟨q1, m, m0, m1, m2⟩ := h.2 hn
  exact ⟨by omega, m, m0, by omega, m2⟩

theorem low_l1 (x : List Ps) (hx : x.length ≤ 1000) (acc : List Int) (f : Int) (h0 : 0 ≤ f) (hf : f < (x.length : Int)) (hacc : acc.length < 17592186044416) : ∀ (d k : Nat) (j : Int), f ≤ j → j + d = (x.length : Int) → (∀ i, f ≤ i → i < j → hh x i = hh x f) → d < k →
    ∃ (tt : Int) (k' : Nat), j ≤ tt ∧ tt ≤ (x.length : Int) ∧ (∀ i, f ≤ i → i < tt → hh x i = hh x f) ∧ (tt < (x.length : Int) → hh x tt ≠ hh x f) ∧ k ≤ k' + (tt - j).toNat + 1 ∧
      impl_LowPoints.l1 k x acc f j = if tt < (x.length : Int) ∧ 0 < f ∧ hh x (f - 1) > hh x f ∧ hh x tt > hh x f then impl_LowPoints.l0 k' x (acc ++ [f]) tt else impl_LowPoints.l0 k' x acc tt := by
  intro d
  induction d with
  | zero =>
    intro k j hj hd hpl hk
    obtain ⟨k, rfl⟩ : ∃ m, k = m + 1 := ⟨k - 1, by omega⟩
    refine ⟨j, k, Int.le_refl _, by omega, hpl, fun h => by omega, by omega, ?_⟩
    rw [impl_LowPoints.l1, if_neg (by omega), if_neg (show ¬ (j < (x.length : Int) ∧ _) from fun h => by omega)]
    by_cases c : f > 0
    · rw [if_pos c]
    · rw [if_neg c]
  | succ d ih =>
    intro k j hj hd hpl hk
    obtain ⟨k, rfl⟩ : ∃ m, k = m + 1 := ⟨k - 1, by omega⟩
    have e0 : ((rd_T25 x j).f1 = (rd_T25 x f).f1) = (hh x j = hh x f) := rfl
    have e1 : ((rd_T25 x (f - 1)).f1 > (rd_T25 x f).f1) = (hh x (f - 1) > hh x f) := rfl
    have e2 : ((rd_T25 x j).f1 > (rd_T25 x f).f1) = (hh x j > hh x f) := rfl
    by_cases c : hh x j = hh x f
    · obtain ⟨tt, k', t1, t2, t3, t4, t5, t6⟩ := ih k (j + 1) (by omega) (by omega) (fun i i0 i1 => by
        by_cases e : i = j
        · rw [e]; exact c
        · exact hpl i i0 (by omega)) (by omega)
      refine ⟨tt, k', by omega, t2, t3, t4, by omega, ?_⟩
      rw [impl_LowPoints.l1, if_pos (by omega), if_pos (by omega), if_pos h0, if_pos hf, if_pos (e0 ▸ c), w64 (x := j + 1) (by omega)]
      exact t6
    · refine ⟨j, k, Int.le_refl _, by omega, hpl, fun _ => c, by omega, ?_⟩
      rw [impl_LowPoints.l1, if_pos (by omega), if_pos (by omega), if_pos h0, if_pos hf, if_neg (e0 ▸ c)]
      by_cases g : f > 0
      · rw [if_pos g, w64 (x := f - 1) (by omega), if_pos (by omega), if_pos (by omega)]
        by_cases g1 : hh x (f - 1) > hh x f
        · rw [if_pos (e1 ▸ g1)]
          by_cases g2 : hh x j > hh x f
          · rw [if_pos (e2 ▸ g2), if_pos hacc, if_pos ⟨by omega, by omega, g1, g2⟩]
          · rw [if_neg (e2 ▸ g2), if_neg (fun h => g2 h.2.2.2)]
        · rw [if_neg (e1 ▸ g1), if_neg (fun h => g1 h.2.2.1)]
      · rw [if_neg g, if_neg (fun h => g h.2.1)]

theorem low_l0 (x : List Ps) (hx : x.length ≤ 1000) : ∀ (d : Nat) (k : Nat) (acc : List Int) (f : Int), 0 ≤ f → f ≤ (x.length : Int) → (x.length : Int) - f ≤ d → (acc.length : Int) ≤ f → InvL x acc f → 3 * ((x.length : Int) - f).toNat + 3 < k →
    ∃ low, impl_LowPoints.l0 k x acc f = some (low, true) ∧ LowOK x low ∧ low.length ≤ 1000 := by
  intro d
  induction d with
  | zero =>
    intro k acc f h0 h1 hd ha hi hk
    obtain ⟨k, rfl⟩ : ∃ m, k = m + 1 := ⟨k - 1, by omega⟩
    exact ⟨acc, by rw [impl_LowPoints.l0, if_neg (by omega)], hi.1, by omega⟩
  | succ d ih =>
    intro k acc f h0 h1 hd ha hi hk
    obtain ⟨k, rfl⟩ : ∃ m, k = m + 1 := ⟨k - 1, by omega⟩
    by_cases c : f < (x.length : Int)
    · obtain ⟨tt, k', t1, t2, t3, t4, t5, t6⟩ := low_l1 x hx acc f h0 c (by omega) ((x.length : Int) - f).toNat k f (Int.le_refl _) (by omega) (fun i i0 i1 => by omega) (by omega)
      have hft : f < tt := by
        by_cases e : tt = f
        · have := t4 (by omega)
          rw [e] at this
          exact absurd rfl this
        · omega
      rw [impl_LowPoints.l0, if_pos c, t6]
      by_cases g : tt < (x.length : Int) ∧ 0 < f ∧ hh x (f - 1) > hh x f ∧ hh x tt > hh x f
      · rw [if_pos g]
        exact ih k' (acc ++ [f]) tt (by omega) t2 (by omega) (by simp; omega) (inv_push x acc f tt hi g.2.1 hft g.1 t3 g.2.2.1 g.2.2.2) (by omega)
      · rw [if_neg g]
        exact ih k' acc tt (by omega) t2 (by omega) (by omega) (inv_stay x acc f tt hi (by omega)) (by omega)
    · exact ⟨acc, by rw [impl_LowPoints.l0, if_neg c], hi.1, by omega⟩

/-! ### the law's own loops -/
theorem law_l1 (x : List Ps) (hx : x.length ≤ 1000) (low : List Int) (hlow : low.length ≤ 1000) (i K P : Int) (h0 : 0 < i) (hi : i < (low.length : Int)) (hP : rd low (i - 1) = P) (hP0 : 0 ≤ P) (hPK : P < K) (hK : K < (x.length : Int)) :
    ∀ (e k : Nat) (m : Int) (hb : Bool), P ≤ m → m + e = K → (hb = true ∨ ∃ q, m ≤ q ∧ q < K ∧ hh x q > hh x K ∧ hh x q > hh x P) → e < k →
      laws_FnLow.l1 k x low i K hb m = laws_FnLow.l0 (k - e - 1) x low (wrap64 (i + 1)) := by
  intro e
  induction e with
  | zero =>
    intro k m hb hm he hq hk
    obtain ⟨k, rfl⟩ : ∃ z, k = z + 1 := ⟨k - 1, by omega⟩
    have ht : hb = true := by
      rcases hq with h | ⟨q, q0, q1, _⟩
      · exact h
      · omega
    rw [laws_FnLow.l1, if_neg (by omega), if_pos ht]
    rfl
  | succ e ih =>
    intro k m hb hm he hq hk
    obtain ⟨k, rfl⟩ : ∃ z, k = z + 1 := ⟨k - 1, by omega⟩
    have hke : k + 1 - (e + 1) - 1 = k - e - 1 := by omega
    have e1 : ((rd_T25 x m).f1 > (rd_T25 x K).f1) = (hh x m > hh x K) := rfl
    rw [laws_FnLow.l1, if_pos (by omega), hke, w64 (x := m + 1) (by omega)]
    cases hb with
    | true =>
      rw [if_pos rfl]
      exact ih k (m + 1) true (by omega) (by omega) (Or.inl rfl) (by omega)
    | false =>
      rw [if_neg (by simp), if_pos (by omega), if_pos (by omega), if_pos (by omega), if_pos hK, w64 (x := i - 1) (by omega), hP]
      obtain ⟨q, q0, q1, q2, q3⟩ : ∃ q, m ≤ q ∧ q < K ∧ hh x q > hh x K ∧ hh x q > hh x P := by
        rcases hq with h | h
        · cases h
        · exact h
      by_cases c : hh x m > hh x K
      · rw [if_pos (e1 ▸ c), if_pos (by omega), if_pos (by omega), if_pos hP0, if_pos (by omega)]
        refine ih k (m + 1) _ (by omega) (by omega) ?_ (by omega)
        by_cases c2 : hh x m > hh x P
        · exact Or.inl (decide_eq_true c2)
        · refine Or.inr ⟨q, ?_, q1, q2, q3⟩
          by_cases e2 : q = m
          · subst e2; exact absurd q3 c2
          · omega
      · rw [if_neg (e1 ▸ c)]
        refine ih k (m + 1) false (by omega) (by omega) (Or.inr ⟨q, ?_, q1, q2, q3⟩) (by omega)
        by_cases e2 : q = m
        · subst e2; exact absurd q2 c
        · omega

theorem law_l0 (x : List Ps) (hx : x.length ≤ 1000) (low : List Int) (hlow : low.length ≤ 1000) (hok : LowOK x low) : ∀ (d k : Nat) (i : Int), 0 ≤ i → i + d = (low.length : Int) → 2000 * d < k → laws_FnLow.l0 k x low i = some true := by
  intro d
  induction d with
  | zero =>
    intro k i h0 hd hk
    obtain ⟨k, rfl⟩ : ∃ z, k = z + 1 := ⟨k - 1, by omega⟩
    rw [laws_FnLow.l0, if_neg (by omega)]
  | succ d ih =>
    intro k i h0 hd hk
    obtain ⟨k, rfl⟩ : ∃ z, k = z + 2 := ⟨k - 2, by omega⟩
    obtain ⟨a, b, c, e, g⟩ := hok i h0 (by omega)
    have e1 : ((rd_T25 x (rd low i - 1)).f1 ≤ (rd_T25 x (rd low i)).f1) = (hh x (rd low i - 1) ≤ hh x (rd low i)) := rfl
    have c' : ¬ (hh x (rd low i - 1) ≤ hh x (rd low i)) := by omega
    have e2 : decide ((rd_T25 x (rd low i + 1)).f1 < (rd_T25 x (rd low i)).f1) = false := decide_eq_false e
    rw [laws_FnLow.l0, if_pos (by omega), if_pos h0, if_neg (by omega), w64 (x := (x.length : Int) - 2) (by omega), if_neg (by omega), w64 (x := rd low i - 1) (by omega), if_pos (by omega), if_pos (by omega), if_pos (by omega), if_pos (by omega),
      if_neg (e1 ▸ c'), w64 (x := rd low i + 1) (by omega), if_pos (by omega), if_pos (by omega), e2, laws_FnLow.j2, if_neg (by simp), w64 (x := i + 1) (by omega)]
    by_cases z : i = 0
    · rw [if_pos z]
      exact ih k (i + 1) (by omega) (by omega) (by omega)
    · rw [if_neg z, w64 (x := i - 1) (by omega), if_pos (by omega), if_pos (by omega)]
      obtain ⟨g1, g2, m, m0, m1, m2, m3⟩ := g (by omega)
      have hl := law_l1 x hx low hlow i (rd low i) (rd low (i - 1)) (by omega) (by omega) rfl g2 g1 (by omega) (rd low i - rd low (i - 1)).toNat k (rd low (i - 1)) false (Int.le_refl _) (by omega) (Or.inr ⟨m, m0, m1, m2, m3⟩) (by omega)
      rw [hl, w64 (x := i + 1) (by omega)]
      exact ih _ (i + 1) (by omega) (by omega) (by omega)

theorem FnLow (l0 l1 : List Int) (hm0 : l0.length ≤ 9223372036854775807) (hw0 : ∀ z ∈ l0, (Lit.int .u8 z).wf = true) (hm1 : l1.length ≤ 9223372036854775807) (hw1 : ∀ z ∈ l1, (Lit.int .u8 z).wf = true) : ∃ k, laws_FnLow.f k l0 l1 = some true := by
  obtain ⟨k, hk⟩ : ∃ k : Nat, k = 3000000 := ⟨_, rfl⟩
  refine ⟨k + 1, ?_⟩
  unfold laws_FnLow.f laws_r8Long.f
  by_cases c1 : (l0.length : Int) > 48
  · rw [if_pos c1]; rfl
  · rw [if_neg c1, Option.bind_some]
    by_cases c2 : (l1.length : Int) > 48
    · rw [decide_eq_true c2]; rfl
    · rw [decide_eq_false c2, if_neg (by simp)]
      have hs : Bytes l0 := ⟨by omega, fun z hz => by
        have := hw0 z hz
        have b1 : IntKind.u8.min = 0 := by decide
        have b2 : IntKind.u8.max = 255 := by decide
        simpa [Lit.wf, b1, b2] using this⟩
      obtain ⟨a, b, c, d, l, L, e1, e2, hl⟩ := axis_drawn hs (k + 1) (by omega)
      obtain ⟨n1, n2⟩ := axis_len e2
      have p1 : impl_PosesOf.f (k + 1) a b c d l = some (L, true) := by
        unfold impl_PosesOf.f
        rw [iaxis_eq (k + 1) a b c d l (by omega) (by omega), e2]; rfl
      obtain ⟨low, q1, q2, q3⟩ := low_l0 L (by omega) L.length (k + 1) [] 0 (by omega) (by omega) (by omega) (by simp) ⟨fun i i0 i1 => by simp at i1; omega, fun h => by simp at h⟩ (by omega)
      have p2 : impl_LowPoints.f (k + 1) a b c d l = some (low, true) := by
        unfold impl_LowPoints.f
        rw [iaxis_eq (k + 1) a b c d l (by omega) (by omega), e2]
        simp only [Option.bind_some, if_true]
        exact q1
      simp only [e1, Option.bind_some, p1, p2, if_true]
      rw [decide_eq_false (show ¬ ((L.length : Int) < 2) by omega), laws_FnLow.j0, if_neg (by simp)]
      exact law_l0 L (by omega) low q3 q2 low.length k 0 (by omega) (by omega) (by omega)

end Go.Proofs.Ythjcoobgibdpcaa.Pure
