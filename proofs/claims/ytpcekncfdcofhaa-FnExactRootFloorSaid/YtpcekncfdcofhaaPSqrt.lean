/- Plain lemmas: the model's square root of a whole number from 0 to 10^18, cut to a whole number, is a number from 0 to 2^31. -/
import Derived.Laws.FloatArith
namespace Go.Proofs.Ytpcekncfdcofhaa.Q
set_option linter.unusedVariables false
set_option linter.unusedSimpArgs false
open Ieee

theorem sq_shift (a b : Nat) : a <<< b = a * 2 ^ b := Nat.shiftLeft_eq a b

theorem sq_lt_log (m : Nat) : m < 2 ^ (m.log2 + 1) := Nat.lt_log2_self

theorem sq_pow_le {a b : Nat} (h : a ≤ b) : 2 ^ a ≤ 2 ^ b := Nat.pow_le_pow_right (by omega) h

theorem sq_cut (way : Toward) (n drop k : Nat) (h : n < 2 ^ (k + drop)) : way.cut false n drop ≤ 2 ^ k := by
  unfold Toward.cut
  dsimp only
  have key : n / (1 <<< min drop (n.log2 + 2)) < 2 ^ k := by
    rw [sq_shift, Nat.one_mul]
    rw [Nat.div_lt_iff_lt_mul (Nat.two_pow_pos _)]
    by_cases c : drop ≤ n.log2 + 2
    · rw [Nat.min_eq_left c, ← Nat.pow_add]; exact h
    · rw [Nat.min_eq_right (by omega)]
      have a := sq_lt_log n
      have b := sq_pow_le (a := n.log2 + 1) (b := n.log2 + 2) (by omega)
      have p := Nat.two_pow_pos k
      calc n < 2 ^ (n.log2 + 2) := by omega
        _ ≤ 2 ^ k * 2 ^ (n.log2 + 2) := Nat.le_mul_of_pos_left _ p
  generalize n / (1 <<< min drop (n.log2 + 2)) = low at key
  have b1 : ∀ b : Bool, b.toNat ≤ 1 := fun b => by cases b <;> decide
  exact Nat.le_trans (Nat.add_le_add_left (b1 _) low) key

theorem sq_cut_zero (n drop k : Nat) (h : n < 2 ^ (k + drop)) : Toward.zero.cut false n drop < 2 ^ k ∧ True := by
  unfold Toward.cut
  dsimp only
  refine ⟨?_, trivial⟩
  rw [sq_shift, Nat.one_mul]
  show n / 2 ^ min drop (n.log2 + 2) + 0 < 2 ^ k
  rw [Nat.add_zero, Nat.div_lt_iff_lt_mul (Nat.two_pow_pos _)]
  by_cases c : drop ≤ n.log2 + 2
  · rw [Nat.min_eq_left c, ← Nat.pow_add]; exact h
  · rw [Nat.min_eq_right (by omega)]
    have a := sq_lt_log n
    have b := sq_pow_le (a := n.log2 + 1) (b := n.log2 + 2) (by omega)
    have p := Nat.two_pow_pos k
    calc n < 2 ^ (n.log2 + 2) := by omega
      _ ≤ 2 ^ k * 2 ^ (n.log2 + 2) := Nat.le_mul_of_pos_left _ p

theorem sq_last : Ieee.double.leastPlace = -1074 := by decide
theorem sq_bin : Ieee.double.binade = 2 ^ 52 := rfl
theorem sq_frac : Ieee.double.fractionBits = 52 := rfl
theorem sq_inf : Ieee.double.infRung = 2047 * 2 ^ 52 := by decide
theorem sq_sign : Ieee.double.signWeight = 2 ^ 63 := by decide

theorem sq_sum (a b c B kept : Nat) (hk : kept ≤ 2 * B) (e : a + 2 ≤ b) : a * B + kept ≤ b * B := by
  have h1 : a * B + 2 * B = (a + 2) * B := (Nat.add_mul ..).symm
  have h2 := Nat.mul_le_mul_right B e
  omega

theorem sq_word (f : Format) (r : Nat) : f.word false r = r := by
  unfold Format.word
  rw [if_neg (by decide)]

theorem sq_nearest (mag : Nat) (place t : Int) (hm : mag ≠ 0) (h : place + mag.log2 < t) (ht : -1000 ≤ t) : Ieee.double.nearest false mag place ≤ (t + 1023).toNat * 2 ^ 52 := by
  unfold Format.nearest
  rw [if_neg hm, sq_last, sq_bin, sq_frac, sq_word]
  obtain ⟨last, hl⟩ : ∃ x, x = max (place + (mag.log2 : Int) - ((52 : Nat) : Int)) (-1074) := ⟨_, rfl⟩
  rw [← hl]
  have l1 : place + (mag.log2 : Int) - 52 ≤ last := by rw [hl]; omega
  have l2 : -1074 ≤ last := by rw [hl]; omega
  have l3 : last ≤ t - 53 ∨ last = -1074 := by rw [hl]; omega
  clear hl
  have hn : mag <<< (place - last).toNat < 2 ^ (53 + (last - place).toNat) := by
    rw [sq_shift]
    have a := sq_lt_log mag
    calc mag * 2 ^ (place - last).toNat < 2 ^ (mag.log2 + 1) * 2 ^ (place - last).toNat := Nat.mul_lt_mul_of_pos_right a (Nat.two_pow_pos _)
      _ = 2 ^ (mag.log2 + 1 + (place - last).toNat) := (Nat.pow_add ..).symm
      _ ≤ 2 ^ (53 + (last - place).toNat) := sq_pow_le (by omega)
  have hc := sq_cut .even _ _ _ hn
  have hc2 : Toward.even.cut false (mag <<< (place - last).toNat) (last - place).toNat ≤ 2 * 2 ^ 52 := hc
  refine Nat.le_trans (Nat.min_le_left _ _) ?_
  exact sq_sum _ _ 0 _ _ hc2 (by omega)

theorem sq_log_of (m k : Nat) (h1 : 2 ^ k ≤ m) (h2 : m < 2 ^ (k + 1)) : m.log2 = k := by
  have p := Nat.two_pow_pos k
  have a : k ≤ m.log2 := (Nat.le_log2 (by omega)).2 h1
  have b : m.log2 < k + 1 := (Nat.log2_lt (by omega)).2 h2
  omega

/-- What a datum that came of a rung is good for. -/
def SqOk (m : Nat) (e t : Int) : Prop := m = 0 ∨ (m ≠ 0 ∧ (m.log2 : Int) + e < t) ∨ (m = 2 ^ 52 ∧ e = t - 52)

theorem sq_read (r : Nat) (t : Int) (ht : -1000 ≤ t) (ht' : t ≤ 1000) (h : r ≤ (t + 1023).toNat * 2 ^ 52) : ∃ m e, Ieee.double.read r = .number false m e ∧ SqOk m e t := by
  unfold Format.read
  dsimp only
  rw [sq_last, sq_bin, sq_inf, sq_sign]
  have hb : (t + 1023).toNat ≤ 2023 := by omega
  have hr : r ≤ 2023 * 2 ^ 52 := Nat.le_trans h (Nat.mul_le_mul_right _ hb)
  have hs : (r / 2 ^ 63 % 2 == 1) = false := by
    rw [Nat.div_eq_of_lt (by omega)]; rfl
  rw [hs, Nat.mod_eq_of_lt (by omega)]
  by_cases c : r < 2 ^ 52
  · rw [if_pos c]
    refine ⟨r, -1074, rfl, ?_⟩
    by_cases z : r = 0
    · exact Or.inl z
    · have := (Nat.log2_lt z).2 c
      exact Or.inr (Or.inl ⟨z, by omega⟩)
  · rw [if_neg c, if_pos (by omega)]
    refine ⟨_, _, rfl, ?_⟩
    have hlog : (2 ^ 52 + r % 2 ^ 52).log2 = 52 := sq_log_of _ _ (by omega) (by omega)
    by_cases d : r < (t + 1023).toNat * 2 ^ 52
    · have q : r / 2 ^ 52 < (t + 1023).toNat := (Nat.div_lt_iff_lt_mul (by omega)).2 d
      refine Or.inr (Or.inl ⟨by omega, ?_⟩)
      rw [hlog]; omega
    · have e : r = (t + 1023).toNat * 2 ^ 52 := by omega
      refine Or.inr (Or.inr ⟨?_, ?_⟩)
      · rw [e, Nat.mul_mod_left]
      · have q : r / 2 ^ 52 = (t + 1023).toNat := by rw [e]; exact Nat.mul_div_cancel _ (by omega)
        rw [q]; omega

theorem sq_ok_log {m : Nat} {e t : Int} (h : SqOk m e t) (hm : m ≠ 0) : (m.log2 : Int) + e ≤ t := by
  rcases h with h | ⟨_, h⟩ | ⟨rfl, rfl⟩
  · exact absurd h hm
  · omega
  · rw [Nat.log2_two_pow]; omega

theorem sq_rootFrom (n : Nat) : ∀ todo root, root * root ≤ n → Datum.rootFrom n todo root * Datum.rootFrom n todo root ≤ n := by
  intro todo
  induction todo with
  | zero => intro root h; exact h
  | succ k ih =>
    intro root h
    unfold Datum.rootFrom
    dsimp only
    by_cases c : (root + 1 <<< k) * (root + 1 <<< k) ≤ n
    · rw [if_pos c]; exact ih _ c
    · rw [if_neg c]; exact ih _ h

theorem sq_log_square (W n : Nat) (hW : W ≠ 0) (h : W * W ≤ n) (hn : n ≠ 0) : 2 * W.log2 ≤ n.log2 := by
  have a := Nat.log2_self_le hW
  have b : 2 ^ (2 * W.log2) ≤ n := by
    calc 2 ^ (2 * W.log2) = 2 ^ W.log2 * 2 ^ W.log2 := by rw [← Nat.pow_add]; congr 1; omega
      _ ≤ W * W := Nat.mul_le_mul a a
      _ ≤ n := h
  exact (Nat.le_log2 hn).2 b

theorem sq_log_double (W b : Nat) (hW : W ≠ 0) (hb : b ≤ 1) : (2 * W + b).log2 = W.log2 + 1 := by
  have a := Nat.log2_self_le hW
  have c := sq_lt_log W
  have e : 2 ^ (W.log2 + 1) = 2 * 2 ^ W.log2 := by rw [Nat.pow_succ, Nat.mul_comm]
  have f : 2 ^ (W.log2 + 1 + 1) = 2 * 2 ^ (W.log2 + 1) := by rw [Nat.pow_succ, Nat.mul_comm]
  exact sq_log_of _ _ (by omega) (by omega)

theorem sq_root (m : Nat) (i t : Int) (hm : m ≠ 0) (h : (m.log2 : Int) + i ≤ 2 * t) : ∃ m' e', Datum.root 54 (.number false m i) = some (.number false m' e') ∧ (m' = 0 ∨ (m' ≠ 0 ∧ (m'.log2 : Int) + e' ≤ t)) := by
  unfold Datum.root
  dsimp only
  rw [if_neg hm, if_neg (by decide)]
  generalize hk : 2 * 54 - m.log2 + ((i - ((2 * 54 - m.log2 : Nat) : Int)) % 2).toNat = more
  generalize hn : m <<< more = n
  have hn0 : n ≠ 0 := by
    rw [← hn, sq_shift]
    exact Nat.mul_ne_zero hm (Nat.pos_iff_ne_zero.1 (Nat.two_pow_pos _))
  have hlog : n.log2 = m.log2 + more := by
    have a := Nat.log2_self_le hm
    have b := sq_lt_log m
    refine sq_log_of _ _ ?_ ?_
    · rw [← hn, sq_shift, Nat.pow_add]; exact Nat.mul_le_mul_right _ a
    · rw [← hn, sq_shift, show m.log2 + more + 1 = (m.log2 + 1) + more by omega, Nat.pow_add]
      exact Nat.mul_lt_mul_of_pos_right b (Nat.two_pow_pos _)
  have hw := sq_rootFrom n (n.log2 / 2 + 1) 0 (by omega)
  generalize Datum.rootFrom n (n.log2 / 2 + 1) 0 = W at hw
  have hb : (W * W != n).toNat ≤ 1 := by cases (W * W != n) <;> decide
  generalize (W * W != n).toNat = b at hb
  refine ⟨_, _, rfl, ?_⟩
  by_cases z : 2 * W + b = 0
  · exact Or.inl z
  · refine Or.inr ⟨z, ?_⟩
    by_cases hW : W = 0
    · subst hW
      have : b = 1 := by omega
      subst this
      have l1 : (2 * 0 + 1).log2 = 0 := by decide
      rw [l1]; omega
    · rw [sq_log_double W b hW hb]
      have := sq_log_square W n hW hw hn0
      omega

theorem sq_toInt (m : Nat) (e : Int) (t : Nat) (h : SqOk m e t) : ∃ r : Nat, r ≤ 2 ^ t ∧ Datum.toInt .zero (.number false m e) = some (r : Int) := by
  refine ⟨Toward.zero.cut false (m <<< e.toNat) (-e).toNat, ?_, ?_⟩
  · rcases h with h | ⟨hm, h⟩ | ⟨h1, h2⟩
    · subst h
      have := (sq_cut_zero (0 <<< e.toNat) (-e).toNat t (by rw [Nat.zero_shiftLeft]; exact Nat.two_pow_pos _)).1
      omega
    · have := (sq_cut_zero (m <<< e.toNat) (-e).toNat t (by
        rw [sq_shift]
        calc m * 2 ^ e.toNat < 2 ^ (m.log2 + 1) * 2 ^ e.toNat := Nat.mul_lt_mul_of_pos_right (sq_lt_log m) (Nat.two_pow_pos _)
          _ = 2 ^ (m.log2 + 1 + e.toNat) := (Nat.pow_add ..).symm
          _ ≤ 2 ^ (t + (-e).toNat) := sq_pow_le (by omega))).1
      omega
    · subst h1 h2
      generalize hg : (2 ^ 52 <<< ((t : Int) - 52).toNat) = n
      have hn : n = 2 ^ (52 + ((t : Int) - 52).toNat) := by rw [← hg, sq_shift, ← Nat.pow_add]
      have hl : n.log2 = 52 + ((t : Int) - 52).toNat := by rw [hn, Nat.log2_two_pow]
      unfold Toward.cut
      dsimp only
      rw [sq_shift, Nat.one_mul, hl]
      show n / 2 ^ _ + 0 ≤ 2 ^ t
      rw [Nat.min_eq_left (by omega), hn, Nat.add_zero]
      refine Nat.div_le_of_le_mul ?_
      rw [← Nat.pow_add]
      exact sq_pow_le (by omega)
  · unfold Datum.toInt Datum.integral
    show some (signed false _ 0) = _
    unfold signed
    simp

theorem sq_start (n : Int) (h0 : 0 ≤ n) (h1 : n ≤ 1000000000000000000) : ∃ x r, FloatKind.f64.format.sqrt (FloatKind.f64.nearest n) = some x ∧ floatToIntVal .f64 x .i64 = some r ∧ 0 ≤ r ∧ r ≤ 2147483648 := by
  have hneg : (decide (n < 0)) = false := decide_eq_false (by omega)
  have e0 : FloatKind.f64.nearest n = Ieee.double.nearest false n.natAbs 0 := by
    unfold FloatKind.nearest FloatKind.encode Format.write
    simp only [hneg]
    rfl
  have hfin : ∀ w, w ≤ (((31 : Nat) : Int) + 1023).toNat * 2 ^ 52 → ∃ r, floatToIntVal .f64 w .i64 = some r ∧ 0 ≤ r ∧ r ≤ 2147483648 := by
    intro w hw
    obtain ⟨m2, e2, hr2, ok2⟩ := sq_read w ((31 : Nat) : Int) (by omega) (by omega) hw
    obtain ⟨r, hr, hi⟩ := sq_toInt m2 e2 31 ok2
    refine ⟨(r : Int), ?_, by omega, by omega⟩
    unfold floatToIntVal FloatKind.decode
    show (match (Datum.toInt .zero (Ieee.double.read w)) with | some n => _ | none => none) = _
    rw [hr2, hi]
    have a : IntKind.i64.min ≤ (r : Int) ∧ (r : Int) ≤ IntKind.i64.max := by
      have b1 : IntKind.i64.min = -9223372036854775808 := by decide
      have b2 : IntKind.i64.max = 9223372036854775807 := by decide
      rw [b1, b2]; omega
    simp only [a, and_self, if_true]
  have hread : ∃ m e, Ieee.double.read (FloatKind.f64.nearest n) = .number false m e ∧ SqOk m e 60 := by
    rw [e0]
    by_cases z : n.natAbs = 0
    · refine sq_read _ 60 (by omega) (by omega) ?_
      unfold Format.nearest
      rw [if_pos z]
      show 0 ≤ _
      omega
    · refine sq_read _ 60 (by omega) (by omega) (sq_nearest _ 0 60 z ?_ (by omega))
      have : n.natAbs.log2 < 60 := (Nat.log2_lt z).2 (by omega)
      omega
  obtain ⟨m, e, hm, ok⟩ := hread
  have hsq : FloatKind.f64.format.sqrt (FloatKind.f64.nearest n) = (Datum.root 54 (.number false m e)).map Ieee.double.write := by
    show ((Ieee.double.read _).root 54).map _ = _
    rw [hm]
    rfl
  by_cases z : m = 0
  · subst z
    refine ⟨Ieee.double.write (.number false 0 e), ?_⟩
    obtain ⟨r, hr⟩ := hfin (Ieee.double.write (.number false 0 e)) (by
      show Ieee.double.nearest false 0 e ≤ _
      unfold Format.nearest
      rw [if_pos rfl]
      show 0 ≤ _
      omega)
    exact ⟨r, by rw [hsq]; rfl, hr⟩
  · obtain ⟨m', e', hroot, ok'⟩ := sq_root m e 30 z (by have := sq_ok_log ok z; omega)
    refine ⟨Ieee.double.write (.number false m' e'), ?_⟩
    obtain ⟨r, hr⟩ := hfin (Ieee.double.write (.number false m' e')) (by
      show Ieee.double.nearest false m' e' ≤ _
      rcases ok' with z' | ⟨z', l'⟩
      · unfold Format.nearest
        rw [if_pos z']
        show 0 ≤ _
        omega
      · exact sq_nearest m' e' _ z' (by omega) (by omega))
    exact ⟨r, by rw [hsq, hroot]; rfl, hr⟩

end Go.Proofs.Ytpcekncfdcofhaa.Q
