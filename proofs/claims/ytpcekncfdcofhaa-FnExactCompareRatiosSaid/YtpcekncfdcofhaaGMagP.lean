/- Plain lemmas: what the program's functions on digits compute. -/
import Derived.Test.YtpcekncfdcofhaaQ0
import Derived.Test.YtpcekncfdcofhaaQ6
import Derived.Test.YtpcekncfdcofhaaQ7
import Derived.Test.YtpcekncfdcofhaaQ8
import Derived.Test.YtpcekncfdcofhaaGDivP
namespace Go.Proofs.Ytpcekncfdcofhaa.Q
open Go.RowKit Go.Proofs.YtpcekncfdcofhaaW.PrintWords Go.Proofs.YtpcekncfdcofhaaW.PrintLast Go.Proofs.YtpcekncfdcofhaaW.PrintMore
set_option linter.unusedVariables false
set_option linter.unusedSimpArgs false

theorem vl_lt : ∀ {l : List Int}, D32 l → vl l < 4294967296 ^ l.length
  | [], _ => by simp [vl]
  | d :: l, h => by
    obtain ⟨d1, d2⟩ := D32.cons.1 h
    have := vl_lt d2
    rw [vl, List.length_cons, Int.pow_succ]
    omega
theorem vl_app (a b : List Int) : vl (a ++ b) = vl a + 4294967296 ^ a.length * vl b := by
  induction a with
  | nil => simp [vl]
  | cons d a ih =>
    rw [List.cons_append, vl, ih, vl, List.length_cons, Int.pow_succ, Int.mul_add]
    have : (4294967296 : Int) ^ a.length * 4294967296 * vl b = 4294967296 * (4294967296 ^ a.length * vl b) := by
      rw [Int.mul_comm ((4294967296 : Int) ^ a.length) 4294967296, Int.mul_assoc]
    omega
theorem rd_ge {l : List Int} (h : D32 l) (i : Int) : 0 ≤ rd l i ∧ rd l i ≤ 4294967295 := by
  unfold rd
  rw [List.getD_eq_getElem?_getD]
  by_cases hl : i.toNat < l.length
  · rw [List.getElem?_eq_getElem hl]
    exact h _ (List.getElem_mem hl)
  · rw [List.getElem?_eq_none (by omega)]
    simp
theorem drop_at {l : List Int} {m : Nat} (h : m < l.length) : l.drop m = rd l (m : Int) :: l.drop (m + 1) := by
  rw [List.drop_eq_getElem_cons h]
  simp [rd, h]

/-! ### shortMag -/
theorem short_at (a : List Int) (b : Int) (ha : D32 a) (hl : a.length ≤ 1000) (hb : 1 ≤ b ∧ b ≤ 4294967295) : ∀ (m k : Nat) (o : List Int) (r : Int), m < k → o.length = a.length → m ≤ a.length → D32 o → (0 ≤ r ∧ r < b) → vl (a.drop m) = vl (o.drop m) * b + r →
    ∃ q, impl_shortMag.l0 k a b o r ((m : Int) - 1) = some (trim q, vl a % b) ∧ D32 q ∧ vl q = vl a / b ∧ q.length = a.length
  | 0, k, o, r, hk, ho, hm, hd, hr, hv => by
    obtain ⟨k, rfl⟩ : ∃ m, k = m + 1 := ⟨k - 1, by omega⟩
    rw [List.drop_zero, List.drop_zero] at hv
    have e1 : vl a / b = vl o := by
      rw [hv, Int.add_comm, Int.add_mul_ediv_right _ _ (by omega), Int.ediv_eq_zero_of_lt hr.1 hr.2]
      omega
    have e2 : vl a % b = r := by
      rw [hv, Int.add_comm, Int.add_mul_emod_self_right, Int.emod_eq_of_lt hr.1 hr.2]
    refine ⟨o, ?_, hd, e1.symm, ho⟩
    rw [impl_shortMag.l0, if_neg (by simp), e2]
    unfold impl_trimmed.f
    simp only [Option.bind_some]
    rw [Int.emod_eq_of_lt hr.1 (by omega)]
  | m + 1, k, o, r, hk, ho, hm, hd, hr, hv => by
    obtain ⟨k, rfl⟩ : ∃ m, k = m + 1 := ⟨k - 1, by omega⟩
    have e0 : ((m + 1 : Nat) : Int) - 1 = (m : Int) := by omega
    have hx := rd_ge ha (m : Int)
    have hw0 : IntKind.u64.wrap b = b := by rw [IntKind.wrap_u64]; omega
    have hw1 : IntKind.u64.wrap (r * 4294967296) = r * 4294967296 := by rw [IntKind.wrap_u64]; omega
    have hw2 : IntKind.u64.wrap (rd a (m : Int)) = rd a (m : Int) := by rw [IntKind.wrap_u64]; omega
    have hor : bits .or .u64 (r * 4294967296) (rd a (m : Int)) = r * 4294967296 + rd a (m : Int) := or_sum 32 (by omega) (by omega) (by omega) (by omega) (by omega) (by omega)
    generalize hn : r * 4294967296 + rd a (m : Int) = n at hor
    have hn0 : 0 ≤ n := by omega
    have hn1 : n < 4294967296 * b := by omega
    have hq1 : n / b < 4294967296 := Int.ediv_lt_of_lt_mul (by omega) hn1
    have hq0 : 0 ≤ n / b := Int.ediv_nonneg hn0 (by omega)
    have hr0 := Int.emod_nonneg n (show b ≠ 0 by omega)
    have hr1 := Int.emod_lt_of_pos n (show 0 < b by omega)
    have hnb := Int.mul_ediv_add_emod n b
    have hw3 : IntKind.u64.wrap (n / b) = n / b := by rw [IntKind.wrap_u64]; omega
    have ht1 : Int.tdiv n b = n / b := Int.tdiv_eq_ediv_of_nonneg hn0
    have ht2 : Int.tmod n b = n % b := Int.tmod_eq_emod_of_nonneg hn0
    have hset : (o.set m (n / b)).drop m = (n / b) :: o.drop (m + 1) := by
      rw [drop_at (by rw [List.length_set]; omega)]
      have : rd (o.set m (n / b)) (m : Int) = n / b := by unfold rd; simp; rw [List.getElem?_set_self (by omega)]; rfl
      rw [this, List.drop_set_of_lt (by omega)]
    have hd2 : D32 (o.set m (n / b)) := fun d hdm => by
      rcases List.mem_or_eq_of_mem_set hdm with h | h
      · exact hd d h
      · rw [h]; omega
    obtain ⟨q, i1, i2, i3, i4⟩ := short_at a b ha hl hb m k (o.set m (n / b)) (n % b) (by omega) (by rw [List.length_set]; exact ho) (by omega) hd2 ⟨hr0, hr1⟩ (by
      rw [drop_at (by omega), vl, hv, hset, vl, Int.add_mul, Int.mul_add, Int.mul_assoc 4294967296]
      have := Int.mul_comm b (n / b)
      omega)
    refine ⟨q, ?_, i2, i3, i4⟩
    have hl1 : (m : Int) < (a.length : Int) := by omega
    have hl2 : (m : Int) < (o.length : Int) := by omega
    rw [impl_shortMag.l0, e0, if_pos (show (m : Int) ≥ 0 by omega), if_pos (show (0 : Int) ≤ (m : Int) by omega), if_pos hl1, hw0, if_neg (by omega), if_pos hl2, hw1, hw2, hor, ht1, ht2, hw3, Int.emod_eq_of_lt hq0 hq1, bw64 (x := (m : Int) - 1) (by omega), Int.toNat_natCast]
    exact i1
theorem short_eq (a : List Int) (b : Int) (ha : D32 a) (hl : a.length ≤ 64) (hb : 1 ≤ b ∧ b ≤ 4294967295) : ∃ q, impl_shortMag.f 100 a b = some (trim q, vl a % b) ∧ D32 q ∧ vl q = vl a / b ∧ q.length = a.length := by
  unfold impl_shortMag.f
  rw [if_pos (by omega), if_pos (by omega), bw64 (by omega)]
  have e : ((a.length : Int)).toNat = a.length := by omega
  rw [e]
  refine short_at a b ha (by omega) hb a.length 100 (List.replicate a.length 0) 0 (by omega) (by simp) (Nat.le_refl _) (fun d hd => by rw [List.eq_of_mem_replicate hd]; omega) (by omega) ?_
  rw [List.drop_of_length_le (by simp), List.drop_of_length_le (by simp)]
  simp [vl]

/-! ### cmpMag -/
theorem pmono {i j : Nat} (h : i ≤ j) : (4294967296 : Int) ^ i ≤ 4294967296 ^ j := by
  have e : ∀ k : Nat, (4294967296 : Int) ^ k = ((4294967296 ^ k : Nat) : Int) := fun k => by rw [Int.natCast_pow]; rfl
  rw [e, e]
  exact Int.ofNat_le.2 (Nat.pow_le_pow_right (by decide) h)
theorem vl_split (l : List Int) (m : Nat) (h : m < l.length) : vl l = vl (l.take m) + 4294967296 ^ m * (rd l (m : Int) + 4294967296 * vl (l.drop (m + 1))) := by
  have := vl_app (l.take m) (l.drop m)
  rw [List.take_append_drop, List.length_take, Nat.min_eq_left (by omega), drop_at h, vl] at this
  exact this
theorem cmp_at (a b : List Int) (ha : D32 a) (hb : D32 b) (hl : a.length = b.length) (hs : a.length ≤ 1000) : ∀ (m k : Nat), m < k → m ≤ a.length → vl (a.drop m) = vl (b.drop m) →
    ∃ r, impl_cmpMag.l0 k a b ((m : Int) - 1) = some r ∧ (r < 0 ↔ vl a < vl b) ∧ (0 < r ↔ vl b < vl a) ∧ (-1 ≤ r ∧ r ≤ 1)
  | 0, k, hk, hm, hv => by
    obtain ⟨k, rfl⟩ : ∃ m, k = m + 1 := ⟨k - 1, by omega⟩
    rw [List.drop_zero, List.drop_zero] at hv
    refine ⟨0, by rw [impl_cmpMag.l0, if_neg (by simp)], by omega, by omega, by omega⟩
  | m + 1, k, hk, hm, hv => by
    obtain ⟨k, rfl⟩ : ∃ m, k = m + 1 := ⟨k - 1, by omega⟩
    have e0 : ((m + 1 : Nat) : Int) - 1 = (m : Int) := by omega
    have h1 : (m : Int) < (a.length : Int) := by omega
    have h2 : (m : Int) < (b.length : Int) := by omega
    have va := vl_split a m (by omega)
    have vb := vl_split b m (by omega)
    rw [hv] at va
    have ta := vl_lt (ha.take m)
    have tb := vl_lt (hb.take m)
    have na := vl_nn (ha.take m)
    have nb := vl_nn (hb.take m)
    rw [List.length_take, Nat.min_eq_left (by omega)] at ta tb
    rw [impl_cmpMag.l0, e0, if_pos (show (m : Int) ≥ 0 by omega), if_pos (show (0 : Int) ≤ (m : Int) by omega), if_pos h1, if_pos h2]
    generalize hy : vl (b.drop (m + 1)) = y at *
    generalize (4294967296 : Int) ^ m = p at *
    generalize hxa : rd a (m : Int) = xa at *
    generalize hxb : rd b (m : Int) = xb at *
    by_cases c1 : xa < xb
    · rw [if_pos c1]
      have : p * (xa + 4294967296 * y + 1) ≤ p * (xb + 4294967296 * y) := Int.mul_le_mul_of_nonneg_left (by omega) (by omega)
      rw [Int.mul_add p (xa + 4294967296 * y) 1] at this
      exact ⟨-1, rfl, by omega, by omega, by omega⟩
    · rw [if_neg c1]
      by_cases c2 : xa > xb
      · rw [if_pos c2]
        have : p * (xb + 4294967296 * y + 1) ≤ p * (xa + 4294967296 * y) := Int.mul_le_mul_of_nonneg_left (by omega) (by omega)
        rw [Int.mul_add p (xb + 4294967296 * y) 1] at this
        exact ⟨1, rfl, by omega, by omega, by omega⟩
      · rw [if_neg c2, bw64 (x := (m : Int) - 1) (by omega)]
        have hx : xa = xb := by omega
        refine cmp_at a b ha hb hl hs m k (by omega) (by omega) ?_
        rw [drop_at (l := a) (by omega), drop_at (l := b) (by omega), vl, vl, hxa, hxb, hx, hy, hv]
theorem cmp_eq {a b : List Int} {n m : Int} (ha : Rep a n) (hb : Rep b m) (hs : a.length ≤ 64) (hs2 : b.length ≤ 64) :
    ∃ r, impl_cmpMag.f 100 a b = some r ∧ (r < 0 ↔ n < m) ∧ (0 < r ↔ m < n) ∧ (-64 ≤ r ∧ r ≤ 64) := by
  unfold impl_cmpMag.f
  by_cases hl : (a.length : Int) = (b.length : Int)
  · rw [if_pos hl, bw64 (by omega)]
    obtain ⟨r, h1, h2, h3, h4⟩ := cmp_at a b ha.dig hb.dig (by omega) (by omega) a.length 100 (by omega) (Nat.le_refl _) (by rw [List.drop_of_length_le (Nat.le_refl _), List.drop_of_length_le (by omega)])
    rw [ha.val, hb.val] at h2 h3
    exact ⟨r, h1, h2, h3, by omega⟩
  · rw [if_neg hl, bw64 (by omega)]
    refine ⟨_, rfl, ?_, ?_, by omega⟩
    · rcases ha.len with ⟨a1, a2⟩ | ⟨a1, a2, a3⟩ <;> rcases hb.len with ⟨b1, b2⟩ | ⟨b1, b2, b3⟩
      · omega
      · have := Int.pow_pos (n := (4294967296 : Int)) (m := b.length - 1) (by decide)
        omega
      · have := Int.pow_pos (n := (4294967296 : Int)) (m := a.length - 1) (by decide)
        omega
      · rcases Nat.lt_or_ge a.length b.length with h | h
        · have := pmono (show a.length ≤ b.length - 1 by omega)
          omega
        · have := pmono (show b.length ≤ a.length - 1 by omega)
          omega
    · rcases ha.len with ⟨a1, a2⟩ | ⟨a1, a2, a3⟩ <;> rcases hb.len with ⟨b1, b2⟩ | ⟨b1, b2, b3⟩
      · omega
      · have := Int.pow_pos (n := (4294967296 : Int)) (m := b.length - 1) (by decide)
        omega
      · have := Int.pow_pos (n := (4294967296 : Int)) (m := a.length - 1) (by decide)
        omega
      · rcases Nat.lt_or_ge a.length b.length with h | h
        · have := pmono (show a.length ≤ b.length - 1 by omega)
          omega
        · have := pmono (show b.length ≤ a.length - 1 by omega)
          omega

/-! ### mulMag -/
set_option maxHeartbeats 400000 in
theorem vl_set : ∀ (l : List Int) (j : Nat) (d : Int), j < l.length → vl (l.set j d) = vl l + 4294967296 ^ j * (d - rd l (j : Int))
  | x :: l, 0, d, _ => by simp [vl, rd]; omega
  | x :: l, j + 1, d, h => by
    have := vl_set l j d (by simpa using h)
    rw [List.set_cons_succ, vl, vl, this, Int.pow_succ, Int.mul_add]
    have e : rd (x :: l) ((j + 1 : Nat) : Int) = rd l (j : Int) := by simp [rd]
    rw [e, Int.mul_comm ((4294967296 : Int) ^ j) 4294967296, Int.mul_assoc]
    omega
theorem D32.set {l : List Int} (h : D32 l) (j : Nat) {d : Int} (hd : 0 ≤ d ∧ d ≤ 4294967295) : D32 (l.set j d) := fun x hx => by
  rcases List.mem_or_eq_of_mem_set hx with h1 | h1
  · exact h x h1
  · rw [h1]; exact hd
theorem rd_set_ne {l : List Int} {i j : Nat} {d : Int} (h : i ≠ j) : rd (l.set i d) (j : Int) = rd l (j : Int) := by
  unfold rd
  simp only [Int.toNat_natCast, List.getD_eq_getElem?_getD]
  rw [List.getElem?_set_ne h]

theorem mul_nums {x y q c : Int} (hx : 0 ≤ x ∧ x ≤ 4294967295) (hy : 0 ≤ y ∧ y ≤ 4294967295) (hq : 0 ≤ q ∧ q ≤ 4294967295) (hc : 0 ≤ c ∧ c ≤ 4294967295) :
    IntKind.u64.wrap x = x ∧ IntKind.u64.wrap y = y ∧ IntKind.u64.wrap (x * y) = x * y ∧ IntKind.u64.wrap q = q ∧ IntKind.u64.wrap (x * y + q) = x * y + q ∧ IntKind.u64.wrap (c + (x * y + q)) = c + (x * y + q) ∧
    (0 ≤ (c + (x * y + q)) % 4294967296 ∧ (c + (x * y + q)) % 4294967296 ≤ 4294967295) ∧ (0 ≤ (c + (x * y + q)) / 4294967296 ∧ (c + (x * y + q)) / 4294967296 ≤ 4294967295) := by
  have := mul_le hx hy (by omega)
  simp only [IntKind.wrap_u64]
  generalize x * y = z at *
  omega
theorem lemB {n j L : Nat} (h : n + 1 + j = L) : n + (j + 1) = L := by omega
theorem lemC {n K k : Nat} (h : K + (n + 1) < k + 1) : K + n < k := by omega
theorem lemD {i j j' L : Nat} (h : i + L ≤ j') (h' : j < L) : i + j ≠ j' := by omega
theorem lemA {n j L : Nat} (h : n + 1 + j = L) : j < L := by omega
set_option maxHeartbeats 1000000 in
theorem mul_ex (a b : List Int) (ha : D32 a) (hb : D32 b) (hs : a.length + b.length ≤ 1000) (i : Nat) (hi : i < a.length) (x V0 : Int) (hx : 0 ≤ x ∧ x ≤ 4294967295) (K : Nat) (n : Nat) :
    ∀ (j k : Nat) (o : List Int) (c : Int), n + j = b.length → K + n < k → o.length = a.length + b.length → D32 o → (0 ≤ c ∧ c ≤ 4294967295) → Aside0 (vl o + c * 4294967296 ^ (i + j) = V0 + x * vl (b.take j) * 4294967296 ^ i) → (∀ j : Nat, i + b.length ≤ j → rd o (j : Int) = 0) →
    ∃ o2, o2.length = a.length + b.length ∧ D32 o2 ∧ Aside0 (vl o2 = V0 + x * vl b * 4294967296 ^ i) ∧ (∀ j : Nat, i + 1 + b.length ≤ j → rd o2 (j : Int) = 0) ∧ ∃ k2, K ≤ k2 ∧ impl_mulMag.l0 k2 b o2 a (a.length : Int) ((i : Int) + 1) = impl_mulMag.l1 k b o (i : Int) x c a (a.length : Int) (i : Int) b (b.length : Int) (j : Int) := by
  induction n with
  | zero =>
    intro j k o c hn hk ho hd hc hv hz
    obtain ⟨k, rfl⟩ : ∃ m, k = m + 1 := ⟨k - 1, by omega⟩
    have hj : j = b.length := by omega
    subst hj
    have hw : wrap64 ((i : Int) + (b.length : Int)) = ((i + b.length : Nat) : Int) := by rw [bw64 (by omega)]; omega
    have hw1 : wrap64 ((i : Int) + 1) = (i : Int) + 1 := bw64 (by omega)
    rw [impl_mulMag.l1, if_neg (by omega), hw, if_pos (by omega), if_pos (by omega), hw1, Int.toNat_natCast, Int.emod_eq_of_lt hc.1 (by omega)]
    have hlt : i + b.length < o.length := by rw [ho]; exact Nat.add_lt_add_right hi _
    refine ⟨_, by rw [List.length_set]; exact ho, hd.set _ hc, ?_, ?_, k, by omega, rfl⟩
    · refine ⟨?_⟩
      have hv := hv.out
      rw [List.take_length] at hv
      rw [vl_set _ _ _ hlt, hz (i + b.length) (Nat.le_refl _), Int.mul_comm ((4294967296 : Int) ^ (i + b.length)), Int.sub_zero]
      exact hv
    · intro j hj
      rw [rd_set_ne (by omega)]
      exact hz j (by omega)
  | succ n ih =>
    intro j k o c hn hk ho hd hc hv hz
    obtain ⟨k, rfl⟩ : ∃ m, k = m + 1 := ⟨k - 1, by omega⟩
    have hw : wrap64 ((i : Int) + (j : Int)) = ((i + j : Nat) : Int) := by rw [bw64 (by omega)]; omega
    have hw1 : wrap64 ((j : Int) + 1) = ((j + 1 : Nat) : Int) := by rw [bw64 (by omega)]; omega
    have hy := rd_ge hb (j : Int)
    have hq := rd_ge hd ((i + j : Nat) : Int)
    have hxy := mul_le hx hy (by omega)
    have hjb : j < b.length := lemA hn
    have hjb2 : j ≤ b.length := Nat.le_of_lt hjb
    have hijo : i + j < o.length := by rw [ho]; exact Nat.add_lt_add hi hjb
    have HB1 : Aside0 (vl (b.take (j + 1)) = vl (b.take j) + 4294967296 ^ j * rd b (j : Int)) := ⟨by
      rw [take_snoc hjb, vl_snoc, List.length_take, Nat.min_eq_left hjb2]⟩
    have c1 : (j : Int) < (b.length : Int) := Int.ofNat_lt.2 hjb
    have c2 : (0 : Int) ≤ (j : Int) := Int.natCast_nonneg _
    have c3 : (0 : Int) ≤ ((i + j : Nat) : Int) := Int.natCast_nonneg _
    have c4 : ((i + j : Nat) : Int) < (o.length : Int) := Int.ofNat_lt.2 hijo
    rw [impl_mulMag.l1]
    rw [if_pos c1]
    rw [if_pos c2]
    rw [if_pos c1]
    rw [hw]
    rw [if_pos c3]
    rw [if_pos c4]
    rw [hw1]
    rw [Int.toNat_natCast]
    generalize hyy : rd b (j : Int) = y at *
    generalize hqq : rd o ((i + j : Nat) : Int) = q at *
    obtain ⟨e1, e2, e3, e4, e5, e6, e7⟩ := mul_nums hx hy hq hc
    rw [e1, e2, e3, e4, e5, e6]
    have n1 := lemB hn
    have n2 := lemC hk
    clear c1 c2 c3 c4 hw hw1 e1 e2 e3 e4 e5 e6 hxy
    generalize hm : c + (x * y + q) = m
    rw [hm] at e7
    refine ih (j + 1) k _ _ n1 n2 (by rw [List.length_set]; exact ho) (hd.set _ e7.1) e7.2 ?_ ?_
    · refine ⟨?_⟩
      have hv := hv.out
      have hb1 := HB1.out
      rw [vl_set _ _ _ hijo, hqq, hb1, Int.mul_add x, Int.add_mul, ← Int.add_assoc V0, ← hv]
      have p1 : (4294967296 : Int) ^ (i + (j + 1)) = 4294967296 * 4294967296 ^ (i + j) := by rw [← Nat.add_assoc, Int.pow_succ, Int.mul_comm]
      have p2 : x * (4294967296 ^ j * y) * 4294967296 ^ i = x * y * 4294967296 ^ (i + j) := by
        rw [Int.pow_add, Int.mul_comm ((4294967296 : Int) ^ j) y, ← Int.mul_assoc x, Int.mul_assoc (x * y), Int.mul_comm ((4294967296 : Int) ^ j)]
      rw [p1, p2]
      generalize (4294967296 : Int) ^ (i + j) = p
      clear hv hb1
      have hmm : m % 4294967296 + 4294967296 * (m / 4294967296) = m := by omega
      have e7 : p * (m % 4294967296 - q) + m / 4294967296 * (4294967296 * p) = p * (m % 4294967296 + 4294967296 * (m / 4294967296)) - p * q := by
        rw [Int.mul_sub, Int.mul_add, Int.mul_left_comm p 4294967296, Int.mul_comm p (m / 4294967296), Int.mul_left_comm (m / 4294967296)]
        omega
      have e8 : p * m = p * c + (p * (x * y) + p * q) := by rw [← hm, Int.mul_add, Int.mul_add]
      have e9 : c * p = p * c := Int.mul_comm _ _
      have e10 : x * y * p = p * (x * y) := Int.mul_comm _ _
      rw [hmm, e8] at e7
      omega
    · intro j' hj'
      rw [rd_set_ne (lemD hj' hjb)]
      exact hz j' hj'
theorem mul_out (a b : List Int) (ha : D32 a) (hb : D32 b) (hs : a.length + b.length ≤ 1000) (hb64 : b.length ≤ 64) (n : Nat) : ∀ (i k : Nat) (o : List Int), n + i = a.length → n * 100 + 1 ≤ k → o.length = a.length + b.length → D32 o → vl o = vl (a.take i) * vl b → (∀ j : Nat, i + b.length ≤ j → rd o (j : Int) = 0) →
    ∃ r, impl_mulMag.l0 k b o a (a.length : Int) (i : Int) = some (trim r) ∧ D32 r ∧ vl r = vl a * vl b ∧ r.length = a.length + b.length := by
  induction n with
  | zero =>
    intro i k o hn hk ho hd hv hz
    obtain ⟨k, rfl⟩ : ∃ m, k = m + 1 := ⟨k - 1, by omega⟩
    have hi : i = a.length := by omega
    subst hi
    rw [List.take_length] at hv
    refine ⟨o, ?_, hd, hv, ho⟩
    rw [impl_mulMag.l0, if_neg (by omega)]
    unfold impl_trimmed.f
    rfl
  | succ n ih =>
    intro i k o hn hk ho hd hv hz
    obtain ⟨k, rfl⟩ : ∃ m, k = m + 1 := ⟨k - 1, by omega⟩
    have hx := rd_ge ha (i : Int)
    have hia : i < a.length := lemA hn
    have hia2 : i ≤ a.length := Nat.le_of_lt hia
    have HT : Aside0 (vl (a.take (i + 1)) = vl (a.take i) + 4294967296 ^ i * rd a (i : Int)) := ⟨by
      rw [take_snoc hia, vl_snoc, List.length_take, Nat.min_eq_left hia2]⟩
    obtain ⟨R, hR⟩ : ∃ R, impl_mulMag.l1 k b o (i : Int) (rd a (i : Int)) 0 a (a.length : Int) (i : Int) b (b.length : Int) 0 = R := ⟨_, rfl⟩
    have key : ∃ o2, o2.length = a.length + b.length ∧ D32 o2 ∧ Aside0 (vl o2 = vl o + rd a (i : Int) * vl b * 4294967296 ^ i) ∧ (∀ j : Nat, i + 1 + b.length ≤ j → rd o2 (j : Int) = 0) ∧ ∃ k2, n * 100 + 1 ≤ k2 ∧ impl_mulMag.l0 k2 b o2 a (a.length : Int) ((i : Int) + 1) = R := by
      rw [← hR]
      refine mul_ex a b ha hb hs i hia (rd a (i : Int)) (vl o) hx (n * 100 + 1) b.length 0 k o 0 (by omega) (by omega) ho hd (by omega) ⟨?_⟩ hz
      simp [vl]
    obtain ⟨o2, q1, q2, q3, q4, k2, q5, q6⟩ := key
    have e : ((i : Int) + 1) = ((i + 1 : Nat) : Int) := by omega
    rw [e] at q6
    obtain ⟨r, r1, r2⟩ := ih (i + 1) k2 o2 (by omega) q5 q1 q2 (by
      rw [q3.out, hv, HT.out, Int.add_mul]
      have : rd a (i : Int) * vl b * 4294967296 ^ i = 4294967296 ^ i * rd a (i : Int) * vl b := by rw [Int.mul_comm _ ((4294967296 : Int) ^ i), Int.mul_assoc]
      rw [this]) q4
    refine ⟨r, ?_, r2⟩
    rw [impl_mulMag.l0, if_pos (by omega), if_pos (by omega), if_pos (by omega), hR, ← q6]
    exact r1
theorem mul_eq (a b : List Int) (ha : D32 a) (hb : D32 b) (h1 : a.length ≤ 9) (h2 : b.length ≤ 9) : ∃ r, impl_mulMag.f 1000 a b = some (trim r) ∧ D32 r ∧ vl r = vl a * vl b ∧ r.length = a.length + b.length := by
  unfold impl_mulMag.f
  have hw : wrap64 ((a.length : Int) + (b.length : Int)) = ((a.length + b.length : Nat) : Int) := by rw [bw64 (by omega)]; omega
  rw [hw, if_pos (by omega), if_pos (by omega), Int.toNat_natCast]
  refine mul_out a b ha hb (by omega) (by omega) a.length 0 1000 (List.replicate (a.length + b.length) 0) (by omega) (by omega) (by simp) (fun d hd => by rw [List.eq_of_mem_replicate hd]; omega) ?_ ?_
  · rw [List.take_zero]
    have : ∀ n, vl (List.replicate n 0) = 0 := fun n => by
      induction n with
      | zero => rfl
      | succ n ih => rw [List.replicate_succ, vl, ih]; rfl
    rw [this]
    simp [vl]
  · intro j hj
    unfold rd
    rw [List.getD_eq_getElem?_getD, List.getElem?_replicate]
    split <;> rfl

end Go.Proofs.Ytpcekncfdcofhaa.Q
