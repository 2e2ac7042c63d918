/- Plain lemmas by hand: the numbers that the reference finds in a text. -/
import Derived.Test.YtlmdoapjcnaflaaDoorQ0
import Derived.Test.YtlmdoapjcnaflaaDoorQ18
import Derived.Test.YtlmdoapjcnaflaaDoorPCut
namespace Go.Proofs.YtlmdoapjcnaflaaDoor.Pure
open Go.RowKit Go.Proofs.YtlmdoapjcnaflaaDoor.Q Go.Proofs.YtlmdoapjcnaflaaDoorW.PrintWords Go.Proofs.YtlmdoapjcnaflaaDoorW.PrintLast
set_option linter.unusedVariables false
set_option linter.unusedSimpArgs false

/-- No digit stands ahead. -/
def stopH : List UInt8 → Prop
  | [] => True
  | c :: _ => isDig c = false
theorem lt8 {c n : Nat} (h : c + (n + 1) ≤ 8) : (c : Int) < 8 := by omega
theorem add8 {c n : Nat} (h : c + (n + 1) ≤ 8) : c + 1 + n ≤ 8 := by omega
theorem add2 {c n p : Nat} (h : c + (n + 1) + p ≤ 2000000) : c + 1 + n + p ≤ 2000000 := by omega
theorem ltsz (a b : Nat) : (a : Int) < a + 1 + b := by omega
theorem l1_run (ds : List UInt8) : ∀ (pre post : List UInt8) (acc : List Int) (sg : Int) (a c k : Nat), ds.all isDig = true → valD ds a ≤ 10000000000 → stopH post → c + ds.length ≤ 8 → acc.length ≤ 100 → pre.length + ds.length + post.length ≤ 2000000 →
    spec_l02Numbers.l1 (k + ds.length + 1) (bs (pre ++ ds ++ post)) acc pre.length sg a c = spec_l02Numbers.l0 k (bs (pre ++ ds ++ post)) (acc ++ [wrap64 (sg * (valD ds a : Int))]) ((pre ++ ds).length : Int) := by
  induction ds with
  | nil =>
    intro pre post acc sg a c k hd hv hs hc ha hp
    simp only [List.length_nil, Nat.add_zero, List.append_nil, valD] at hc hp ⊢
    rw [spec_l02Numbers.l1]
    by_cases h8 : (c : Int) < 8
    · rw [if_pos h8]
      cases post with
      | nil => rw [if_neg (by rw [bs_size]; simp), if_pos (by omega)]
      | cons x r =>
        have hsz : ((bs (pre ++ x :: r)).size : Int) = pre.length + 1 + r.length := by rw [bs_size]; simp; omega
        have h0' : (0 : Int) ≤ (pre.length : Int) := by omega
        rw [if_pos (by omega), if_pos h0', bt_pre]
        have hx : ¬ (48 ≤ x.toNat ∧ x.toNat ≤ 57) := by
          intro hh
          have hs' : isDig x = false := hs
          simp [isDig] at hs'
          omega
        by_cases g1 : (x.toNat : Int) ≥ 48
        · rw [if_pos g1, if_neg (by omega), if_pos (by omega)]
        · rw [if_neg g1, if_pos (by omega)]
    · rw [if_neg h8, if_pos (by omega)]
  | cons x ds ih =>
    intro pre post acc sg a c k hd hv hs hc ha hp
    simp only [List.length_cons] at hc hp ⊢
    rw [List.all_cons, Bool.and_eq_true] at hd
    have hx : 48 ≤ x.toNat ∧ x.toNat ≤ 57 := by simpa [isDig] using hd.1
    simp only [valD] at hv ⊢
    have hg := valD_ge ds (a * 10 + (x.toNat - 48))
    have ea : pre ++ x :: ds ++ post = pre ++ x :: (ds ++ post) := by simp
    have hsz : ((bs (pre ++ x :: (ds ++ post))).size : Int) = pre.length + 1 + (ds ++ post).length := by rw [bs_size]; simp; omega
    have h0' : (0 : Int) ≤ (pre.length : Int) := by omega
    have e1 : k + (ds.length + 1) + 1 = (k + ds.length + 1) + 1 := by omega
    have e2 : wrap64 ((pre.length : Int) + 1) = ((pre ++ [x]).length : Int) := by rw [w64 (by omega)]; simp
    have e4 : wrap64 (wrap64 (10 * (a : Int)) + ((x.toNat : Int) - 48) % 256) = ((a * 10 + (x.toNat - 48) : Nat) : Int) := by rw [w64 (x := 10 * (a : Int)) (by omega), w64 (by omega)]; omega
    have e5 : wrap64 ((c : Int) + 1) = ((c + 1 : Nat) : Int) := by rw [w64 (by omega)]; omega
    have g1 : (c : Int) < 8 := lt8 hc
    have g2 : (pre.length : Int) < ((bs (pre ++ x :: (ds ++ post))).size : Int) := by rw [hsz]; exact ltsz _ _
    have g3 : (x.toNat : Int) ≥ 48 := Int.ofNat_le.2 hx.1
    have g4 : (x.toNat : Int) ≤ 57 := Int.ofNat_le.2 hx.2
    have e0 : spec_l02Numbers.l1 (k + (ds.length + 1) + 1) (bs (pre ++ x :: ds ++ post)) acc (pre.length : Int) sg (a : Int) (c : Int) = spec_l02Numbers.l1 (k + ds.length + 1) (bs (pre ++ x :: (ds ++ post))) acc ((pre ++ [x]).length : Int) sg ((a * 10 + (x.toNat - 48) : Nat) : Int) ((c + 1 : Nat) : Int) := by
      rw [ea, e1, spec_l02Numbers.l1, if_pos g1, if_pos g2, if_pos h0', bt_pre, if_pos g3, if_pos g4, e2, e4, e5]
    rw [e0, ea]
    have := ih (pre ++ [x]) post acc sg (a * 10 + (x.toNat - 48)) (c + 1) k hd.2 hv hs (add8 hc) ha (by simpa using add2 hp)
    have e6 : pre ++ [x] ++ ds ++ post = pre ++ x :: (ds ++ post) := by simp
    have e7 : (pre ++ [x] ++ ds).length = (pre ++ x :: ds).length := by simp
    rw [e6, e7] at this
    exact this
theorem sep_step (c : UInt8) (hc : c = 44 ∨ c = 47) (pre post : List UInt8) (acc : List Int) (k : Nat) (hp : pre.length + post.length ≤ 2000000) :
    spec_l02Numbers.l0 (k + 3) (bs (pre ++ c :: post)) acc pre.length = spec_l02Numbers.l0 k (bs (pre ++ c :: post)) acc ((pre ++ [c]).length : Int) := by
  have hsz : ((bs (pre ++ c :: post)).size : Int) = pre.length + 1 + post.length := by rw [bs_size]; simp; omega
  have h0' : (0 : Int) ≤ (pre.length : Int) := by omega
  have e2 : wrap64 ((pre.length : Int) + 1) = ((pre ++ [c]).length : Int) := by rw [w64 (by omega)]; simp
  have hb : ¬ ((c.toNat : Int) = 45) ∧ (c.toNat : Int) < 48 := by rcases hc with rfl | rfl <;> decide
  rw [spec_l02Numbers.l0, if_pos (by omega), if_pos h0', bt_pre, if_neg hb.1, spec_l02Numbers.j1, if_pos h0', if_pos (by omega), bt_pre, if_pos hb.2, spec_l02Numbers.j2, if_pos rfl, if_pos (by decide), e2]
theorem dig_len (u : Nat) (h : u ≤ 99999999) : (Lib.decDigits u).length ≤ 8 := by
  rw [dec_digs]
  have := digs_len 7 (u / 10) (by omega)
  simp; omega
theorem num_step (v : Int) (h0 : -99999999 ≤ v) (h1 : v ≤ 99999999) : ∃ n, n ≤ 8 ∧ ∀ (pre post : List UInt8) (acc : List Int) (k : Nat), stopH post → acc.length ≤ 100 → pre.length + post.length ≤ 1000000 →
    spec_l02Numbers.l0 (k + n + 5) (bs (pre ++ Lib.itoa v ++ post)) acc pre.length = spec_l02Numbers.l0 k (bs (pre ++ Lib.itoa v ++ post)) (acc ++ [v]) ((pre ++ Lib.itoa v).length : Int) := by
  unfold Lib.itoa
  by_cases hv : v < 0
  · simp only [if_pos hv]
    have hl := dig_len v.natAbs (by omega)
    have ha := dec_all v.natAbs
    have hval := dec_val v.natAbs
    cases hd : Lib.decDigits v.natAbs with
    | nil => exact absurd hd (dec_ne _)
    | cons c ds =>
      rw [hd] at hl ha hval
      have ha' := ha
      rw [List.all_cons, Bool.and_eq_true] at ha'
      have hc : 48 ≤ c.toNat ∧ c.toNat ≤ 57 := by simpa [isDig] using ha'.1
      refine ⟨(c :: ds).length, hl, fun pre post acc k hs hacc hp => ?_⟩
      simp only [List.length_cons] at hl
      have ea : pre ++ (45 :: (c :: ds)) ++ post = pre ++ 45 :: (c :: ds ++ post) := by simp
      have eb : pre ++ 45 :: (c :: ds ++ post) = pre ++ [45] ++ c :: (ds ++ post) := by simp
      have hsz : ((bs (pre ++ 45 :: (c :: ds ++ post))).size : Int) = pre.length + 2 + ds.length + post.length := by rw [bs_size]; simp; omega
      have h0' : (0 : Int) ≤ (pre.length : Int) := by omega
      have h45 : (((45 : UInt8).toNat : Nat) : Int) = 45 := rfl
      have e2 : wrap64 ((pre.length : Int) + 1) = ((pre ++ [45]).length : Int) := by rw [w64 (by omega)]; simp
      have hp1 : ((pre ++ [(45 : UInt8)]).length : Int) = pre.length + 1 := by simp
      have e1 : k + (c :: ds).length + 5 = (k + (c :: ds).length + 1) + 1 + 1 + 1 + 1 := by omega
      rw [e1, ea, spec_l02Numbers.l0, if_pos (by omega), if_pos h0', bt_pre, if_pos h45, spec_l02Numbers.j1, if_pos h0', if_pos (by omega), bt_pre, if_pos (by omega), spec_l02Numbers.j2, if_pos rfl, if_neg (by decide), e2, if_neg (by omega), if_pos (by omega), if_pos (by omega), eb, bt_pre, if_neg (by omega), if_neg (by omega), spec_l02Numbers.j3]
      have := l1_run (c :: ds) (pre ++ [45]) post acc (-1) 0 0 k ha (by rw [hval]; omega) hs (by simp; omega) hacc (by simp; omega)
      have e6 : pre ++ [45] ++ (c :: ds) ++ post = pre ++ [45] ++ c :: (ds ++ post) := by simp
      have e7 : (pre ++ [45] ++ (c :: ds)).length = (pre ++ 45 :: c :: ds).length := by simp
      have e8 : wrap64 (-1 * ((valD (c :: ds) 0 : Nat) : Int)) = v := by rw [hval, w64 (by omega)]; omega
      rw [e6, e7, e8] at this
      exact this
  · simp only [if_neg hv]
    have hl := dig_len v.toNat (by omega)
    have ha := dec_all v.toNat
    have hval := dec_val v.toNat
    cases hd : Lib.decDigits v.toNat with
    | nil => exact absurd hd (dec_ne _)
    | cons c ds =>
      rw [hd] at hl ha hval
      have ha' := ha
      rw [List.all_cons, Bool.and_eq_true] at ha'
      have hc : 48 ≤ c.toNat ∧ c.toNat ≤ 57 := by simpa [isDig] using ha'.1
      refine ⟨(c :: ds).length, hl, fun pre post acc k hs hacc hp => ?_⟩
      simp only [List.length_cons] at hl
      have ea : pre ++ (c :: ds) ++ post = pre ++ c :: (ds ++ post) := by simp
      have hsz : ((bs (pre ++ c :: (ds ++ post))).size : Int) = pre.length + 1 + ds.length + post.length := by rw [bs_size]; simp; omega
      have h0' : (0 : Int) ≤ (pre.length : Int) := by omega
      have e1 : k + (c :: ds).length + 5 = (k + (c :: ds).length + 1) + 1 + 1 + 1 + 1 := by omega
      have hdec : decide ((c.toNat : Int) > 57) = false := decide_eq_false (by omega)
      rw [e1, ea, spec_l02Numbers.l0, if_pos (by omega), if_pos h0', bt_pre, if_neg (by omega), spec_l02Numbers.j1, if_pos h0', if_pos (by omega), bt_pre, if_neg (by omega), hdec, spec_l02Numbers.j2, if_neg (by decide), spec_l02Numbers.j3]
      have := l1_run (c :: ds) pre post acc 1 0 0 k ha (by rw [hval]; omega) hs (by simp; omega) hacc (by simp; omega)
      have e8 : wrap64 (1 * ((valD (c :: ds) 0 : Nat) : Int)) = v := by rw [hval, w64 (by omega)]; omega
      rw [ea, e8] at this
      exact this
/-- Numbers, each behind its own mark. -/
def tl : List (UInt8 × Int) → List UInt8
  | [] => []
  | x :: r => x.1 :: (Lib.itoa x.2 ++ tl r)
theorem tl_stop (l : List (UInt8 × Int)) (h : ∀ x ∈ l, x.1 = 44 ∨ x.1 = 47) : stopH (tl l) := by
  cases l with
  | nil => trivial
  | cons x r =>
    show isDig x.1 = false
    rcases h x (by simp) with e | e <;> rw [e] <;> rfl
theorem tl_len (l : List (UInt8 × Int)) (h : ∀ x ∈ l, -99999999 ≤ x.2 ∧ x.2 ≤ 99999999) : (tl l).length ≤ 12 * l.length := by
  induction l with
  | nil => simp [tl]
  | cons x r ih =>
    have h1 := h x (by simp)
    have h2 := itoa_short x.2 (by omega) (by omega)
    have h3 := ih (fun y hy => h y (by simp [hy]))
    simp only [tl, List.length_cons, List.length_append]
    omega
theorem nums_at (l : List (UInt8 × Int)) : ∀ (pre : List UInt8) (acc : List Int) (k : Nat), (∀ x ∈ l, (x.1 = 44 ∨ x.1 = 47) ∧ -99999999 ≤ x.2 ∧ x.2 ≤ 99999999) → acc.length + l.length ≤ 100 → pre.length + 12 * l.length ≤ 100000 → 20 * l.length < k →
    spec_l02Numbers.l0 k (bs (pre ++ tl l)) acc pre.length = some (acc ++ l.map (·.2)) := by
  induction l with
  | nil =>
    intro pre acc k h ha hp hk
    obtain ⟨k, rfl⟩ : ∃ m, k = m + 1 := ⟨k - 1, by omega⟩
    rw [spec_l02Numbers.l0, if_neg (by rw [bs_size]; simp [tl])]
    simp
  | cons x r ih =>
    intro pre acc k h ha hp hk
    simp only [List.length_cons] at ha hp hk
    obtain ⟨hx, h0, h1⟩ := h x (by simp)
    have hr : ∀ y ∈ r, (y.1 = 44 ∨ y.1 = 47) ∧ -99999999 ≤ y.2 ∧ y.2 ≤ 99999999 := fun y hy => h y (by simp [hy])
    have l1 := tl_len r (fun y hy => (hr y hy).2)
    have l2 := itoa_short x.2 (by omega) (by omega)
    obtain ⟨n, hn, hstep⟩ := num_step x.2 h0 h1
    obtain ⟨k, rfl⟩ : ∃ m, k = (m + n + 5) + 3 := ⟨k - (n + 8), by omega⟩
    rw [tl, sep_step x.1 hx pre _ acc (k + n + 5) (by simp; omega)]
    have e1 : pre ++ x.1 :: (Lib.itoa x.2 ++ tl r) = (pre ++ [x.1]) ++ Lib.itoa x.2 ++ tl r := by simp
    rw [e1, hstep (pre ++ [x.1]) (tl r) acc k (tl_stop r (fun y hy => (hr y hy).1)) (by omega) (by simp; omega), ih (pre ++ [x.1] ++ Lib.itoa x.2) (acc ++ [x.2]) k hr (by simp; omega) (by simp; omega) (by omega)]
    simp

theorem l1_tot (s : ByteArray) (hs : s.size ≤ 1048576) (acc : List Int) (ha : acc.length ≤ 1048576) (i0 : Int) (K : Nat) (H : ∀ (j : Int) (k : Nat) (v : Int), i0 < j → j ≤ s.size → K < k → ∃ L, spec_l02Numbers.l0 k s (acc ++ [v]) j = some L) :
    ∀ (m : Nat) (x7 i sg x6 : Int) (k : Nat), 8 - x7 ≤ m → 0 ≤ x7 → i0 < i → 0 ≤ i → i ≤ s.size → K + m + 1 < k → ∃ L, spec_l02Numbers.l1 k s acc i sg x6 x7 = some L := by
  intro m
  induction m with
  | zero =>
    intro x7 i sg x6 k h8 h0 hi hi0 his hk
    obtain ⟨k, rfl⟩ : ∃ m, k = m + 1 := ⟨k - 1, by omega⟩
    rw [spec_l02Numbers.l1, if_neg (by omega), if_pos (by omega)]
    exact H i k _ hi his (by omega)
  | succ m ih =>
    intro x7 i sg x6 k h8 h0 hi hi0 his hk
    obtain ⟨k, rfl⟩ : ∃ m, k = m + 1 := ⟨k - 1, by omega⟩
    rw [spec_l02Numbers.l1]
    by_cases h : x7 < 8
    · rw [if_pos h]
      by_cases h2 : i < (s.size : Int)
      · rw [if_pos h2, if_pos hi0]
        by_cases h3 : bt s i ≥ 48
        · rw [if_pos h3]
          by_cases h4 : bt s i ≤ 57
          · rw [if_pos h4, w64 (x := i + 1) (by omega), w64 (x := x7 + 1) (by omega)]
            exact ih (x7 + 1) (i + 1) sg _ k (by omega) (by omega) (by omega) (by omega) (by omega) (by omega)
          · rw [if_neg h4, if_pos (by omega)]
            exact H i k _ hi his (by omega)
        · rw [if_neg h3, if_pos (by omega)]
          exact H i k _ hi his (by omega)
      · rw [if_neg h2, if_pos (by omega)]
        exact H i k _ hi his (by omega)
    · rw [if_neg h, if_pos (by omega)]
      exact H i k _ hi his (by omega)
theorem j3_tot (s : ByteArray) (hs : s.size ≤ 1048576) (acc : List Int) (ha : acc.length ≤ 1048576) (i : Int) (hi : 0 ≤ i) (hlt : i < s.size) (hd : 48 ≤ bt s i ∧ bt s i ≤ 57) (K : Nat) (H : ∀ (j : Int) (k : Nat) (v : Int), i < j → j ≤ s.size → K < k → ∃ L, spec_l02Numbers.l0 k s (acc ++ [v]) j = some L) (sg : Int) (k : Nat) (hk : K + 20 < k) :
    ∃ L, spec_l02Numbers.j3 k s acc i sg = some L := by
  obtain ⟨k, rfl⟩ : ∃ m, k = m + 2 := ⟨k - 2, by omega⟩
  rw [spec_l02Numbers.j3, spec_l02Numbers.l1, if_pos (by omega), if_pos hlt, if_pos hi, if_pos (by omega), if_pos (by omega), w64 (x := i + 1) (by omega), w64 (x := 0 + 1) (by omega)]
  exact l1_tot s hs acc ha i K H 8 _ (i + 1) sg _ k (by decide) (by decide) (by omega) (by omega) (by omega) (by omega)
theorem nums_tot (s : ByteArray) (hs : s.size ≤ 1048576) (n : Nat) : ∀ (i : Int) (acc : List Int) (k : Nat), (s.size : Int) - i ≤ n → 0 ≤ i → i ≤ s.size → acc.length ≤ i → 40 * n + 10 < k → ∃ L, spec_l02Numbers.l0 k s acc i = some L := by
  induction n with
  | zero =>
    intro i acc k hn hi his ha hk
    obtain ⟨k, rfl⟩ : ∃ m, k = m + 1 := ⟨k - 1, by omega⟩
    rw [spec_l02Numbers.l0, if_neg (by omega)]
    exact ⟨_, rfl⟩
  | succ n ih =>
    intro i acc k hn hi his ha hk
    obtain ⟨k, rfl⟩ : ∃ m, k = m + 3 := ⟨k - 3, by omega⟩
    rw [spec_l02Numbers.l0]
    by_cases hlt : i < (s.size : Int)
    · rw [if_pos hlt, if_pos hi]
      have hadv : ∀ k, 40 * n + 10 < k → ∃ L, spec_l02Numbers.l0 k s acc (wrap64 (i + 1)) = some L := fun k hk => by
        rw [w64 (by omega)]
        exact ih (i + 1) acc k (by omega) (by omega) (by omega) (by omega) hk
      have hH : ∀ i' : Int, i ≤ i' → ∀ (j : Int) (k : Nat) (v : Int), i' < j → j ≤ s.size → 40 * n + 10 < k → ∃ L, spec_l02Numbers.l0 k s (acc ++ [v]) j = some L := fun i' hi' j k v h1 h2 h3 =>
        ih j (acc ++ [v]) k (by omega) (by omega) h2 (by simp; omega) h3
      have hj1 : ∀ sg : Int, ∃ L, spec_l02Numbers.j1 (k + 2) s acc i sg = some L := fun sg => by
        have hj2t : ∃ L, spec_l02Numbers.j2 (k + 1) s acc i sg true = some L := by
          rw [spec_l02Numbers.j2, if_pos rfl]
          by_cases g1 : sg > 0
          · rw [if_pos g1]; exact hadv k (by omega)
          · rw [if_neg g1]
            by_cases g2 : wrap64 (i + 1) = (s.size : Int)
            · rw [if_pos g2]; exact hadv k (by omega)
            · have e : wrap64 (i + 1) = i + 1 := w64 (by omega)
              rw [if_neg g2, if_pos (by omega), if_pos (by omega)]
              by_cases g3 : bt s (wrap64 (i + 1)) < 48
              · rw [if_pos g3]; exact hadv k (by omega)
              · rw [if_neg g3]
                by_cases g4 : bt s (wrap64 (i + 1)) > 57
                · rw [if_pos g4]; exact hadv k (by omega)
                · rw [if_neg g4]
                  exact j3_tot s hs acc (by omega) _ (by omega) (by omega) ⟨by omega, by omega⟩ (40 * n + 10) (hH _ (by omega)) sg k (by omega)
        rw [spec_l02Numbers.j1, if_pos hi, if_pos hlt]
        by_cases g : bt s i < 48
        · rw [if_pos g]; exact hj2t
        · rw [if_neg g]
          by_cases g2 : bt s i > 57
          · rw [decide_eq_true g2]; exact hj2t
          · rw [decide_eq_false g2, spec_l02Numbers.j2, if_neg (by simp)]
            exact j3_tot s hs acc (by omega) i hi hlt ⟨by omega, by omega⟩ (40 * n + 10) (hH i (by omega)) sg k (by omega)
      by_cases g : bt s i = 45
      · rw [if_pos g]; exact hj1 _
      · rw [if_neg g]; exact hj1 _
    · rw [if_neg hlt]; exact ⟨_, rfl⟩

end Go.Proofs.YtlmdoapjcnaflaaDoor.Pure
