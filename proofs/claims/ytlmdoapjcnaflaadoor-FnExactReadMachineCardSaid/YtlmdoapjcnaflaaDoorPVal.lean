/- Plain lemmas by hand: the number of a text, in the program and in the reference. -/
import Derived.Test.YtlmdoapjcnaflaaDoorQ0
import Derived.Test.YtlmdoapjcnaflaaDoorQ4
import Derived.Test.YtlmdoapjcnaflaaDoorPText
import Derived.Test.YtlmdoapjcnaflaaDoorGTextR
namespace Go.Proofs.YtlmdoapjcnaflaaDoor.Pure
open Go.RowKit Go.Proofs.YtlmdoapjcnaflaaDoor.Q Go.Proofs.YtlmdoapjcnaflaaDoorW.PrintWords Go.Proofs.YtlmdoapjcnaflaaDoorW.PrintLast
set_option linter.unusedVariables false
set_option linter.unusedSimpArgs false

def isDig (c : UInt8) : Bool := decide (48 ≤ c.toNat) && decide (c.toNat ≤ 57)
def valD : List UInt8 → Nat → Nat
  | [], a => a
  | c :: r, a => valD r (a * 10 + (c.toNat - 48))
theorem valD_append (l : List UInt8) (c : UInt8) : ∀ a, valD (l ++ [c]) a = valD l a * 10 + (c.toNat - 48) := by
  induction l with
  | nil => intro a; rfl
  | cons x r ih => intro a; exact ih _
theorem valD_ge (l : List UInt8) : ∀ a, a ≤ valD l a := by
  induction l with
  | nil => intro a; exact Nat.le_refl _
  | cons x r ih => intro a; have := ih (a * 10 + (x.toNat - 48)); simp only [valD]; omega
theorem ofNat_dig (d : Nat) (h : d < 10) : (UInt8.ofNat (48 + d)).toNat = 48 + d := by
  rw [UInt8.toNat_ofNat']; omega
theorem dig_is (d : Nat) (h : d < 10) : isDig (UInt8.ofNat (48 + d)) = true := by
  unfold isDig; rw [ofNat_dig d h]; simp; omega
theorem dec_spec (n : Nat) : ∀ u, u < n → (Lib.decDigits u).all isDig = true ∧ valD (Lib.decDigits u) 0 = u ∧ Lib.decDigits u ≠ [] := by
  induction n with
  | zero => intro u h; omega
  | succ n ih =>
    intro u h
    rw [Lib.decDigits]
    by_cases h1 : u < 10
    · rw [dif_pos h1]
      refine ⟨by rw [List.all_cons, dig_is u h1]; rfl, ?_, by simp⟩
      simp only [valD, ofNat_dig u h1]; omega
    · rw [dif_neg h1]
      obtain ⟨i1, i2, i3⟩ := ih (u / 10) (by omega)
      refine ⟨by rw [List.all_append, i1, List.all_cons, dig_is (u % 10) (by omega)]; rfl, ?_, by simp⟩
      rw [valD_append, i2, ofNat_dig (u % 10) (by omega)]; omega
theorem dec_all (u : Nat) : (Lib.decDigits u).all isDig = true := (dec_spec (u + 1) u (by omega)).1
theorem dec_val (u : Nat) : valD (Lib.decDigits u) 0 = u := (dec_spec (u + 1) u (by omega)).2.1
theorem dec_ne (u : Nat) : Lib.decDigits u ≠ [] := (dec_spec (u + 1) u (by omega)).2.2
theorem parseM_ok (l : List UInt8) : ∀ a, l.all isDig = true → valD l a ≤ 10000000000 → Lib.parseUintM (2 ^ 64 - 1) a l = .ok (valD l a) := by
  induction l with
  | nil => intro a _ _; rfl
  | cons c r ih =>
    intro a h hv
    rw [List.all_cons, Bool.and_eq_true] at h
    have hc : 48 ≤ c.toNat ∧ c.toNat ≤ 57 := by simpa [isDig] using h.1
    simp only [valD] at hv ⊢
    have := valD_ge r (a * 10 + (c.toNat - 48))
    rw [Lib.parseUintM, if_pos hc, if_neg (by omega), if_neg (by omega), ih _ h.2 hv]
theorem parse_itoa (v : Int) (h0 : -1000000000 ≤ v) (h1 : v ≤ 1000000000) : Lib.parseIntB 64 (Lib.itoa v) = .ok v := by
  unfold Lib.itoa
  by_cases h : v < 0
  · rw [if_pos h]
    have e : Lib.parseUintB 64 (Lib.decDigits v.natAbs) = .ok v.natAbs := by
      unfold Lib.parseUintB
      rw [if_neg (dec_ne _), parseM_ok _ 0 (dec_all _) (by rw [dec_val]; omega), dec_val]
    unfold Lib.parseIntB
    have e45 : (45 : UInt8).toNat = 45 := rfl
    simp only [e45, or_true, if_true, e]
    rw [if_neg (by simp), if_neg (by simp; omega)]
    simp; omega
  · rw [if_neg h]
    have e : Lib.parseUintB 64 (Lib.decDigits v.toNat) = .ok v.toNat := by
      unfold Lib.parseUintB
      rw [if_neg (dec_ne _), parseM_ok _ 0 (dec_all _) (by rw [dec_val]; omega), dec_val]
    have ha := dec_all v.toNat
    cases hd : Lib.decDigits v.toNat with
    | nil => exact absurd hd (dec_ne _)
    | cons c r =>
      rw [hd] at e ha
      rw [List.all_cons, Bool.and_eq_true] at ha
      have hc : 48 ≤ c.toNat ∧ c.toNat ≤ 57 := by simpa [isDig] using ha.1
      have n43 : ¬ (c.toNat = 43) := by omega
      have n45 : ¬ (c.toNat = 45) := by omega
      unfold Lib.parseIntB
      simp only [n43, n45, or_self, if_false]
      rw [e]
      show (if ¬ False ∧ 2 ^ (64 - 1) ≤ v.toNat then Lib.NumEnd.range else if False ∧ 2 ^ (64 - 1) < v.toNat then Lib.NumEnd.range else Lib.NumEnd.ok (v.toNat : Int)) = Lib.NumEnd.ok v
      rw [if_neg (by omega), if_neg (by simp)]
      have ev : ((v.toNat : Nat) : Int) = v := by omega
      rw [ev]
theorem itoa_inj {v u : Int} (h0 : -1000000000 ≤ v) (h1 : v ≤ 1000000000) (h2 : -1000000000 ≤ u) (h3 : u ≤ 1000000000) (h : itoaS v = itoaS u) : v = u := by
  have hl : Lib.itoa v = Lib.itoa u := by
    have := congrArg (fun x : ByteArray => x.data.toList) h
    simpa [itoaS] using this
  have e1 := parse_itoa v h0 h1
  rw [hl, parse_itoa u h2 h3] at e1
  injection e1 with e1
  exact e1.symm

/-- A number whose text it is. -/
def IsTx (s : ByteArray) (v : Int) : Prop := (-1000000000 ≤ v ∧ v ≤ 1000000000) ∧ itoaS v = s
theorem read_yes {s : ByteArray} {v : Int} (h : IsTx s v) : readV s (-1000000000) 1000000000 = (v, true) := by
  obtain ⟨hr, rfl⟩ := h
  unfold readV
  have : Lib.parseIntB 64 (itoaS v).data.toList = .ok v := by
    have e : (itoaS v).data.toList = Lib.itoa v := by simp [itoaS]
    rw [e]; exact parse_itoa v hr.1 hr.2
  rw [this]
  simp only [if_true]
  rw [if_pos hr]
theorem read_no {s : ByteArray} (h : ∀ v, ¬ IsTx s v) : readV s (-1000000000) 1000000000 = (0, false) := by
  unfold readV
  cases hp : Lib.parseIntB 64 s.data.toList with
  | ok v =>
    simp only
    by_cases h1 : itoaS v = s
    · rw [if_pos h1]
      by_cases h2 : -1000000000 ≤ v ∧ v ≤ 1000000000
      · exact absurd ⟨h2, h1⟩ (h v)
      · rw [if_neg h2]
    · rw [if_neg h1]
  | _ => rfl

theorem wrap_num (x : Int) : -9223372036854775808 ≤ wrap64 x ∧ wrap64 x ≤ 9223372036854775807 := by unfold wrap64; omega
theorem j3_no {s : ByteArray} (h : ∀ v, ¬ IsTx s v) (x : Int) (hx : -9223372036854775808 ≤ x ∧ x ≤ 9223372036854775807) (k : Nat) (hk : 30 < k) : spec_l01Value.j3 k s x = some (0, false) := by
  obtain ⟨k, rfl⟩ : ∃ m, k = m + 1 := ⟨k - 1, by omega⟩
  rw [spec_l01Value.j3, in_eq, Option.bind_some]
  cases hr : inR (-1000000000) 1000000000 x with
  | false => rfl
  | true =>
    have hr := inR_iff hr
    rw [if_pos rfl, dec_eq x hx.1 hx.2 k (by omega), Option.bind_some, if_neg]
    intro he
    exact h x ⟨hr, bytes_eq he⟩
theorem bt_pre (pre post : List UInt8) (c : UInt8) : bt (bs (pre ++ c :: post)) (pre.length : Int) = (c.toNat : Int) := by
  have h : ((pre.length : Int)).toNat < (bs (pre ++ c :: post)).size := by rw [bs_size]; simp
  unfold bt
  rw [dif_pos h]
  have e : (bs (pre ++ c :: post))[((pre.length : Int)).toNat]'h = c := by
    show (pre ++ c :: post).toArray[((pre.length : Int)).toNat]'_ = c
    simp
  rw [e]
theorem bs_of (s : ByteArray) : s = bs s.data.toList := by
  apply Go.WideShapes.bytes_inj
  simp [bs]
theorem loop_no (post : List UInt8) : ∀ (pre : List UInt8) (x f : Int) (k : Nat), (∀ v, ¬ IsTx (bs (pre ++ post)) v) → pre.length + post.length ≤ 100 → 40 + post.length < k → (-9223372036854775808 ≤ x ∧ x ≤ 9223372036854775807) →
    spec_l01Value.l0 k (bs (pre ++ post)) x f pre.length = some (0, false) := by
  induction post with
  | nil =>
    intro pre x f k h hp hk hx
    obtain ⟨k, rfl⟩ : ∃ m, k = m + 1 := ⟨k - 1, by omega⟩
    rw [spec_l01Value.l0, if_neg (by rw [bs_size]; simp)]
    by_cases hf : f = 1
    · rw [if_pos hf]; exact j3_no h _ (wrap_num _) k (by omega)
    · rw [if_neg hf]; exact j3_no h _ hx k (by omega)
  | cons c post ih =>
    intro pre x f k h hp hk hx
    simp only [List.length_cons] at hp hk
    obtain ⟨k, rfl⟩ : ∃ m, k = m + 1 := ⟨k - 1, by omega⟩
    have hlt : (pre.length : Int) < ((bs (pre ++ c :: post)).size : Int) := by rw [bs_size]; simp; omega
    have h0' : (0 : Int) ≤ (pre.length : Int) := by omega
    have e2 : wrap64 ((pre.length : Int) + 1) = ((pre ++ [c]).length : Int) := by rw [w64 (by omega)]; simp
    have e3 : pre ++ c :: post = (pre ++ [c]) ++ post := by simp
    rw [spec_l01Value.l0, if_pos hlt, if_pos h0', bt_pre]
    by_cases c1 : (c.toNat : Int) < 48
    · rw [if_pos c1]
    · rw [if_neg c1]
      by_cases c2 : (c.toNat : Int) > 57
      · rw [if_pos c2]
      · rw [if_neg c2, e2, e3]
        exact ih (pre ++ [c]) _ f k (by rw [← e3]; exact h) (by simp; omega) (by omega) (wrap_num _)
theorem loop_yes (post : List UInt8) : ∀ (pre : List UInt8) (a : Nat) (f : Int) (k : Nat), post.all isDig = true → valD post a ≤ 10000000000 → pre.length + post.length ≤ 100 → post.length < k →
    spec_l01Value.l0 k (bs (pre ++ post)) (a : Int) f pre.length = spec_l01Value.l0 (k - post.length) (bs (pre ++ post)) (valD post a : Int) f ((pre ++ post).length : Int) := by
  induction post with
  | nil => intro pre a f k h hv hp hk; simp [valD]
  | cons c post ih =>
    intro pre a f k h hv hp hk
    simp only [List.length_cons] at hp hk
    obtain ⟨k, rfl⟩ : ∃ m, k = m + 1 := ⟨k - 1, by omega⟩
    rw [List.all_cons, Bool.and_eq_true] at h
    have hc : 48 ≤ c.toNat ∧ c.toNat ≤ 57 := by simpa [isDig] using h.1
    simp only [valD] at hv
    have hg := valD_ge post (a * 10 + (c.toNat - 48))
    have hlt : (pre.length : Int) < ((bs (pre ++ c :: post)).size : Int) := by rw [bs_size]; simp; omega
    have h0' : (0 : Int) ≤ (pre.length : Int) := by omega
    have e2 : wrap64 ((pre.length : Int) + 1) = ((pre ++ [c]).length : Int) := by rw [w64 (by omega)]; simp
    have e3 : pre ++ c :: post = (pre ++ [c]) ++ post := by simp
    have e4 : wrap64 (wrap64 (10 * (a : Int)) + ((c.toNat : Int) - 48) % 256) = ((a * 10 + (c.toNat - 48) : Nat) : Int) := by rw [w64 (x := 10 * (a : Int)) (by omega), w64 (by omega)]; omega
    rw [spec_l01Value.l0, if_pos hlt, if_pos h0', bt_pre, if_neg (by omega), if_neg (by omega), e2, e4, e3, ih (pre ++ [c]) _ f k h.2 hv (by simp; omega) (by omega)]
    have e5 : k + 1 - (c :: post).length = k - post.length := by simp
    rw [e5]
    rfl
theorem itoa_short (v : Int) (h0 : -1000000000 ≤ v) (h1 : v ≤ 1000000000) : (Lib.itoa v).length ≤ 11 ∧ 1 ≤ (Lib.itoa v).length := by
  have hd : ∀ u : Nat, u ≤ 1000000000 → (Lib.decDigits u).length ≤ 10 ∧ 1 ≤ (Lib.decDigits u).length := fun u hu => by
    rw [dec_digs]
    have := digs_len 9 (u / 10) (by omega)
    simp; omega
  unfold Lib.itoa
  by_cases h : v < 0
  · rw [if_pos h]; have := hd v.natAbs (by omega); simp; omega
  · rw [if_neg h]; have := hd v.toNat (by omega); omega
theorem j3_yes (v : Int) (h0 : -1000000000 ≤ v) (h1 : v ≤ 1000000000) (k : Nat) (hk : 30 < k) : spec_l01Value.j3 k (itoaS v) v = some (v, true) := by
  obtain ⟨k, rfl⟩ : ∃ m, k = m + 1 := ⟨k - 1, by omega⟩
  have hr : inR (-1000000000) 1000000000 v = true := by unfold inR; simp; omega
  rw [spec_l01Value.j3, in_eq, Option.bind_some, hr, if_pos rfl, dec_eq v (by omega) (by omega) k (by omega), Option.bind_some, if_pos rfl]
theorem sval_yes (v : Int) (h0 : -1000000000 ≤ v) (h1 : v ≤ 1000000000) (k : Nat) (hk : 60 < k) : spec_l01Value.f k (itoaS v) = some (v, true) := by
  obtain ⟨l1, l2⟩ := itoa_short v h0 h1
  obtain ⟨k, rfl⟩ : ∃ m, k = m + 3 := ⟨k - 3, by omega⟩
  have hsz : ((itoaS v).size : Int) = (Lib.itoa v).length := by rw [itoaS_bs, bs_size]
  unfold spec_l01Value.f
  rw [if_neg (by omega), decide_eq_false (by omega), spec_l01Value.j0, if_neg (by simp), if_pos (by omega)]
  by_cases h : v < 0
  · have e : itoaS v = bs ([45] ++ Lib.decDigits v.natAbs) := by rw [itoaS_bs]; unfold Lib.itoa; rw [if_pos h]; rfl
    have hl : (Lib.decDigits v.natAbs).length ≤ 10 := by
      unfold Lib.itoa at l1; rw [if_pos h] at l1; simp at l1; omega
    have hb : bt (itoaS v) 0 = 45 := by rw [e]; rfl
    rw [if_pos hb, spec_l01Value.j1, e]
    have := loop_yes (Lib.decDigits v.natAbs) [45] 0 1 (k + 1) (dec_all _) (by rw [dec_val]; omega) (by simp; omega) (by omega)
    have e6 : spec_l01Value.l0 (k + 1) (bs ([45] ++ Lib.decDigits v.natAbs)) 0 1 1 = _ := this
    rw [e6, dec_val]
    obtain ⟨m, hm⟩ : ∃ m, k + 1 - (Lib.decDigits v.natAbs).length = m + 1 := ⟨k - (Lib.decDigits v.natAbs).length, by omega⟩
    have ev : wrap64 (-((v.natAbs : Nat) : Int)) = v := by rw [w64 (by omega)]; omega
    rw [hm, spec_l01Value.l0, if_neg (by rw [bs_size]; omega), if_pos rfl, ev, ← e]
    exact j3_yes v h0 h1 m (by omega)
  · have e : itoaS v = bs ([] ++ Lib.decDigits v.toNat) := by rw [itoaS_bs]; unfold Lib.itoa; rw [if_neg h]; rfl
    have hl : (Lib.decDigits v.toNat).length ≤ 11 := by
      unfold Lib.itoa at l1; rw [if_neg h] at l1; exact l1
    have hb : ¬ (bt (itoaS v) 0 = 45) := by
      rw [e]
      have ha := dec_all v.toNat
      cases hd : Lib.decDigits v.toNat with
      | nil => exact absurd hd (dec_ne _)
      | cons c r =>
        rw [hd, List.all_cons, Bool.and_eq_true] at ha
        have hc : 48 ≤ c.toNat ∧ c.toNat ≤ 57 := by simpa [isDig] using ha.1
        have := bt_pre [] r c
        intro hb
        have h2 : bt (bs ([] ++ c :: r)) 0 = (c.toNat : Int) := this
        omega
    rw [if_neg hb, spec_l01Value.j1, e]
    have := loop_yes (Lib.decDigits v.toNat) [] 0 0 (k + 1) (dec_all _) (by rw [dec_val]; omega) (by simp; omega) (by omega)
    have e6 : spec_l01Value.l0 (k + 1) (bs ([] ++ Lib.decDigits v.toNat)) 0 0 0 = _ := this
    rw [e6, dec_val]
    obtain ⟨m, hm⟩ : ∃ m, k + 1 - (Lib.decDigits v.toNat).length = m + 1 := ⟨k - (Lib.decDigits v.toNat).length, by omega⟩
    have ev : ((v.toNat : Nat) : Int) = v := by omega
    rw [hm, spec_l01Value.l0, if_neg (by rw [bs_size]; omega), if_neg (by omega), ev, ← e]
    exact j3_yes v h0 h1 m (by omega)
theorem sval_no {s : ByteArray} (h : ∀ v, ¬ IsTx s v) (k : Nat) (hk : 100 < k) : spec_l01Value.f k s = some (0, false) := by
  obtain ⟨k, rfl⟩ : ∃ m, k = m + 3 := ⟨k - 3, by omega⟩
  unfold spec_l01Value.f
  by_cases h1 : (s.size : Int) = 0
  · rw [if_pos h1, spec_l01Value.j0, if_pos rfl]
  · rw [if_neg h1]
    by_cases h2 : (s.size : Int) > 11
    · rw [decide_eq_true h2, spec_l01Value.j0, if_pos rfl]
    · rw [decide_eq_false h2, spec_l01Value.j0, if_neg (by simp), if_pos (by omega)]
      have hs : s.data.toList.length = s.size := by rw [Array.length_toList]; rfl
      cases hl : s.data.toList with
      | nil => rw [hl] at hs; simp at hs; omega
      | cons c r =>
        rw [hl, List.length_cons] at hs
        have e : s = bs (c :: r) := by rw [← hl]; exact bs_of s
        by_cases hb : bt s 0 = 45
        · rw [if_pos hb, spec_l01Value.j1]
          have h' : ∀ v, ¬ IsTx (bs ([c] ++ r)) v := by intro v hv; exact h v (by rw [e]; exact hv)
          have := loop_no r [c] 0 1 (k + 1) h' (by simp; omega) (by omega) (by omega)
          rw [e]
          exact this
        · rw [if_neg hb, spec_l01Value.j1]
          have h' : ∀ v, ¬ IsTx (bs ([] ++ c :: r)) v := by intro v hv; exact h v (by rw [e]; exact hv)
          have := loop_no (c :: r) [] 0 0 (k + 1) h' (by simp; omega) (by simp; omega) (by omega)
          rw [e]
          exact this
theorem val_eq (s : ByteArray) (k : Nat) (hk : 100 < k) : spec_l01Value.f k s = some (readV s (-1000000000) 1000000000) := by
  by_cases h : ∃ v, IsTx s v
  · obtain ⟨v, hv⟩ := h
    rw [read_yes hv]
    obtain ⟨hr, rfl⟩ := hv
    exact sval_yes v hr.1 hr.2 k (by omega)
  · have h' : ∀ v, ¬ IsTx s v := fun v hv => h ⟨v, hv⟩
    rw [read_no h', sval_no h' k hk]

end Go.Proofs.YtlmdoapjcnaflaaDoor.Pure
