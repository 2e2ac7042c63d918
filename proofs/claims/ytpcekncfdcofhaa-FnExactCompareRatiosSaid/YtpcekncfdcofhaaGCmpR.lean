/- Contracts by hand: bigRat.Cmp. -/
import Derived.Test.YtpcekncfdcofhaaQ0
import Derived.Test.YtpcekncfdcofhaaGRat
namespace Go.Proofs.Ytpcekncfdcofhaa.Q
open Go.RowKit Go.Proofs.YtpcekncfdcofhaaW.PrintWords Go.Proofs.YtpcekncfdcofhaaW.PrintLast Go.Proofs.YtpcekncfdcofhaaW.PrintMore
set_option linter.unusedVariables false
set_option linter.unusedSimpArgs false

def rc_T : Bool × List (List Nat × List Nat) := (true, [([], []), ([], []), ([1], [1]), ([2], [2]), ([], []), ([4], [4]), ([0, 3, 5, 5], [0, 3, 5]), ([], []), ([], []), ([8], [8]), ([9], [9]), ([], []), ([11, 6], [11]), ([7, 10, 12, 12], [7, 10, 12]), ([6, 13, 13], [6, 13]), ([14, 14, 0, 1, 2, 3, 4, 5, 6, 7, 8, 9, 10, 11, 12, 13, 14], [14])])
def rc_B : List Nat := [0, 0, 2, 6, 0, 16, 63, 0, 0, 256, 768, 0, 2175, 8191, 16383, 32767]
theorem rc_tab : rtab .any (opsOf Try.f31 1) = rc_T := by kernel_rfl
theorem rc_bits : waitsOk rc_T.2 rc_B = true := by kernel_rfl

structure CB (n0 r s : Nat) (P Q R S : Int) (w W : World) : Prop where
  a0 : Nm n0 W r 0 P
  a1 : Nm n0 W r 2 Q
  b0 : Nm n0 W s 0 R
  b1 : Nm n0 W s 2 S
  bl : Below n0 w W
  le : n0 ≤ W.heap.size
theorem CB.below0 {n0 r s : Nat} {P Q R S : Int} {w W W' : World} (h : CB n0 r s P Q R S w W) (hb : Below n0 W W') : CB n0 r s P Q R S w W' :=
  ⟨h.a0.below hb, h.a1.below hb, h.b0.below hb, h.b1.below hb, h.bl.trans hb, Nat.le_trans h.le hb.size⟩
theorem CB.below {n0 r s : Nat} {P Q R S : Int} {w W W' : World} (h : CB n0 r s P Q R S w W) (hb : Below W.heap.size W W') : CB n0 r s P Q R S w W' := h.below0 (hb.mono h.le)
/-- A number of the call's own that is about to be written; one that has been. -/
structure RcN (n0 : Nat) (W : World) (g : Nat) : Prop where
  o : Rc W g
  b : n0 ≤ g
structure NmN (n0 : Nat) (W : World) (d : Nat) (z : Int) : Prop where
  o : Nm W.heap.size W d 0 z
  b : n0 ≤ d
theorem RcN.below {n0 g : Nat} {W W' : World} (h : RcN n0 W g) (hb : Below W.heap.size W W') : RcN n0 W' g := ⟨h.1.below h.1.lt hb, h.2⟩
theorem NmN.below {n0 g : Nat} {W W' : World} {z : Int} (h : NmN n0 W g z) (hb : Below W.heap.size W W') : NmN n0 W' g z := ⟨(h.1.below hb).now, h.2⟩
theorem RcN.ne {n0 g k : Nat} {W : World} (h : RcN n0 W g) (hk : W.heap.size ≤ k) : g ≠ k := Nat.ne_of_lt (Nat.lt_of_lt_of_le h.1.lt hk)
theorem NmN.ne {n0 g k : Nat} {W : World} {z : Int} (h : NmN n0 W g z) (hk : W.heap.size ≤ k) : g ≠ k := Nat.ne_of_lt (Nat.lt_of_lt_of_le h.1.lo hk)
theorem RcN.fr {n0 g k : Nat} {W W' : World} (h : RcN n0 W k) (hf : Fr g W W') (hne : k ≠ g) : RcN n0 W' k := ⟨h.1.fr hf hne, h.2⟩
theorem NmN.fr {n0 g k : Nat} {W W' : World} {z : Int} (h : NmN n0 W k z) (hr : Rc W g) (hf : Fr g W W') (hne : k ≠ g) : NmN n0 W' k z := ⟨h.1.fr hr hf hne, h.2⟩
structure SZ (P Q R S : Int) : Prop where
  p : -1000000000000000000 ≤ P ∧ P ≤ 1000000000000000000
  q : 0 < Q ∧ Q ≤ 1000000000000000000
  r : -1000000000000000000 ≤ R ∧ R ≤ 1000000000000000000
  s : 0 < S ∧ S ≤ 1000000000000000000
theorem SZ.q1 {P Q R S : Int} (h : SZ P Q R S) : -1000000000000000000 ≤ Q ∧ Q ≤ 1000000000000000000 := by have := h.q; omega
theorem SZ.s1 {P Q R S : Int} (h : SZ P Q R S) : -1000000000000000000 ≤ S ∧ S ≤ 1000000000000000000 := by have := h.s; omega
theorem prod_le {x y : Int} (hx : -1000000000000000000 ≤ x ∧ x ≤ 1000000000000000000) (hy : 0 < y ∧ y ≤ 1000000000000000000) : -1000000000000000000000000000000000000 ≤ x * y ∧ x * y ≤ 1000000000000000000000000000000000000 := by
  have h1 : x * y ≤ 1000000000000000000 * y := Int.mul_le_mul_of_nonneg_right hx.2 (by omega)
  have h2 : -1000000000000000000 * y ≤ x * y := Int.mul_le_mul_of_nonneg_right hx.1 (by omega)
  omega
theorem denomX {n0 r s : Nat} {P Q R S : Int} {w W : World} (hz : SZ P Q R S) (h : CB n0 r s P Q R S w W) :
    Calls Try.prog 41 #[.pointer (some ⟨s, 0, none⟩)] W fun e W' => ∃ d, e = .returned (.pointer (some ⟨d, 0, none⟩)) ∧ NmN n0 W' d S ∧ W.heap.size ≤ d ∧ Below W.heap.size W W' := by
  refine (denom_calls s S W h.b1.now hz.s).mono ?_
  rintro e W' ⟨d, h1, h2, h3, h4⟩
  exact ⟨d, h1, ⟨h3, Nat.le_trans h.le h2⟩, h2, h4⟩
theorem denomZ {n0 r s : Nat} {P Q R S : Int} {w W : World} (hz : SZ P Q R S) (h : CB n0 r s P Q R S w W) :
    Calls Try.prog 41 #[.pointer (some ⟨r, 0, none⟩)] W fun e W' => ∃ d, e = .returned (.pointer (some ⟨d, 0, none⟩)) ∧ NmN n0 W' d Q ∧ W.heap.size ≤ d ∧ Below W.heap.size W W' := by
  refine (denom_calls r Q W h.a1.now hz.q).mono ?_
  rintro e W' ⟨d, h1, h2, h3, h4⟩
  exact ⟨d, h1, ⟨h3, Nat.le_trans h.le h2⟩, h2, h4⟩
theorem mul_step {n0 r s g p d : Nat} {P Q R S x z : Int} {w W : World} (h : CB n0 r s P Q R S w W) (hg : RcN n0 W g) (hd : NmN n0 W d z) (hne : d ≠ g) (hp : Nm n0 W p 0 x) (hx : -1000000000000000000 ≤ x ∧ x ≤ 1000000000000000000) (hz : -1000000000000000000 ≤ z ∧ z ≤ 1000000000000000000) :
    Calls Try.prog 40 #[.pointer (some ⟨g, 0, none⟩), .pointer (some ⟨p, 0, none⟩), .pointer (some ⟨d, 0, none⟩)] W fun e W' => e = .returned (.pointer (some ⟨g, 0, none⟩)) ∧ NmN n0 W' g (x * z) ∧ Fr g W W' ∧ CB n0 r s P Q R S w W' := by
  refine (mul_calls W.heap.size g p d x z W hg.1 (by have := hp.lo; have := hg.2; omega) hne hp.now hd.1 hx hz).mono ?_
  rintro e W' ⟨h1, h2, h3, h4⟩
  exact ⟨h1, ⟨h2, hg.2⟩, h3, h.below0 (h4.mono hg.2)⟩
structure J0 (n0 r s : Nat) (P Q R S : Int) (w W : World) (a d : Nat) : Prop where
  cb : CB n0 r s P Q R S w W
  g1 : RcN n0 W a
  d1 : NmN n0 W d S
  ne1 : d ≠ a
structure J1 (n0 r s : Nat) (P Q R S : Int) (w W : World) (a d b : Nat) : Prop where
  cb : CB n0 r s P Q R S w W
  g1 : RcN n0 W a
  d1 : NmN n0 W d S
  g2 : RcN n0 W b
  ne1 : d ≠ a
  ne2 : a ≠ b
structure J2 (n0 r s : Nat) (P Q R S : Int) (w W : World) (a b : Nat) : Prop where
  cb : CB n0 r s P Q R S w W
  m1 : NmN n0 W a (P * S)
  g2 : RcN n0 W b
  ne1 : a ≠ b
structure J3 (n0 r s : Nat) (P Q R S : Int) (w W : World) (a b d : Nat) : Prop where
  cb : CB n0 r s P Q R S w W
  m1 : NmN n0 W a (P * S)
  d2 : NmN n0 W d Q
  g2 : RcN n0 W b
  ne1 : a ≠ b
  ne2 : d ≠ b

set_option maxHeartbeats 16000000 in
set_option maxRecDepth 100000 in
theorem ratcmp_calls (n0 r s : Nat) (P Q R S : Int) (w : World) (hcb : CB n0 r s P Q R S w w) (hsz : SZ P Q R S) :
    Calls Try.prog 31 #[.pointer (some ⟨r, 0, none⟩), .pointer (some ⟨s, 0, none⟩)] w fun e w' => e = .returned (.int .i64 (sgn (P * S - R * Q))) ∧ Below n0 w w' := by
  have hu54 := Try.underlying54
  have hu56 := Try.underlying56
  have hu58 := Try.underlying58
  have HC0 := Aside0.mk hcb
  have HSZ := Aside0.mk hsz
  clear hcb hsz
  go_enter Try.func31, Try.ntmps31
  go_wp2
  refine start_ (n := 16) (S := fun _ => True) (ds := []) #[false, false, false, false, false, false, false, false, false, false, false, false, false, false, false, false] (by kernel_rfl) rfl rfl trivial (fun hHeld => ?_)
  refine with_tabW rc_tab rc_bits (fun HT_ HW_ => ?_)
  generalize hw1 : w.drew = w1 at hHeld ⊢
  have HCB : Aside0 (CB n0 r s P Q R S w w1) := ⟨by rw [← hw1]; exact HC0.out.below (below_drew (Below.refl _ w))⟩
  clear hw1 hHeld
  refine pure_ (i := 1) (N := some 6) (v := ?_) (a' := ?_) #[false, true, false, false, false, false, false, false, false, false, false, false, false, false, false, false] rfl rfl (any_of HT_.out (by kernel_rfl)) (fun _ _ _ h => h) (Or.inl ⟨by rfl, ?_⟩) ?_ ?_
  rotate_left
  · intro w'
    go_simp
    with_reducible rfl
  rotate_left
  · simp only [Act.put, List.setIfInBounds_toArray, List.set_cons_zero, List.set_cons_succ, i64_w, i32_w]
    rfl
  refine pure_ (i := 2) (N := some 7) (v := ?_) (a' := ?_) #[false, true, true, false, false, false, false, false, false, false, false, false, false, false, false, false] rfl rfl (any_of HT_.out (by kernel_rfl)) (fun _ _ _ h => h) (Or.inl ⟨by rfl, ?_⟩) ?_ ?_
  rotate_left
  · intro w'
    go_simp
    with_reducible rfl
  rotate_left
  · simp only [Act.put, List.setIfInBounds_toArray, List.set_cons_zero, List.set_cons_succ, i64_w, i32_w]
    rfl
  refine pure_ (i := 3) (N := some 8) (v := ?_) (a' := ?_) #[false, true, true, true, false, false, false, false, false, false, false, false, false, false, false, false] rfl rfl (any_of HT_.out (by kernel_rfl)) (fun _ _ _ h => h) (Or.inl ⟨by rfl, ?_⟩) ?_ ?_
  rotate_left
  · intro w'
    go_simp
    with_reducible rfl
  rotate_left
  · simp only [Act.put, List.setIfInBounds_toArray, List.set_cons_zero, List.set_cons_succ, i64_w, i32_w]
    rfl
  refine pure_ (i := 4) (N := some 9) (v := ?_) (a' := ?_) #[false, true, true, true, true, false, false, false, false, false, false, false, false, false, false, false] rfl rfl (any_of HT_.out (by kernel_rfl)) (fun _ _ _ h => h) (Or.inl ⟨by rfl, ?_⟩) ?_ ?_
  rotate_left
  · intro w'
    go_simp
    with_reducible rfl
  rotate_left
  · simp only [Act.put, List.setIfInBounds_toArray, List.set_cons_zero, List.set_cons_succ, i64_w, i32_w]
    rfl
  refine pure_ (i := 8) (N := some 13) (v := ?_) (a' := ?_) #[false, true, true, true, true, false, false, false, true, false, false, false, false, false, false, false] rfl rfl (any_of HT_.out (by kernel_rfl)) (fun _ _ _ h => h) (Or.inl ⟨by rfl, ?_⟩) ?_ ?_
  rotate_left
  · intro w'
    go_simp
    with_reducible rfl
  rotate_left
  · simp only [Act.put, List.setIfInBounds_toArray, List.set_cons_zero, List.set_cons_succ, i64_w, i32_w]
    rfl
  refine pure_ (i := 9) (N := some 14) (v := ?_) (a' := ?_) #[false, true, true, true, true, false, false, false, true, true, false, false, false, false, false, false] rfl rfl (any_of HT_.out (by kernel_rfl)) (fun _ _ _ h => h) (Or.inl ⟨by rfl, ?_⟩) ?_ ?_
  rotate_left
  · intro w'
    go_simp
    with_reducible rfl
  rotate_left
  · simp only [Act.put, List.setIfInBounds_toArray, List.set_cons_zero, List.set_cons_succ, i64_w, i32_w]
    rfl
  refine pure_ (i := 10) (N := some 15) (v := ?_) (a' := ?_) #[false, true, true, true, true, false, false, false, true, true, true, false, false, false, false, false] rfl rfl (any_of HT_.out (by kernel_rfl)) (fun _ _ _ h => h) (Or.inl ⟨by rfl, ?_⟩) ?_ ?_
  rotate_left
  · intro w'
    go_simp
    with_reducible rfl
  rotate_left
  · simp only [Act.put, List.setIfInBounds_toArray, List.set_cons_zero, List.set_cons_succ, i64_w, i32_w]
    rfl
  refine pure_ (i := 11) (N := some 16) (v := ?_) (a' := ?_) #[false, true, true, true, true, false, false, false, true, true, true, true, false, false, false, false] rfl rfl (any_of HT_.out (by kernel_rfl)) (fun _ _ _ h => h) (Or.inl ⟨by rfl, ?_⟩) ?_ ?_
  rotate_left
  · intro w'
    go_simp
    with_reducible rfl
  rotate_left
  · simp only [Act.put, List.setIfInBounds_toArray, List.set_cons_zero, List.set_cons_succ, i64_w, i32_w]
    rfl
  refine join_ (ds := []) (σ := Nat × Nat × Nat × Nat) 3 #[true, true, true, true, true, true, true, true, true, true, true, true, true, false, false, false] (fun s_ => [(5, .pointer (some ⟨s_.1, 0, none⟩)), (10, .pointer (some ⟨s_.2.1, 0, none⟩)), (11, .pointer (some ⟨s_.1, 0, none⟩)), (12, .pointer (some ⟨s_.2.2.1, 0, none⟩)), (17, .pointer (some ⟨s_.2.2.2, 0, none⟩))]) (fun s_ W => J3 n0 r s P Q R S w W s_.1 s_.2.2.1 s_.2.2.2) ?J3 (fun HJ3 => ?_)
  case J3 =>
    rintro ⟨g1, d1, g2, d2⟩ W h3
    refine norm_ (a' := ?_) ?_ ?_
    rotate_left
    · simp only [putAll, Act.put, List.setIfInBounds_toArray, List.set_cons_zero, List.set_cons_succ, i64_w, i32_w]
      rfl
    refine one_ (i := 13) (N := some 18) #[true, true, true, true, true, true, true, true, true, true, true, true, true, true, false, false] rfl rfl (one_of HT_.out (by kernel_rfl)) (by decide) (fun K hK => ?_)
    refine goes_ Try.func40 (by kernel_rfl) rfl #[.pointer (some ⟨g2, 0, none⟩), .pointer (some ⟨s, 0, none⟩), .pointer (some ⟨d2, 0, none⟩)] (by rfl) rfl rfl (by (try simp only [List.map_toArray, List.map_cons, List.map_nil]); first | done | rfl | (simp only [List.length_drop, List.length_take]; rfl)) ?_
    with_reducible refine (mul_step (x := R) (z := Q) h3.cb h3.g2 h3.d2 h3.ne2 h3.cb.b0 HSZ.out.r HSZ.out.q1).mono ?_
    rintro e W1 ⟨rfl, hm_W1, hf_W1, hc_W1⟩
    refine ⟨_, rfl, ?_⟩
    refine hK.out _ _ trivial (fun _ => ?_)
    clear hK K
    refine norm_ (a' := ?_) ?_ ?_
    rotate_left
    · simp only [putAll, Act.put, List.setIfInBounds_toArray, List.set_cons_zero, List.set_cons_succ, i64_w, i32_w]
      rfl
    have hm1 := h3.m1.fr h3.g2.1 hf_W1 h3.ne1
    refine one_ (i := 14) (N := some 19) #[true, true, true, true, true, true, true, true, true, true, true, true, true, true, true, false] rfl rfl (one_of HT_.out (by kernel_rfl)) (by decide) (fun K hK => ?_)
    refine goes_ Try.func42 (by kernel_rfl) rfl #[.pointer (some ⟨g1, 0, none⟩), .pointer (some ⟨g2, 0, none⟩)] (by rfl) rfl rfl (by (try simp only [List.map_toArray, List.map_cons, List.map_nil]); first | done | rfl | (simp only [List.length_drop, List.length_take]; rfl)) ?_
    with_reducible refine (icmp_calls _ g1 g2 (P * S) (R * Q) _ hm1.1 hm_W1.1 (prod_le HSZ.out.p HSZ.out.s) (prod_le HSZ.out.r HSZ.out.q)).mono ?_
    rintro e W2 ⟨rfl, hb⟩
    refine ⟨_, rfl, ?_⟩
    refine hK.out _ _ trivial (fun _ => ?_)
    clear hK K
    refine norm_ (a' := ?_) ?_ ?_
    rotate_left
    · simp only [putAll, Act.put, List.setIfInBounds_toArray, List.set_cons_zero, List.set_cons_succ, i64_w, i32_w]
      rfl
    have HE := Aside0.mk (hc_W1.below hb).bl
    clear hb hc_W1 hm1 hm_W1 hf_W1 h3
    refine pure_ (i := 15) (N := some 4) (v := ?_) (a' := ?_) #[true, true, true, true, true, true, true, true, true, true, true, true, true, true, true, true] rfl rfl (any_of HT_.out (by kernel_rfl)) (fun _ _ _ h => h) (Or.inl ⟨by rfl, ?_⟩) ?_ ?_
    rotate_left
    · intro w'
      go_simp
      with_reducible rfl
    rotate_left
    · simp only [Act.put, List.setIfInBounds_toArray, List.set_cons_zero, List.set_cons_succ, i64_w, i32_w]
      rfl
    refine done_ (done_of HT_.out (by kernel_rfl)) ?_
    go_wp2
    go_ret
    exact ⟨rfl, HE.out⟩
  refine join_ (ds := []) (σ := Nat × Nat × Nat) 4 #[true, true, true, true, true, true, true, true, true, true, true, true, false, false, false, false] (fun s_ => [(5, .pointer (some ⟨s_.1, 0, none⟩)), (10, .pointer (some ⟨s_.2.1, 0, none⟩)), (11, .pointer (some ⟨s_.1, 0, none⟩)), (12, .pointer (some ⟨s_.2.2, 0, none⟩))]) (fun s_ W => J2 n0 r s P Q R S w W s_.1 s_.2.2) ?J2 (fun HJ2 => ?_)
  case J2 =>
    rintro ⟨g1, d1, g2⟩ W h2
    refine norm_ (a' := ?_) ?_ ?_
    rotate_left
    · simp only [putAll, Act.put, List.setIfInBounds_toArray, List.set_cons_zero, List.set_cons_succ, i64_w, i32_w]
      rfl
    refine one_ (i := 12) (N := some 17) #[true, true, true, true, true, true, true, true, true, true, true, true, true, false, false, false] rfl rfl (one_of HT_.out (by kernel_rfl)) (by decide) (fun K hK => ?_)
    refine goes_ Try.func41 (by kernel_rfl) rfl #[.pointer (some ⟨r, 0, none⟩)] (by rfl) rfl rfl (by (try simp only [List.map_toArray, List.map_cons, List.map_nil]); first | done | rfl | (simp only [List.length_drop, List.length_take]; rfl)) ?_
    with_reducible refine (denomZ HSZ.out h2.cb).mono ?_
    rintro e W1 ⟨d2, rfl, hn_d2, hl_d2, hb_W1⟩
    refine ⟨_, rfl, ?_⟩
    refine hK.out _ _ trivial (fun _ => ?_)
    clear hK K
    exact HJ3 (g1, d1, g2, d2) _ ⟨h2.cb.below hb_W1, h2.m1.below hb_W1, hn_d2, h2.g2.below hb_W1, h2.ne1, Ne.symm (h2.g2.ne hl_d2)⟩
  refine join_ (ds := []) (σ := Nat × Nat × Nat) 5 #[true, true, true, true, true, true, false, true, true, true, true, true, false, false, false, false] (fun s_ => [(5, .pointer (some ⟨s_.1, 0, none⟩)), (10, .pointer (some ⟨s_.2.1, 0, none⟩)), (12, .pointer (some ⟨s_.2.2, 0, none⟩))]) (fun s_ W => J1 n0 r s P Q R S w W s_.1 s_.2.1 s_.2.2) ?J1 (fun HJ1 => ?_)
  case J1 =>
    rintro ⟨g1, d1, g2⟩ W h1
    refine norm_ (a' := ?_) ?_ ?_
    rotate_left
    · simp only [putAll, Act.put, List.setIfInBounds_toArray, List.set_cons_zero, List.set_cons_succ, i64_w, i32_w]
      rfl
    refine one_ (i := 6) (N := some 11) #[true, true, true, true, true, true, true, true, true, true, true, true, false, false, false, false] rfl rfl (one_of HT_.out (by kernel_rfl)) (by decide) (fun K hK => ?_)
    refine goes_ Try.func40 (by kernel_rfl) rfl #[.pointer (some ⟨g1, 0, none⟩), .pointer (some ⟨r, 0, none⟩), .pointer (some ⟨d1, 0, none⟩)] (by rfl) rfl rfl (by (try simp only [List.map_toArray, List.map_cons, List.map_nil]); first | done | rfl | (simp only [List.length_drop, List.length_take]; rfl)) ?_
    with_reducible refine (mul_step (x := P) (z := S) h1.cb h1.g1 h1.d1 h1.ne1 h1.cb.a0 HSZ.out.p HSZ.out.s1).mono ?_
    rintro e W1 ⟨rfl, hm_W1, hf_W1, hc_W1⟩
    refine ⟨_, rfl, ?_⟩
    refine hK.out _ _ trivial (fun _ => ?_)
    clear hK K
    exact HJ2 (g1, d1, g2) _ ⟨hc_W1, hm_W1, h1.g2.fr hf_W1 h1.ne2.symm, h1.ne2⟩
  refine join_ (ds := []) (σ := Nat × Nat) 6 #[true, true, true, true, true, true, false, false, true, true, true, true, false, false, false, false] (fun s_ => [(5, .pointer (some ⟨s_.1, 0, none⟩)), (10, .pointer (some ⟨s_.2, 0, none⟩))]) (fun s_ W => J0 n0 r s P Q R S w W s_.1 s_.2) ?J0 (fun HJ0 => ?_)
  case J0 =>
    rintro ⟨g1, d1⟩ W h0
    refine norm_ (a' := ?_) ?_ ?_
    rotate_left
    · simp only [putAll, Act.put, List.setIfInBounds_toArray, List.set_cons_zero, List.set_cons_succ, i64_w, i32_w]
      rfl
    refine two_ (ds := []) (i := 6) (j := 7) (Ni := some 11) (Nj := some 12) #[true, true, true, true, true, true, true, false, true, true, true, true, false, false, false, false] #[true, true, true, true, true, true, false, true, true, true, true, true, false, false, false, false] rfl rfl rfl rfl (two_of HT_.out (by kernel_rfl)) (by decide) (by decide) (fun K hK => ?x6) (fun K hK => ?x7)
    case x6 =>
      refine goes_ Try.func40 (by kernel_rfl) rfl #[.pointer (some ⟨g1, 0, none⟩), .pointer (some ⟨r, 0, none⟩), .pointer (some ⟨d1, 0, none⟩)] (by rfl) rfl rfl (by (try simp only [List.map_toArray, List.map_cons, List.map_nil]); first | done | rfl | (simp only [List.length_drop, List.length_take]; rfl)) ?_
      with_reducible refine (mul_step (x := P) (z := S) h0.cb h0.g1 h0.d1 h0.ne1 h0.cb.a0 HSZ.out.p HSZ.out.s1).mono ?_
      rintro e W1 ⟨rfl, hm_W1, hf_W1, hc_W1⟩
      refine ⟨_, rfl, ?_⟩
      refine hK.out _ _ trivial (fun _ => ?_)
      clear hK K
      refine norm_ (a' := ?_) ?_ ?_
      rotate_left
      · simp only [putAll, Act.put, List.setIfInBounds_toArray, List.set_cons_zero, List.set_cons_succ, i64_w, i32_w]
        rfl
      refine two_ (ds := []) (i := 7) (j := 12) (Ni := some 12) (Nj := some 17) #[true, true, true, true, true, true, true, true, true, true, true, true, false, false, false, false] #[true, true, true, true, true, true, true, false, true, true, true, true, true, false, false, false] rfl rfl rfl rfl (two_of HT_.out (by kernel_rfl)) (by decide) (by decide) (fun K hK => ?y7) (fun K hK => ?y12)
      case y7 =>
        refine value_ (v := .pointer (some ⟨W1.heap.size, 0, none⟩)) (w1 := W1.alloc (.cells #[.bool false, .slice none 0 0] 54)) (by rfl) rfl (by go_simp; first | done | rfl | exact ⟨rfl, rfl⟩) ?_
        refine hK.out _ _ trivial (fun _ => ?_)
        clear hK K
        have hb_W2 := new_below W1
        have hr_W2 := rc_alloc W1
        generalize W1.alloc (.cells #[.bool false, .slice none 0 0] 54) = W2 at hb_W2 hr_W2 ⊢
        exact HJ2 (g1, d1, W1.heap.size) _ ⟨hc_W1.below hb_W2, hm_W1.below hb_W2, ⟨hr_W2, hc_W1.le⟩, hm_W1.ne (Nat.le_refl _)⟩
      case y12 =>
        refine goes_ Try.func41 (by kernel_rfl) rfl #[.pointer (some ⟨r, 0, none⟩)] (by rfl) rfl rfl (by (try simp only [List.map_toArray, List.map_cons, List.map_nil]); first | done | rfl | (simp only [List.length_drop, List.length_take]; rfl)) ?_
        with_reducible refine (denomZ HSZ.out hc_W1).mono ?_
        rintro e W2 ⟨d2, rfl, hn_d2, hl_d2, hb_W2⟩
        refine ⟨_, rfl, ?_⟩
        refine hK.out _ _ trivial (fun _ => ?_)
        clear hK K
        refine norm_ (a' := ?_) ?_ ?_
        rotate_left
        · simp only [putAll, Act.put, List.setIfInBounds_toArray, List.set_cons_zero, List.set_cons_succ, i64_w, i32_w]
          rfl
        refine one_ (i := 7) (N := some 12) #[true, true, true, true, true, true, true, true, true, true, true, true, true, false, false, false] rfl rfl (one_of HT_.out (by kernel_rfl)) (by decide) (fun K hK => ?_)
        refine value_ (v := .pointer (some ⟨W2.heap.size, 0, none⟩)) (w1 := W2.alloc (.cells #[.bool false, .slice none 0 0] 54)) (by rfl) rfl (by go_simp; first | done | rfl | exact ⟨rfl, rfl⟩) ?_
        refine hK.out _ _ trivial (fun _ => ?_)
        clear hK K
        have hb_W3 := new_below W2
        have hr_W3 := rc_alloc W2
        generalize W2.alloc (.cells #[.bool false, .slice none 0 0] 54) = W3 at hb_W3 hr_W3 ⊢
        exact HJ3 (g1, d1, W2.heap.size, d2) _ ⟨(hc_W1.below hb_W2).below hb_W3, (hm_W1.below hb_W2).below hb_W3, hn_d2.below hb_W3, ⟨hr_W3, (hc_W1.below hb_W2).le⟩, (hm_W1.below hb_W2).ne (Nat.le_refl _), hn_d2.ne (Nat.le_refl _)⟩
    case x7 =>
      refine value_ (v := .pointer (some ⟨W.heap.size, 0, none⟩)) (w1 := W.alloc (.cells #[.bool false, .slice none 0 0] 54)) (by rfl) rfl (by go_simp; first | done | rfl | exact ⟨rfl, rfl⟩) ?_
      refine hK.out _ _ trivial (fun _ => ?_)
      clear hK K
      have hb_W1 := new_below W
      have hr_W1 := rc_alloc W
      generalize W.alloc (.cells #[.bool false, .slice none 0 0] 54) = W1 at hb_W1 hr_W1 ⊢
      exact HJ1 (g1, d1, W.heap.size) _ ⟨h0.cb.below hb_W1, h0.g1.below hb_W1, h0.d1.below hb_W1, ⟨hr_W1, h0.cb.le⟩, h0.ne1, h0.g1.ne (Nat.le_refl _)⟩
  refine three_ (ds := []) (i := 0) (j := 5) (k := 7) (Ni := some 5) (Nj := some 10) (Nk := some 12) #[true, true, true, true, true, false, false, false, true, true, true, true, false, false, false, false] #[false, true, true, true, true, true, false, false, true, true, true, true, false, false, false, false] #[false, true, true, true, true, false, false, true, true, true, true, true, false, false, false, false] rfl rfl rfl rfl rfl rfl (three_of HT_.out (by kernel_rfl)) (by decide) (by decide) (by decide) (fun K hK => ?c0) (fun K hK => ?c5) (fun K hK => ?c7)
  case c0 =>
    refine value_ (v := .pointer (some ⟨w1.heap.size, 0, none⟩)) (w1 := w1.alloc (.cells #[.bool false, .slice none 0 0] 54)) (by rfl) rfl (by go_simp; first | done | rfl | exact ⟨rfl, rfl⟩) ?_
    refine hK.out _ _ trivial (fun _ => ?_)
    clear hK K
    have hb_W1 := new_below w1
    have hr_W1 := rc_alloc w1
    generalize w1.alloc (.cells #[.bool false, .slice none 0 0] 54) = W1 at hb_W1 hr_W1 ⊢
    refine norm_ (a' := ?_) ?_ ?_
    rotate_left
    · simp only [putAll, Act.put, List.setIfInBounds_toArray, List.set_cons_zero, List.set_cons_succ, i64_w, i32_w]
      rfl
    refine two_ (ds := []) (i := 5) (j := 7) (Ni := some 10) (Nj := some 12) #[true, true, true, true, true, true, false, false, true, true, true, true, false, false, false, false] #[true, true, true, true, true, false, false, true, true, true, true, true, false, false, false, false] rfl rfl rfl rfl (two_of HT_.out (by kernel_rfl)) (by decide) (by decide) (fun K hK => ?c05) (fun K hK => ?c07)
    case c05 =>
      refine goes_ Try.func41 (by kernel_rfl) rfl #[.pointer (some ⟨s, 0, none⟩)] (by rfl) rfl rfl (by (try simp only [List.map_toArray, List.map_cons, List.map_nil]); first | done | rfl | (simp only [List.length_drop, List.length_take]; rfl)) ?_
      with_reducible refine (denomX HSZ.out (HCB.out.below hb_W1)).mono ?_
      rintro e W2 ⟨d1, rfl, hn_d1, hl_d1, hb_W2⟩
      refine ⟨_, rfl, ?_⟩
      refine hK.out _ _ trivial (fun _ => ?_)
      clear hK K
      exact HJ0 (w1.heap.size, d1) _ ⟨(HCB.out.below hb_W1).below hb_W2, (RcN.mk hr_W1 HCB.out.le).below hb_W2, hn_d1, Ne.symm ((RcN.mk hr_W1 HCB.out.le).ne hl_d1)⟩
    case c07 =>
      refine value_ (v := .pointer (some ⟨W1.heap.size, 0, none⟩)) (w1 := W1.alloc (.cells #[.bool false, .slice none 0 0] 54)) (by rfl) rfl (by go_simp; first | done | rfl | exact ⟨rfl, rfl⟩) ?_
      refine hK.out _ _ trivial (fun _ => ?_)
      clear hK K
      have hb_W2 := new_below W1
      have hr_W2 := rc_alloc W1
      generalize W1.alloc (.cells #[.bool false, .slice none 0 0] 54) = W2 at hb_W2 hr_W2 ⊢
      refine norm_ (a' := ?_) ?_ ?_
      rotate_left
      · simp only [putAll, Act.put, List.setIfInBounds_toArray, List.set_cons_zero, List.set_cons_succ, i64_w, i32_w]
        rfl
      refine one_ (i := 5) (N := some 10) #[true, true, true, true, true, true, false, true, true, true, true, true, false, false, false, false] rfl rfl (one_of HT_.out (by kernel_rfl)) (by decide) (fun K hK => ?_)
      refine goes_ Try.func41 (by kernel_rfl) rfl #[.pointer (some ⟨s, 0, none⟩)] (by rfl) rfl rfl (by (try simp only [List.map_toArray, List.map_cons, List.map_nil]); first | done | rfl | (simp only [List.length_drop, List.length_take]; rfl)) ?_
      with_reducible refine (denomX HSZ.out ((HCB.out.below hb_W1).below hb_W2)).mono ?_
      rintro e W3 ⟨d1, rfl, hn_d1, hl_d1, hb_W3⟩
      refine ⟨_, rfl, ?_⟩
      refine hK.out _ _ trivial (fun _ => ?_)
      clear hK K
      exact HJ1 (w1.heap.size, d1, W1.heap.size) _ ⟨((HCB.out.below hb_W1).below hb_W2).below hb_W3, ((RcN.mk hr_W1 HCB.out.le).below hb_W2).below hb_W3, hn_d1, (RcN.mk hr_W2 (HCB.out.below hb_W1).le).below hb_W3, Ne.symm (((RcN.mk hr_W1 HCB.out.le).below hb_W2).ne hl_d1), (RcN.mk hr_W1 HCB.out.le).ne (Nat.le_refl _)⟩
  case c5 =>
    refine goes_ Try.func41 (by kernel_rfl) rfl #[.pointer (some ⟨s, 0, none⟩)] (by rfl) rfl rfl (by (try simp only [List.map_toArray, List.map_cons, List.map_nil]); first | done | rfl | (simp only [List.length_drop, List.length_take]; rfl)) ?_
    with_reducible refine (denomX HSZ.out HCB.out).mono ?_
    rintro e W1 ⟨d1, rfl, hn_d1, hl_d1, hb_W1⟩
    refine ⟨_, rfl, ?_⟩
    refine hK.out _ _ trivial (fun _ => ?_)
    clear hK K
    refine norm_ (a' := ?_) ?_ ?_
    rotate_left
    · simp only [putAll, Act.put, List.setIfInBounds_toArray, List.set_cons_zero, List.set_cons_succ, i64_w, i32_w]
      rfl
    refine two_ (ds := []) (i := 0) (j := 7) (Ni := some 5) (Nj := some 12) #[true, true, true, true, true, true, false, false, true, true, true, true, false, false, false, false] #[false, true, true, true, true, true, false, true, true, true, true, true, false, false, false, false] rfl rfl rfl rfl (two_of HT_.out (by kernel_rfl)) (by decide) (by decide) (fun K hK => ?c50) (fun K hK => ?c57)
    case c50 =>
      refine value_ (v := .pointer (some ⟨W1.heap.size, 0, none⟩)) (w1 := W1.alloc (.cells #[.bool false, .slice none 0 0] 54)) (by rfl) rfl (by go_simp; first | done | rfl | exact ⟨rfl, rfl⟩) ?_
      refine hK.out _ _ trivial (fun _ => ?_)
      clear hK K
      have hb_W2 := new_below W1
      have hr_W2 := rc_alloc W1
      generalize W1.alloc (.cells #[.bool false, .slice none 0 0] 54) = W2 at hb_W2 hr_W2 ⊢
      exact HJ0 (W1.heap.size, d1) _ ⟨(HCB.out.below hb_W1).below hb_W2, RcN.mk hr_W2 (HCB.out.below hb_W1).le, hn_d1.below hb_W2, hn_d1.ne (Nat.le_refl _)⟩
    case c57 =>
      refine value_ (v := .pointer (some ⟨W1.heap.size, 0, none⟩)) (w1 := W1.alloc (.cells #[.bool false, .slice none 0 0] 54)) (by rfl) rfl (by go_simp; first | done | rfl | exact ⟨rfl, rfl⟩) ?_
      refine hK.out _ _ trivial (fun _ => ?_)
      clear hK K
      have hb_W2 := new_below W1
      have hr_W2 := rc_alloc W1
      generalize W1.alloc (.cells #[.bool false, .slice none 0 0] 54) = W2 at hb_W2 hr_W2 ⊢
      refine norm_ (a' := ?_) ?_ ?_
      rotate_left
      · simp only [putAll, Act.put, List.setIfInBounds_toArray, List.set_cons_zero, List.set_cons_succ, i64_w, i32_w]
        rfl
      refine one_ (i := 0) (N := some 5) #[true, true, true, true, true, true, false, true, true, true, true, true, false, false, false, false] rfl rfl (one_of HT_.out (by kernel_rfl)) (by decide) (fun K hK => ?_)
      refine value_ (v := .pointer (some ⟨W2.heap.size, 0, none⟩)) (w1 := W2.alloc (.cells #[.bool false, .slice none 0 0] 54)) (by rfl) rfl (by go_simp; first | done | rfl | exact ⟨rfl, rfl⟩) ?_
      refine hK.out _ _ trivial (fun _ => ?_)
      clear hK K
      have hb_W3 := new_below W2
      have hr_W3 := rc_alloc W2
      generalize W2.alloc (.cells #[.bool false, .slice none 0 0] 54) = W3 at hb_W3 hr_W3 ⊢
      exact HJ1 (W2.heap.size, d1, W1.heap.size) _ ⟨((HCB.out.below hb_W1).below hb_W2).below hb_W3, RcN.mk hr_W3 ((HCB.out.below hb_W1).below hb_W2).le, (hn_d1.below hb_W2).below hb_W3, (RcN.mk hr_W2 (HCB.out.below hb_W1).le).below hb_W3, (hn_d1.below hb_W2).ne (Nat.le_refl _), Ne.symm ((RcN.mk hr_W2 (HCB.out.below hb_W1).le).ne (Nat.le_refl _))⟩
  case c7 =>
    refine value_ (v := .pointer (some ⟨w1.heap.size, 0, none⟩)) (w1 := w1.alloc (.cells #[.bool false, .slice none 0 0] 54)) (by rfl) rfl (by go_simp; first | done | rfl | exact ⟨rfl, rfl⟩) ?_
    refine hK.out _ _ trivial (fun _ => ?_)
    clear hK K
    have hb_W1 := new_below w1
    have hr_W1 := rc_alloc w1
    generalize w1.alloc (.cells #[.bool false, .slice none 0 0] 54) = W1 at hb_W1 hr_W1 ⊢
    refine norm_ (a' := ?_) ?_ ?_
    rotate_left
    · simp only [putAll, Act.put, List.setIfInBounds_toArray, List.set_cons_zero, List.set_cons_succ, i64_w, i32_w]
      rfl
    refine two_ (ds := []) (i := 0) (j := 5) (Ni := some 5) (Nj := some 10) #[true, true, true, true, true, false, false, true, true, true, true, true, false, false, false, false] #[false, true, true, true, true, true, false, true, true, true, true, true, false, false, false, false] rfl rfl rfl rfl (two_of HT_.out (by kernel_rfl)) (by decide) (by decide) (fun K hK => ?c70) (fun K hK => ?c75)
    case c70 =>
      refine value_ (v := .pointer (some ⟨W1.heap.size, 0, none⟩)) (w1 := W1.alloc (.cells #[.bool false, .slice none 0 0] 54)) (by rfl) rfl (by go_simp; first | done | rfl | exact ⟨rfl, rfl⟩) ?_
      refine hK.out _ _ trivial (fun _ => ?_)
      clear hK K
      have hb_W2 := new_below W1
      have hr_W2 := rc_alloc W1
      generalize W1.alloc (.cells #[.bool false, .slice none 0 0] 54) = W2 at hb_W2 hr_W2 ⊢
      refine norm_ (a' := ?_) ?_ ?_
      rotate_left
      · simp only [putAll, Act.put, List.setIfInBounds_toArray, List.set_cons_zero, List.set_cons_succ, i64_w, i32_w]
        rfl
      refine one_ (i := 5) (N := some 10) #[true, true, true, true, true, true, false, true, true, true, true, true, false, false, false, false] rfl rfl (one_of HT_.out (by kernel_rfl)) (by decide) (fun K hK => ?_)
      refine goes_ Try.func41 (by kernel_rfl) rfl #[.pointer (some ⟨s, 0, none⟩)] (by rfl) rfl rfl (by (try simp only [List.map_toArray, List.map_cons, List.map_nil]); first | done | rfl | (simp only [List.length_drop, List.length_take]; rfl)) ?_
      with_reducible refine (denomX HSZ.out ((HCB.out.below hb_W1).below hb_W2)).mono ?_
      rintro e W3 ⟨d1, rfl, hn_d1, hl_d1, hb_W3⟩
      refine ⟨_, rfl, ?_⟩
      refine hK.out _ _ trivial (fun _ => ?_)
      clear hK K
      exact HJ1 (W1.heap.size, d1, w1.heap.size) _ ⟨((HCB.out.below hb_W1).below hb_W2).below hb_W3, (RcN.mk hr_W2 (HCB.out.below hb_W1).le).below hb_W3, hn_d1, ((RcN.mk hr_W1 HCB.out.le).below hb_W2).below hb_W3, Ne.symm ((RcN.mk hr_W2 (HCB.out.below hb_W1).le).ne hl_d1), Ne.symm ((RcN.mk hr_W1 HCB.out.le).ne (Nat.le_refl _))⟩
    case c75 =>
      refine goes_ Try.func41 (by kernel_rfl) rfl #[.pointer (some ⟨s, 0, none⟩)] (by rfl) rfl rfl (by (try simp only [List.map_toArray, List.map_cons, List.map_nil]); first | done | rfl | (simp only [List.length_drop, List.length_take]; rfl)) ?_
      with_reducible refine (denomX HSZ.out (HCB.out.below hb_W1)).mono ?_
      rintro e W2 ⟨d1, rfl, hn_d1, hl_d1, hb_W2⟩
      refine ⟨_, rfl, ?_⟩
      refine hK.out _ _ trivial (fun _ => ?_)
      clear hK K
      refine norm_ (a' := ?_) ?_ ?_
      rotate_left
      · simp only [putAll, Act.put, List.setIfInBounds_toArray, List.set_cons_zero, List.set_cons_succ, i64_w, i32_w]
        rfl
      refine one_ (i := 0) (N := some 5) #[true, true, true, true, true, true, false, true, true, true, true, true, false, false, false, false] rfl rfl (one_of HT_.out (by kernel_rfl)) (by decide) (fun K hK => ?_)
      refine value_ (v := .pointer (some ⟨W2.heap.size, 0, none⟩)) (w1 := W2.alloc (.cells #[.bool false, .slice none 0 0] 54)) (by rfl) rfl (by go_simp; first | done | rfl | exact ⟨rfl, rfl⟩) ?_
      refine hK.out _ _ trivial (fun _ => ?_)
      clear hK K
      have hb_W3 := new_below W2
      have hr_W3 := rc_alloc W2
      generalize W2.alloc (.cells #[.bool false, .slice none 0 0] 54) = W3 at hb_W3 hr_W3 ⊢
      exact HJ1 (W2.heap.size, d1, w1.heap.size) _ ⟨((HCB.out.below hb_W1).below hb_W2).below hb_W3, RcN.mk hr_W3 ((HCB.out.below hb_W1).below hb_W2).le, hn_d1.below hb_W3, ((RcN.mk hr_W1 HCB.out.le).below hb_W2).below hb_W3, hn_d1.ne (Nat.le_refl _), Ne.symm (((RcN.mk hr_W1 HCB.out.le).below hb_W2).ne (Nat.le_refl _))⟩

end Go.Proofs.Ytpcekncfdcofhaa.Q
