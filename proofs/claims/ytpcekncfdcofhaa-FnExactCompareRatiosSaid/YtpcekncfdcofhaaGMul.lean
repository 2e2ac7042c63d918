/- Contracts by hand for the methods of impl.bigInt: Mul and Cmp. -/
import Derived.Test.YtpcekncfdcofhaaQ0
import Derived.Test.YtpcekncfdcofhaaQ6
import Derived.Test.YtpcekncfdcofhaaQ7
import Derived.Test.YtpcekncfdcofhaaGSet
namespace Go.Proofs.Ytpcekncfdcofhaa.Q
open Go.RowKit Go.Proofs.YtpcekncfdcofhaaW.PrintWords Go.Proofs.YtpcekncfdcofhaaW.PrintLast Go.Proofs.YtpcekncfdcofhaaW.PrintMore
set_option linter.unusedVariables false
set_option linter.unusedSimpArgs false

def mu_T : Bool × List (List Nat × List Nat) := (true, [([], []), ([], []), ([1], [1]), ([2], [2]), ([3], [3]), ([], []), ([5], [5]), ([6], [6]), ([7], [7]), ([4, 8], [4, 8]), ([], []), ([10], [10]), ([11], [11]), ([12], [12]), ([], []), ([14], [14]), ([15], [15]), ([16], [16]), ([13, 17], [13, 17]), ([0, 9, 18, 18], [0, 9, 18]), ([19, 19, 0, 1, 2, 3, 4, 5, 6, 7, 8, 9, 10, 11, 12, 13, 14, 15, 16, 17, 18, 19], [19])])
def mu_B : List Nat := [0, 0, 2, 6, 14, 0, 32, 96, 224, 510, 0, 1024, 3072, 7168, 0, 16384, 49152, 114688, 261120, 524287, 1048575]
theorem mu_tab : rtab .any (opsOf Try.f40 1) = mu_T := by kernel_rfl
theorem mu_bits : waitsOk mu_T.2 mu_B = true := by kernel_rfl
def ca_T : Bool × List (List Nat × List Nat) := (true, [([], []), ([0], [0]), ([1], [1]), ([2], [2]), ([], []), ([4], [4]), ([5], [5]), ([6], [6]), ([3, 7], [3, 7]), ([8, 8, 0, 1, 2, 3, 4, 5, 6, 7, 8], [8])])
def ca_B : List Nat := [0, 1, 3, 7, 0, 16, 48, 112, 255, 511]
theorem ca_tab : rtab .any (opsOf Try.f42 1) = ca_T := by kernel_rfl
theorem ca_bits : waitsOk ca_T.2 ca_B = true := by kernel_rfl
def cb_T : Bool × List (List Nat × List Nat) := (true, [([], []), ([0], [0]), ([1], [1]), ([2], [2]), ([], []), ([4], [4]), ([5], [5]), ([6], [6]), ([3, 7], [3, 7]), ([8], [8])])
def cb_B : List Nat := [0, 1, 3, 7, 0, 16, 48, 112, 255, 511]
theorem cb_tab : rtab .any (opsOf Try.f42 2) = cb_T := by kernel_rfl
theorem cb_bits : waitsOk cb_T.2 cb_B = true := by kernel_rfl

/-- What is not of one number stays as it was. -/
structure Fr (g : Nat) (w w' : World) : Prop where
  cell : ∀ ad : Addr, ad.block < w.heap.size → ad ≠ ⟨g, 0, none⟩ → ad ≠ ⟨g, 1, none⟩ → w'.cell? ad = w.cell? ad
  frz : ∀ ad : Addr, ad.block < w.heap.size → w'.frozen? ad = w.frozen? ad
  size : w.heap.size ≤ w'.heap.size
theorem Fr.of_put {w w1 w2 : World} {g : Nat} {b : Bool} {v : Value} (hb : Below w.heap.size w w1) (hp : Put w1 g b v w2) : Fr g w w2 :=
  ⟨fun ad h h0 h1 => (hp.fr ad h0 h1).trans (hb.cell h), fun ad h => (hp.fz ad).trans (hb.frozen h), by rw [hp.sz]; exact hb.size⟩
theorem Nm.fr {B g p o : Nat} {w w' : World} {z : Int} (h : Nm B w p o z) (hr : Rc w g) (hf : Fr g w w') (hne : p ≠ g) : Nm w'.heap.size w' p o z := by
  obtain ⟨A, c, l, h1, h2, h3, h4, h5, h6⟩ := h.ex
  obtain ⟨b', r0⟩ := hr.c0
  obtain ⟨A', n', c', r1⟩ := hr.c1
  have hp := World.block_lt_of_cell? w _ h1
  refine Nm.now (B := max B w'.heap.size) ⟨Nat.lt_of_lt_of_le h.lo (Nat.le_max_left _ _), A, c, l, (hf.cell ⟨p, o, none⟩ hp ?_ ?_).trans h1, (hf.cell ⟨p, o + 1, none⟩ hp ?_ ?_).trans h2, h3, C_move h4 (fun ad e ad' e' x hx => (hf.cell ad' (World.block_lt_of_cell? w _ hx) ?_ ?_).trans hx), h5, fun ad e hl => Nat.lt_of_lt_of_le (h6 ad e hl) (Nat.le_max_left _ _)⟩
  · intro e; injection e with e1 _; exact hne e1
  · intro e; injection e with e1 _; exact hne e1
  · intro e; injection e with e1 _; exact hne e1
  · intro e; injection e with e1 _; exact hne e1
  · intro e; rw [e, r0] at hx; cases hx
  · intro e; rw [e, r1] at hx; cases hx
theorem Rc.fr {g r : Nat} {w w' : World} (h : Rc w r) (hf : Fr g w w') (hne : r ≠ g) : Rc w' r := by
  obtain ⟨b', h0⟩ := h.c0
  obtain ⟨A, n, c, h1⟩ := h.c1
  have hl := h.lt
  refine ⟨⟨b', (hf.cell _ hl ?_ ?_).trans h0⟩, ⟨A, n, c, (hf.cell _ hl ?_ ?_).trans h1⟩, (hf.frz _ hl).trans h.f0, (hf.frz _ hl).trans h.f1⟩ <;> (intro e; injection e with e1 _; exact hne e1)

theorem mul_sign {x y : Int} {l : List Int} (h : Rep l ((x * y).natAbs : Int)) : ((!(decide (x < 0) == decide (y < 0))) && decide (0 < l.length)) = decide (x * y < 0) := by
  rw [h.pos]
  by_cases hx0 : x < 0 <;> by_cases hy0 : y < 0
  · have : 0 < x * y := Int.mul_pos_of_neg_of_neg hx0 hy0
    simp only [hx0, hy0, decide_true, decide_false]
    rw [decide_eq_false (show ¬ x * y < 0 by omega)]; rfl
  · have : x * y ≤ 0 := Int.mul_nonpos_of_nonpos_of_nonneg (by omega) (by omega)
    simp only [hx0, hy0, decide_true, decide_false]
    by_cases hz : x * y = 0
    · rw [hz]; rfl
    · rw [decide_eq_true (show (0 : Int) < ((x * y).natAbs : Int) by omega), decide_eq_true (show x * y < 0 by omega)]; rfl
  · have : x * y ≤ 0 := Int.mul_nonpos_of_nonneg_of_nonpos (by omega) (by omega)
    simp only [hx0, hy0, decide_true, decide_false]
    by_cases hz : x * y = 0
    · rw [hz]; rfl
    · rw [decide_eq_true (show (0 : Int) < ((x * y).natAbs : Int) by omega), decide_eq_true (show x * y < 0 by omega)]; rfl
  · have : 0 ≤ x * y := Int.mul_nonneg (by omega) (by omega)
    simp only [hx0, hy0, decide_true, decide_false]
    rw [decide_eq_false (show ¬ x * y < 0 by omega)]; rfl

set_option maxHeartbeats 8000000 in
set_option maxRecDepth 100000 in
theorem mul_calls (B g h k : Nat) (x y : Int) (w : World) (hg : Rc w g) (hgh : h ≠ g) (hgk : k ≠ g) (hNx : Nm B w h 0 x) (hNy : Nm B w k 0 y) (hx : -1000000000000000000 ≤ x ∧ x ≤ 1000000000000000000) (hy : -1000000000000000000 ≤ y ∧ y ≤ 1000000000000000000) :
    Calls Try.prog 40 #[.pointer (some ⟨g, 0, none⟩), .pointer (some ⟨h, 0, none⟩), .pointer (some ⟨k, 0, none⟩)] w fun e w' => e = .returned (.pointer (some ⟨g, 0, none⟩)) ∧ Nm w'.heap.size w' g 0 (x * y) ∧ Fr g w w' ∧ Below g w w' := by
  have hu54 := Try.underlying54
  have hu58 := Try.underlying58
  have hu52 := Try.underlying52
  obtain ⟨_, A0, c0, a, h1, h2, h3, h4, h5, _⟩ := hNx
  obtain ⟨_, A1, c1, b, k1, k2, k3, k4, k5, _⟩ := hNy
  have H3 := Aside0.mk (World.block_lt_of_cell? w _ h1)
  have K3 := Aside0.mk (World.block_lt_of_cell? w _ k1)
  obtain ⟨bx, hbx⟩ : ∃ bx, bx = decide (x < 0) := ⟨_, rfl⟩
  obtain ⟨bY, hbY⟩ : ∃ bY, bY = decide (y < 0) := ⟨_, rfl⟩
  rw [← hbx] at h1
  rw [← hbY] at k1
  have H1 := Aside0.mk h1
  have H2 : Aside0 (w.cell? ⟨h, 1, none⟩ = some (.slice A0 a.length c0)) := ⟨h2⟩
  have K1 := Aside0.mk k1
  have K2 : Aside0 (w.cell? ⟨k, 1, none⟩ = some (.slice A1 b.length c1)) := ⟨k2⟩
  have HL0 := Aside0.mk h3
  have HL1 := Aside0.mk k3
  have HC0 := Aside0.mk h4
  have HC1 := Aside0.mk k4
  have HBX := Aside0.mk hbx
  have HBY := Aside0.mk hbY
  have la := h5.fits 2 (show (x.natAbs : Int) < 4294967296 ^ 2 by show _ < (18446744073709551616 : Int); omega)
  have lb := k5.fits 2 (show (y.natAbs : Int) < 4294967296 ^ 2 by show _ < (18446744073709551616 : Int); omega)
  obtain ⟨l, m1, m2, m3, m4⟩ := mul_eq a b h5.dig k5.dig (by omega) (by omega)
  have m5 := trim_rep m2
  rw [m3, h5.val, k5.val, ← Int.natCast_mul, ← Int.natAbs_mul] at m5
  have HM := Aside0.mk m1
  have HREP := Aside0.mk m5
  have HR := Aside0.mk hg
  have HNH : Aside0 (∀ i j : Nat, (⟨h, i, none⟩ : Addr) ≠ ⟨g, j, none⟩) := ⟨fun i j e => hgh (by injection e)⟩
  have HNK : Aside0 (∀ i j : Nat, (⟨k, i, none⟩ : Addr) ≠ ⟨g, j, none⟩) := ⟨fun i j e => hgk (by injection e)⟩
  clear hg hgh hgk hx hy h1 h2 h3 h4 h5 k1 k2 k3 k4 k5 hbx hbY la lb m1 m2 m3 m4 m5
  go_enter Try.func40, Try.ntmps40
  go_wp2
  refine start_ (n := 21) (S := fun w' => w'.cell? ⟨h, 0, none⟩ = some (.bool bx) ∧ w'.cell? ⟨h, 1, none⟩ = some (.slice A0 a.length c0) ∧ w'.cell? ⟨k, 0, none⟩ = some (.bool bY) ∧ w'.cell? ⟨k, 1, none⟩ = some (.slice A1 b.length c1)) (ds := []) #[false, false, false, false, false, false, false, false, false, false, false, false, false, false, false, false, false, false, false, false, false] (by kernel_rfl) rfl rfl ⟨H1.out, H2.out, K1.out, K2.out⟩ (fun hHeld => ?_)
  refine with_tabW mu_tab mu_bits (fun HT_ HW_ => ?_)
  generalize hw1 : w.drew = w1 at hHeld ⊢
  have HB1 : Aside0 (Below w.heap.size w w1) := ⟨by rw [← hw1]; exact below_drew (Below.refl _ _)⟩
  clear hw1
  refine pure_ (i := 0) (N := some 7) (v := ?_) (a' := ?_) #[true, false, false, false, false, false, false, false, false, false, false, false, false, false, false, false, false, false, false, false, false] rfl rfl (any_of HT_.out (by kernel_rfl)) (fun _ _ _ h => h) (Or.inl ⟨by rfl, ?_⟩) ?_ ?_
  rotate_left
  · intro w'
    go_simp
    with_reducible rfl
  rotate_left
  · simp only [Act.put, List.setIfInBounds_toArray, List.set_cons_zero, List.set_cons_succ, i64_w, i32_w]
    rfl
  refine pure_ (i := 1) (N := some 8) (v := ?_) (a' := ?_) #[true, true, false, false, false, false, false, false, false, false, false, false, false, false, false, false, false, false, false, false, false] rfl rfl (any_of HT_.out (by kernel_rfl)) (fun _ _ _ h => h) (Or.inl ⟨by rfl, ?_⟩) ?_ ?_
  rotate_left
  · intro w'
    go_simp
    with_reducible rfl
  rotate_left
  · simp only [Act.put, List.setIfInBounds_toArray, List.set_cons_zero, List.set_cons_succ, i64_w, i32_w]
    rfl
  refine pure_ (i := 2) (N := some 9) (v := ?_) (a' := ?_) #[true, true, true, false, false, false, false, false, false, false, false, false, false, false, false, false, false, false, false, false, false] rfl rfl (any_of HT_.out (by kernel_rfl)) (fun _ _ _ h => h) (Or.inl ⟨by rfl, ?_⟩) ?_ ?_
  rotate_left
  · intro w'
    go_simp
    with_reducible rfl
  rotate_left
  · simp only [Act.put, List.setIfInBounds_toArray, List.set_cons_zero, List.set_cons_succ, i64_w, i32_w]
    rfl
  refine pure_ (i := 3) (N := some 10) (v := ?_) (a' := ?_) #[true, true, true, true, false, false, false, false, false, false, false, false, false, false, false, false, false, false, false, false, false] rfl rfl (any_of HT_.out (by kernel_rfl)) (fun _ _ _ h => h) (Or.inl ⟨by rfl, ?_⟩) ?_ ?_
  rotate_left
  · intro w'
    go_simp
    with_reducible rfl
  rotate_left
  · simp only [Act.put, List.setIfInBounds_toArray, List.set_cons_zero, List.set_cons_succ, i64_w, i32_w]
    rfl
  refine take_ (i := 4) (N := some 11) (v := ?_) (a' := ?_) #[true, true, true, true, true, false, false, false, false, false, false, false, false, false, false, false, false, false, false, false, false] rfl rfl (take_ofW HT_.out HW_.out (by kernel_rfl)) (fun _ _ _ h => h) (Or.inl ⟨by rfl, ?_⟩) hHeld ?_ ?_
  rotate_left
  · rintro w' ⟨s0, s1, s2, s3⟩
    go_simp
    with_reducible rfl
  rotate_left
  · simp only [Act.put, List.setIfInBounds_toArray, List.set_cons_zero, List.set_cons_succ, i64_w, i32_w]
    rfl
  refine pure_ (i := 5) (N := some 12) (v := ?_) (a' := ?_) #[true, true, true, true, true, true, false, false, false, false, false, false, false, false, false, false, false, false, false, false, false] rfl rfl (any_of HT_.out (by kernel_rfl)) (fun _ _ _ h => h) (Or.inl ⟨by rfl, ?_⟩) ?_ ?_
  rotate_left
  · intro w'
    go_simp
    with_reducible rfl
  rotate_left
  · simp only [Act.put, List.setIfInBounds_toArray, List.set_cons_zero, List.set_cons_succ, i64_w, i32_w]
    rfl
  refine pure_ (i := 6) (N := some 13) (v := ?_) (a' := ?_) #[true, true, true, true, true, true, true, false, false, false, false, false, false, false, false, false, false, false, false, false, false] rfl rfl (any_of HT_.out (by kernel_rfl)) (fun _ _ _ h => h) (Or.inl ⟨by rfl, ?_⟩) ?_ ?_
  rotate_left
  · intro w'
    go_simp
    with_reducible rfl
  rotate_left
  · simp only [Act.put, List.setIfInBounds_toArray, List.set_cons_zero, List.set_cons_succ, i64_w, i32_w]
    rfl
  refine pure_ (i := 7) (N := some 14) (v := ?_) (a' := ?_) #[true, true, true, true, true, true, true, true, false, false, false, false, false, false, false, false, false, false, false, false, false] rfl rfl (any_of HT_.out (by kernel_rfl)) (fun _ _ _ h => h) (Or.inl ⟨by rfl, ?_⟩) ?_ ?_
  rotate_left
  · intro w'
    go_simp
    with_reducible rfl
  rotate_left
  · simp only [Act.put, List.setIfInBounds_toArray, List.set_cons_zero, List.set_cons_succ, i64_w, i32_w]
    rfl
  refine take_ (i := 8) (N := some 15) (v := ?_) (a' := ?_) #[true, true, true, true, true, true, true, true, true, false, false, false, false, false, false, false, false, false, false, false, false] rfl rfl (take_ofW HT_.out HW_.out (by kernel_rfl)) (fun _ _ _ h => h) (Or.inl ⟨by rfl, ?_⟩) hHeld ?_ ?_
  rotate_left
  · rintro w' ⟨s0, s1, s2, s3⟩
    go_simp
    with_reducible rfl
  rotate_left
  · simp only [Act.put, List.setIfInBounds_toArray, List.set_cons_zero, List.set_cons_succ, i64_w, i32_w]
    rfl
  refine pure_ (i := 9) (N := some 16) (v := ?_) (a' := ?_) #[true, true, true, true, true, true, true, true, true, true, false, false, false, false, false, false, false, false, false, false, false] rfl rfl (any_of HT_.out (by kernel_rfl)) (fun _ _ _ h => h) (Or.inl ⟨by rfl, ?_⟩) ?_ ?_
  rotate_left
  · intro w'
    go_simp
    with_reducible rfl
  rotate_left
  · simp only [Act.put, List.setIfInBounds_toArray, List.set_cons_zero, List.set_cons_succ, i64_w, i32_w]
    rfl
  refine pure_ (i := 10) (N := some 17) (v := ?_) (a' := ?_) #[true, true, true, true, true, true, true, true, true, true, true, false, false, false, false, false, false, false, false, false, false] rfl rfl (any_of HT_.out (by kernel_rfl)) (fun _ _ _ h => h) (Or.inl ⟨by rfl, ?_⟩) ?_ ?_
  rotate_left
  · intro w'
    go_simp
    with_reducible rfl
  rotate_left
  · simp only [Act.put, List.setIfInBounds_toArray, List.set_cons_zero, List.set_cons_succ, i64_w, i32_w]
    rfl
  refine pure_ (i := 11) (N := some 18) (v := ?_) (a' := ?_) #[true, true, true, true, true, true, true, true, true, true, true, true, false, false, false, false, false, false, false, false, false] rfl rfl (any_of HT_.out (by kernel_rfl)) (fun _ _ _ h => h) (Or.inl ⟨by rfl, ?_⟩) ?_ ?_
  rotate_left
  · intro w'
    go_simp
    with_reducible rfl
  rotate_left
  · simp only [Act.put, List.setIfInBounds_toArray, List.set_cons_zero, List.set_cons_succ, i64_w, i32_w]
    rfl
  refine pure_ (i := 12) (N := some 19) (v := ?_) (a' := ?_) #[true, true, true, true, true, true, true, true, true, true, true, true, true, false, false, false, false, false, false, false, false] rfl rfl (any_of HT_.out (by kernel_rfl)) (fun _ _ _ h => h) (Or.inl ⟨by rfl, ?_⟩) ?_ ?_
  rotate_left
  · intro w'
    go_simp
    with_reducible rfl
  rotate_left
  · simp only [Act.put, List.setIfInBounds_toArray, List.set_cons_zero, List.set_cons_succ, i64_w, i32_w]
    rfl
  refine take_ (i := 13) (N := some 20) (v := ?_) (a' := ?_) #[true, true, true, true, true, true, true, true, true, true, true, true, true, true, false, false, false, false, false, false, false] rfl rfl (take_ofW HT_.out HW_.out (by kernel_rfl)) (fun _ _ _ h => h) (Or.inl ⟨by rfl, ?_⟩) hHeld ?_ ?_
  rotate_left
  · rintro w' ⟨s0, s1, s2, s3⟩
    go_simp
    with_reducible rfl
  rotate_left
  · simp only [Act.put, List.setIfInBounds_toArray, List.set_cons_zero, List.set_cons_succ, i64_w, i32_w]
    rfl
  refine pure_ (i := 14) (N := some 21) (v := ?_) (a' := ?_) #[true, true, true, true, true, true, true, true, true, true, true, true, true, true, true, false, false, false, false, false, false] rfl rfl (any_of HT_.out (by kernel_rfl)) (fun _ _ _ h => h) (Or.inl ⟨by rfl, ?_⟩) ?_ ?_
  rotate_left
  · intro w'
    go_simp
    with_reducible rfl
  rotate_left
  · simp only [Act.put, List.setIfInBounds_toArray, List.set_cons_zero, List.set_cons_succ, i64_w, i32_w]
    rfl
  refine pure_ (i := 15) (N := some 22) (v := ?_) (a' := ?_) #[true, true, true, true, true, true, true, true, true, true, true, true, true, true, true, true, false, false, false, false, false] rfl rfl (any_of HT_.out (by kernel_rfl)) (fun _ _ _ h => h) (Or.inl ⟨by rfl, ?_⟩) ?_ ?_
  rotate_left
  · intro w'
    go_simp
    with_reducible rfl
  rotate_left
  · simp only [Act.put, List.setIfInBounds_toArray, List.set_cons_zero, List.set_cons_succ, i64_w, i32_w]
    rfl
  refine pure_ (i := 16) (N := some 23) (v := ?_) (a' := ?_) #[true, true, true, true, true, true, true, true, true, true, true, true, true, true, true, true, true, false, false, false, false] rfl rfl (any_of HT_.out (by kernel_rfl)) (fun _ _ _ h => h) (Or.inl ⟨by rfl, ?_⟩) ?_ ?_
  rotate_left
  · intro w'
    go_simp
    with_reducible rfl
  rotate_left
  · simp only [Act.put, List.setIfInBounds_toArray, List.set_cons_zero, List.set_cons_succ, i64_w, i32_w]
    rfl
  refine take_ (i := 17) (N := some 24) (v := ?_) (a' := ?_) #[true, true, true, true, true, true, true, true, true, true, true, true, true, true, true, true, true, true, false, false, false] rfl rfl (take_ofW HT_.out HW_.out (by kernel_rfl)) (fun _ _ _ h => h) (Or.inl ⟨by rfl, ?_⟩) hHeld ?_ ?_
  rotate_left
  · rintro w' ⟨s0, s1, s2, s3⟩
    go_simp
    with_reducible rfl
  rotate_left
  · simp only [Act.put, List.setIfInBounds_toArray, List.set_cons_zero, List.set_cons_succ, i64_w, i32_w]
    rfl
  refine one_ (i := 18) (N := some 25) #[true, true, true, true, true, true, true, true, true, true, true, true, true, true, true, true, true, true, true, false, false] rfl rfl (one_of HT_.out (by kernel_rfl)) (by decide) (fun K hK => ?_)
  refine goes_ Try.func61 (by kernel_rfl) rfl #[.slice A0 a.length c0, .slice A1 b.length c1] (by rfl) rfl rfl (by (try simp only [List.map_toArray, List.map_cons, List.map_nil]); first | done | rfl | (simp only [List.length_drop, List.length_take]; rfl)) ?_
  with_reducible refine (impl_mulMag.calls 1000 A0 c0 a A1 c1 b (trim l) _ (Kd.C_below HC0.out HB1.out) HL0.out (Kd.C_below HC1.out HB1.out) HL1.out HM.out).mono ?_
  rintro e w2 ⟨v25, rfl, ho, hb⟩
  obtain ⟨A25, c25, e25⟩ := Kd.R_slice ho
  subst e25
  refine ⟨_, rfl, ?_⟩
  have HO2 := Aside0.mk ho
  have HB2 := Aside0.mk (below_step HB1.out hb)
  clear ho hb
  refine hK.out _ _ ⟨(HB2.out.cell H3.out).trans H1.out, (HB2.out.cell H3.out).trans H2.out, (HB2.out.cell K3.out).trans K1.out, (HB2.out.cell K3.out).trans K2.out⟩ (fun hHeld => ?_)
  clear hK K
  refine norm_ (a' := ?_) ?_ ?_
  rotate_left
  · show Act.put _ (some 25) _ = _
    simp only [Act.put, List.setIfInBounds_toArray, List.set_cons_zero, List.set_cons_succ, i64_w, i32_w]
    rfl
  refine one_ (i := 19) (N := some 26) #[true, true, true, true, true, true, true, true, true, true, true, true, true, true, true, true, true, true, true, true, false] rfl rfl (one_of HT_.out (by kernel_rfl)) (by decide) (fun K hK => ?_)
  refine goes_ Try.func60 (by kernel_rfl) rfl #[.pointer (some ⟨g, 0, none⟩), .bool (!(bx == bY)), .slice A25 (trim l).length c25] (by rfl) rfl rfl (by (try simp only [List.map_toArray, List.map_cons, List.map_nil]); first | done | rfl | (simp only [List.length_drop, List.length_take]; rfl)) ?_
  with_reducible refine (put_calls g (!(bx == bY)) A25 (trim l).length c25 _ (HR.out.below HR.out.lt HB2.out)).mono ?_
  rintro e w3 ⟨rfl, hp⟩
  refine ⟨_, rfl, ?_⟩
  have HP := Aside0.mk hp
  clear hp
  refine hK.out _ _ ⟨(HP.out.fr _ (HNH.out _ _) (HNH.out _ _)).trans ((HB2.out.cell H3.out).trans H1.out), (HP.out.fr _ (HNH.out _ _) (HNH.out _ _)).trans ((HB2.out.cell H3.out).trans H2.out), (HP.out.fr _ (HNK.out _ _) (HNK.out _ _)).trans ((HB2.out.cell K3.out).trans K1.out), (HP.out.fr _ (HNK.out _ _) (HNK.out _ _)).trans ((HB2.out.cell K3.out).trans K2.out)⟩ (fun hHeld => ?_)
  clear hK K
  refine norm_ (a' := ?_) ?_ ?_
  rotate_left
  · show Act.put _ (some 26) _ = _
    simp only [Act.put, List.setIfInBounds_toArray, List.set_cons_zero, List.set_cons_succ, i64_w, i32_w]
    rfl
  refine pure_ (i := 20) (N := some 6) (v := ?_) (a' := ?_) #[true, true, true, true, true, true, true, true, true, true, true, true, true, true, true, true, true, true, true, true, true] rfl rfl (any_of HT_.out (by kernel_rfl)) (fun _ _ _ h => h) (Or.inl ⟨by rfl, ?_⟩) ?_ ?_
  rotate_left
  · intro w'
    go_simp
    with_reducible rfl
  rotate_left
  · simp only [Act.put, List.setIfInBounds_toArray, List.set_cons_zero, List.set_cons_succ, i64_w, i32_w]
    rfl
  refine done_ (done_of HT_.out (by kernel_rfl)) ?_
  go_wp2
  go_ret
  refine ⟨rfl, Nm.put (Mg.of_R HO2.out) (HR.out.below HR.out.lt HB2.out) HP.out HREP.out ?_, Fr.of_put HB2.out HP.out, Below.trans (HB2.out.mono (Nat.le_of_lt HR.out.lt)) HP.out.bl⟩
  rw [HBX.out, HBY.out]
  exact mul_sign HREP.out

def sgn (z : Int) : Int := if z < 0 then -1 else if 0 < z then 1 else 0
theorem sgn_ge (z : Int) : -1 ≤ sgn z ∧ sgn z ≤ 1 ∧ (z < 0 → sgn z = -1) ∧ (0 < z → sgn z = 1) ∧ (z = 0 → sgn z = 0) := by
  unfold sgn
  split
  · omega
  · split <;> omega
theorem cmp_neg {x y r : Int} (hx : x < 0) (hy : y < 0) (h : (r < 0 ↔ (x.natAbs : Int) < y.natAbs) ∧ (0 < r ↔ (y.natAbs : Int) < x.natAbs) ∧ -64 ≤ r ∧ r ≤ 64) : max (min (wrap64 (-r)) 1) (-1) = sgn (x - y) := by
  rw [bw64 (x := -r) (by omega)]
  have := sgn_ge (x - y)
  omega
theorem cmp_pos {x y r : Int} (hx : ¬ x < 0) (hy : ¬ y < 0) (h : (r < 0 ↔ (x.natAbs : Int) < y.natAbs) ∧ (0 < r ↔ (y.natAbs : Int) < x.natAbs) ∧ -64 ≤ r ∧ r ≤ 64) : max (min r 1) (-1) = sgn (x - y) := by
  have := sgn_ge (x - y)
  omega
theorem cmp_diff {x y : Int} (h : ¬ (x < 0 ↔ y < 0)) : max (min (wrap64 (sgn x - sgn y)) 1) (-1) = sgn (x - y) := by
  have h1 := sgn_ge (x - y)
  have h2 := sgn_ge x
  have h3 := sgn_ge y
  rw [bw64 (x := sgn x - sgn y) (by omega)]
  rcases Int.lt_trichotomy x 0 with h4 | h4 | h4 <;> rcases Int.lt_trichotomy y 0 with h5 | h5 | h5 <;> omega
set_option maxHeartbeats 8000000 in
set_option maxRecDepth 100000 in
theorem icmp_calls (B h k : Nat) (x y : Int) (w : World) (hNx : Nm B w h 0 x) (hNy : Nm B w k 0 y) (hx : -1000000000000000000000000000000000000 ≤ x ∧ x ≤ 1000000000000000000000000000000000000) (hy : -1000000000000000000000000000000000000 ≤ y ∧ y ≤ 1000000000000000000000000000000000000) :
    Calls Try.prog 42 #[.pointer (some ⟨h, 0, none⟩), .pointer (some ⟨k, 0, none⟩)] w fun e w' => e = .returned (.int .i64 (sgn (x - y))) ∧ Below w.heap.size w w' := by
  have hu54 := Try.underlying54
  have hu58 := Try.underlying58
  have hu52 := Try.underlying52
  have HNX := Aside0.mk hNx.now
  have HNY := Aside0.mk hNy.now
  obtain ⟨_, A0, c0, a, h1, h2, h3, h4, h5, _⟩ := hNx
  obtain ⟨_, A1, c1, b, k1, k2, k3, k4, k5, _⟩ := hNy
  have H3 := Aside0.mk (World.block_lt_of_cell? w _ h1)
  have K3 := Aside0.mk (World.block_lt_of_cell? w _ k1)
  obtain ⟨bx, hbx⟩ : ∃ bx, bx = decide (x < 0) := ⟨_, rfl⟩
  obtain ⟨bY, hbY⟩ : ∃ bY, bY = decide (y < 0) := ⟨_, rfl⟩
  rw [← hbx] at h1
  rw [← hbY] at k1
  have H1 := Aside0.mk h1
  have H2 : Aside0 (w.cell? ⟨h, 1, none⟩ = some (.slice A0 a.length c0)) := ⟨h2⟩
  have K1 := Aside0.mk k1
  have K2 : Aside0 (w.cell? ⟨k, 1, none⟩ = some (.slice A1 b.length c1)) := ⟨k2⟩
  have HL0 := Aside0.mk h3
  have HL1 := Aside0.mk k3
  have HC0 := Aside0.mk h4
  have HC1 := Aside0.mk k4
  have HBX := Aside0.mk hbx
  have HBY := Aside0.mk hbY
  have la := h5.fits 4 (show (x.natAbs : Int) < 4294967296 ^ 4 by show _ < (340282366920938463463374607431768211456 : Int); omega)
  have lb := k5.fits 4 (show (y.natAbs : Int) < 4294967296 ^ 4 by show _ < (340282366920938463463374607431768211456 : Int); omega)
  obtain ⟨r, m1, m2, m3, m4⟩ := cmp_eq h5 k5 (by omega) (by omega)
  have HM := Aside0.mk m1
  obtain ⟨R, hR⟩ : ∃ R, R = sgn (x - y) := ⟨_, rfl⟩
  rw [← hR]
  have HRR := Aside0.mk hR
  have HZ : Aside0 ((r < 0 ↔ (x.natAbs : Int) < y.natAbs) ∧ (0 < r ↔ (y.natAbs : Int) < x.natAbs) ∧ -64 ≤ r ∧ r ≤ 64) := ⟨m2, m3, m4⟩
  clear hx hy h1 h2 h3 h4 h5 k1 k2 k3 k4 k5 hbx hbY la lb m1 m2 m3 m4 hR
  go_enter Try.func42, Try.ntmps42
  go_wp2
  refine start_ (n := 10) (S := fun w' => w'.cell? ⟨h, 1, none⟩ = some (.slice A0 a.length c0) ∧ w'.cell? ⟨k, 1, none⟩ = some (.slice A1 b.length c1)) (ds := []) #[false, false, false, false, false, false, false, false, false, false] (by kernel_rfl) rfl rfl ⟨H2.out, K2.out⟩ (fun hHeld => ?_)
  refine with_tabW ca_tab ca_bits (fun HT_ HW_ => ?_)
  generalize hw1 : w.drew = w1 at hHeld ⊢
  have HB1 : Aside0 (Below w.heap.size w w1) := ⟨by rw [← hw1]; exact below_drew (Below.refl _ _)⟩
  clear hw1
  refine pure_ (i := 0) (N := some 6) (v := ?_) (a' := ?_) #[true, false, false, false, false, false, false, false, false, false] rfl rfl (any_of HT_.out (by kernel_rfl)) (fun _ _ _ h => h) (Or.inl ⟨by rfl, ?_⟩) ?_ ?_
  rotate_left
  · intro w'
    go_simp
    with_reducible rfl
  rotate_left
  · simp only [Act.put, List.setIfInBounds_toArray, List.set_cons_zero, List.set_cons_succ, i64_w, i32_w]
    rfl
  refine pure_ (i := 1) (N := some 7) (v := ?_) (a' := ?_) #[true, true, false, false, false, false, false, false, false, false] rfl rfl (any_of HT_.out (by kernel_rfl)) (fun _ _ _ h => h) (Or.inl ⟨by rfl, ?_⟩) ?_ ?_
  rotate_left
  · intro w'
    go_simp
    with_reducible rfl
  rotate_left
  · simp only [Act.put, List.setIfInBounds_toArray, List.set_cons_zero, List.set_cons_succ, i64_w, i32_w]
    rfl
  refine pure_ (i := 2) (N := some 8) (v := ?_) (a' := ?_) #[true, true, true, false, false, false, false, false, false, false] rfl rfl (any_of HT_.out (by kernel_rfl)) (fun _ _ _ h => h) (Or.inl ⟨by rfl, ?_⟩) ?_ ?_
  rotate_left
  · intro w'
    go_simp
    with_reducible rfl
  rotate_left
  · simp only [Act.put, List.setIfInBounds_toArray, List.set_cons_zero, List.set_cons_succ, i64_w, i32_w]
    rfl
  refine take_ (i := 3) (N := some 9) (v := ?_) (a' := ?_) #[true, true, true, true, false, false, false, false, false, false] rfl rfl (take_ofW HT_.out HW_.out (by kernel_rfl)) (fun _ _ _ h => h) (Or.inl ⟨by rfl, ?_⟩) hHeld ?_ ?_
  rotate_left
  · rintro w' ⟨s0, s1⟩
    go_simp
    with_reducible rfl
  rotate_left
  · simp only [Act.put, List.setIfInBounds_toArray, List.set_cons_zero, List.set_cons_succ, i64_w, i32_w]
    rfl
  refine pure_ (i := 4) (N := some 10) (v := ?_) (a' := ?_) #[true, true, true, true, true, false, false, false, false, false] rfl rfl (any_of HT_.out (by kernel_rfl)) (fun _ _ _ h => h) (Or.inl ⟨by rfl, ?_⟩) ?_ ?_
  rotate_left
  · intro w'
    go_simp
    with_reducible rfl
  rotate_left
  · simp only [Act.put, List.setIfInBounds_toArray, List.set_cons_zero, List.set_cons_succ, i64_w, i32_w]
    rfl
  refine pure_ (i := 5) (N := some 11) (v := ?_) (a' := ?_) #[true, true, true, true, true, true, false, false, false, false] rfl rfl (any_of HT_.out (by kernel_rfl)) (fun _ _ _ h => h) (Or.inl ⟨by rfl, ?_⟩) ?_ ?_
  rotate_left
  · intro w'
    go_simp
    with_reducible rfl
  rotate_left
  · simp only [Act.put, List.setIfInBounds_toArray, List.set_cons_zero, List.set_cons_succ, i64_w, i32_w]
    rfl
  refine pure_ (i := 6) (N := some 12) (v := ?_) (a' := ?_) #[true, true, true, true, true, true, true, false, false, false] rfl rfl (any_of HT_.out (by kernel_rfl)) (fun _ _ _ h => h) (Or.inl ⟨by rfl, ?_⟩) ?_ ?_
  rotate_left
  · intro w'
    go_simp
    with_reducible rfl
  rotate_left
  · simp only [Act.put, List.setIfInBounds_toArray, List.set_cons_zero, List.set_cons_succ, i64_w, i32_w]
    rfl
  refine take_ (i := 7) (N := some 13) (v := ?_) (a' := ?_) #[true, true, true, true, true, true, true, true, false, false] rfl rfl (take_ofW HT_.out HW_.out (by kernel_rfl)) (fun _ _ _ h => h) (Or.inl ⟨by rfl, ?_⟩) hHeld ?_ ?_
  rotate_left
  · rintro w' ⟨s0, s1⟩
    go_simp
    with_reducible rfl
  rotate_left
  · simp only [Act.put, List.setIfInBounds_toArray, List.set_cons_zero, List.set_cons_succ, i64_w, i32_w]
    rfl
  refine one_ (i := 8) (N := some 14) #[true, true, true, true, true, true, true, true, true, false] rfl rfl (one_of HT_.out (by kernel_rfl)) (by decide) (fun K hK => ?_)
  refine goes_ Try.func63 (by kernel_rfl) rfl #[.slice A0 a.length c0, .slice A1 b.length c1] (by rfl) rfl rfl (by (try simp only [List.map_toArray, List.map_cons, List.map_nil]); first | done | rfl | (simp only [List.length_drop, List.length_take]; rfl)) ?_
  with_reducible refine (impl_cmpMag.calls 100 A0 c0 a A1 c1 b r _ (Kd.C_below HC0.out HB1.out) HL0.out (Kd.C_below HC1.out HB1.out) HL1.out HM.out).mono ?_
  rintro e w2 ⟨rfl, hd⟩
  refine ⟨_, rfl, ?_⟩
  have HB2 := Aside0.mk (below_step HB1.out (drawn_below hd))
  clear hd
  refine hK.out _ _ ⟨(HB2.out.cell H3.out).trans H2.out, (HB2.out.cell K3.out).trans K2.out⟩ (fun hHeld => ?_)
  clear hK K
  refine norm_ (a' := ?_) ?_ ?_
  rotate_left
  · show Act.put _ (some 14) _ = _
    simp only [Act.put, List.setIfInBounds_toArray, List.set_cons_zero, List.set_cons_succ, i64_w, i32_w]
    rfl
  refine pure_ (i := 9) (N := some 5) (v := ?_) (a' := ?_) #[true, true, true, true, true, true, true, true, true, true] rfl rfl (any_of HT_.out (by kernel_rfl)) (fun _ _ _ h => h) (Or.inl ⟨by rfl, ?_⟩) ?_ ?_
  rotate_left
  · intro w'
    go_simp
    with_reducible rfl
  rotate_left
  · simp only [Act.put, List.setIfInBounds_toArray, List.set_cons_zero, List.set_cons_succ, i64_w, i32_w]
    rfl
  refine done_ (done_of HT_.out (by kernel_rfl)) ?_
  go_wp2
  refine start_ (n := 10) (S := fun w' => w'.cell? ⟨h, 0, none⟩ = some (.bool bx) ∧ w'.cell? ⟨k, 0, none⟩ = some (.bool bY)) (ds := []) #[false, false, false, false, false, false, false, false, false, false] (by kernel_rfl) rfl rfl ⟨((below_drew HB2.out).cell H3.out).trans H1.out, ((below_drew HB2.out).cell K3.out).trans K1.out⟩ (fun hHeld => ?_)
  refine with_tabW cb_tab cb_bits (fun HT_ HW_ => ?_)
  generalize hw3 : w2.drew = w3 at hHeld ⊢
  have HB3 : Aside0 (Below w.heap.size w w3) := ⟨by rw [← hw3]; exact below_drew HB2.out⟩
  clear hw3
  refine pure_ (i := 0) (N := some 16) (v := ?_) (a' := ?_) #[true, false, false, false, false, false, false, false, false, false] rfl rfl (any_of HT_.out (by kernel_rfl)) (fun _ _ _ h => h) (Or.inl ⟨by rfl, ?_⟩) ?_ ?_
  rotate_left
  · intro w'
    go_simp
    with_reducible rfl
  rotate_left
  · simp only [Act.put, List.setIfInBounds_toArray, List.set_cons_zero, List.set_cons_succ, i64_w, i32_w]
    rfl
  refine pure_ (i := 1) (N := some 17) (v := ?_) (a' := ?_) #[true, true, false, false, false, false, false, false, false, false] rfl rfl (any_of HT_.out (by kernel_rfl)) (fun _ _ _ h => h) (Or.inl ⟨by rfl, ?_⟩) ?_ ?_
  rotate_left
  · intro w'
    go_simp
    with_reducible rfl
  rotate_left
  · simp only [Act.put, List.setIfInBounds_toArray, List.set_cons_zero, List.set_cons_succ, i64_w, i32_w]
    rfl
  refine pure_ (i := 2) (N := some 18) (v := ?_) (a' := ?_) #[true, true, true, false, false, false, false, false, false, false] rfl rfl (any_of HT_.out (by kernel_rfl)) (fun _ _ _ h => h) (Or.inl ⟨by rfl, ?_⟩) ?_ ?_
  rotate_left
  · intro w'
    go_simp
    with_reducible rfl
  rotate_left
  · simp only [Act.put, List.setIfInBounds_toArray, List.set_cons_zero, List.set_cons_succ, i64_w, i32_w]
    rfl
  refine take_ (i := 3) (N := some 19) (v := ?_) (a' := ?_) #[true, true, true, true, false, false, false, false, false, false] rfl rfl (take_ofW HT_.out HW_.out (by kernel_rfl)) (fun _ _ _ h => h) (Or.inl ⟨by rfl, ?_⟩) hHeld ?_ ?_
  rotate_left
  · rintro w' ⟨s0, s1⟩
    go_simp
    with_reducible rfl
  rotate_left
  · simp only [Act.put, List.setIfInBounds_toArray, List.set_cons_zero, List.set_cons_succ, i64_w, i32_w]
    rfl
  refine pure_ (i := 4) (N := some 20) (v := ?_) (a' := ?_) #[true, true, true, true, true, false, false, false, false, false] rfl rfl (any_of HT_.out (by kernel_rfl)) (fun _ _ _ h => h) (Or.inl ⟨by rfl, ?_⟩) ?_ ?_
  rotate_left
  · intro w'
    go_simp
    with_reducible rfl
  rotate_left
  · simp only [Act.put, List.setIfInBounds_toArray, List.set_cons_zero, List.set_cons_succ, i64_w, i32_w]
    rfl
  refine pure_ (i := 5) (N := some 21) (v := ?_) (a' := ?_) #[true, true, true, true, true, true, false, false, false, false] rfl rfl (any_of HT_.out (by kernel_rfl)) (fun _ _ _ h => h) (Or.inl ⟨by rfl, ?_⟩) ?_ ?_
  rotate_left
  · intro w'
    go_simp
    with_reducible rfl
  rotate_left
  · simp only [Act.put, List.setIfInBounds_toArray, List.set_cons_zero, List.set_cons_succ, i64_w, i32_w]
    rfl
  refine pure_ (i := 6) (N := some 22) (v := ?_) (a' := ?_) #[true, true, true, true, true, true, true, false, false, false] rfl rfl (any_of HT_.out (by kernel_rfl)) (fun _ _ _ h => h) (Or.inl ⟨by rfl, ?_⟩) ?_ ?_
  rotate_left
  · intro w'
    go_simp
    with_reducible rfl
  rotate_left
  · simp only [Act.put, List.setIfInBounds_toArray, List.set_cons_zero, List.set_cons_succ, i64_w, i32_w]
    rfl
  refine take_ (i := 7) (N := some 23) (v := ?_) (a' := ?_) #[true, true, true, true, true, true, true, true, false, false] rfl rfl (take_ofW HT_.out HW_.out (by kernel_rfl)) (fun _ _ _ h => h) (Or.inl ⟨by rfl, ?_⟩) hHeld ?_ ?_
  rotate_left
  · rintro w' ⟨s0, s1⟩
    go_simp
    with_reducible rfl
  rotate_left
  · simp only [Act.put, List.setIfInBounds_toArray, List.set_cons_zero, List.set_cons_succ, i64_w, i32_w]
    rfl
  refine pure_ (i := 8) (N := some 24) (v := ?_) (a' := ?_) #[true, true, true, true, true, true, true, true, true, false] rfl rfl (any_of HT_.out (by kernel_rfl)) (fun _ _ _ h => h) (Or.inl ⟨by rfl, ?_⟩) ?_ ?_
  rotate_left
  · intro w'
    go_simp
    with_reducible rfl
  rotate_left
  · simp only [Act.put, List.setIfInBounds_toArray, List.set_cons_zero, List.set_cons_succ, i64_w, i32_w]
    rfl
  refine pure_ (i := 9) (N := some 15) (v := ?_) (a' := ?_) #[true, true, true, true, true, true, true, true, true, true] rfl rfl (any_of HT_.out (by kernel_rfl)) (fun _ _ _ h => h) (Or.inl ⟨by rfl, ?_⟩) ?_ ?_
  rotate_left
  · intro w'
    go_simp
    with_reducible rfl
  rotate_left
  · simp only [Act.put, List.setIfInBounds_toArray, List.set_cons_zero, List.set_cons_succ, i64_w, i32_w]
    rfl
  refine done_ (done_of HT_.out (by kernel_rfl)) ?_
  have HB4 : Aside0 (Below w.heap.size w w3) := HB3
  have hn : (bx = true ∧ bY = true) ∨ (bx = false ∧ bY = false) ∨ (bx == bY) = false := by cases bx <;> cases bY <;> simp
  have hX := HBX.out
  have hY := HBY.out
  rcases hn with ⟨rfl, rfl⟩ | ⟨rfl, rfl⟩ | hn
  · have e := cmp_neg (of_decide_eq_true hX.symm) (of_decide_eq_true hY.symm) HZ.out
    rw [← HRR.out] at e
    have HE := Aside0.mk e
    clear e hX hY
    go_wp2
    go_ret
    exact ⟨by rw [HE.out]; rfl, HB3.out⟩
  · have e := cmp_pos (of_decide_eq_false hX.symm) (of_decide_eq_false hY.symm) HZ.out
    rw [← HRR.out] at e
    have HE := Aside0.mk e
    clear e hX hY
    go_wp2
    go_ret
    exact ⟨by rw [HE.out]; rfl, HB3.out⟩
  · have hd : ¬ (x < 0 ↔ y < 0) := by
      intro h
      rw [hX, hY] at hn
      by_cases h0 : x < 0
      · rw [decide_eq_true h0, decide_eq_true (h.1 h0)] at hn; cases hn
      · rw [decide_eq_false h0, decide_eq_false (fun h1 => h0 (h.2 h1))] at hn; cases hn
    have e := cmp_diff hd
    rw [← HRR.out] at e
    have HE := Aside0.mk e
    have HS1 : Aside0 (∀ W, Below w.heap.size w W → Calls Try.prog 56 #[.pointer (some ⟨h, 0, none⟩)] W fun e w' => e = .returned (.int .i64 (sgn x)) ∧ Below W.heap.size W w') := ⟨fun W hW => (sign_calls h 0 _ x W (HNX.out.below hW)).mono (fun e w' hh => ⟨hh.1, drawn_below hh.2⟩)⟩
    have HS2 : Aside0 (∀ W, Below w.heap.size w W → Calls Try.prog 56 #[.pointer (some ⟨k, 0, none⟩)] W fun e w' => e = .returned (.int .i64 (sgn y)) ∧ Below W.heap.size W w') := ⟨fun W hW => (sign_calls k 0 _ y W (HNY.out.below hW)).mono (fun e w' hh => ⟨hh.1, drawn_below hh.2⟩)⟩
    have hn2 : (!(bx == bY)) = true := by rw [hn]; rfl
    generalize sgn x = sx at HS1 HE
    generalize sgn y = sy at HS2 HE
    clear e hX hY hd
    go_wp2_with (first
      | (go_at_call 56; go_loud (with_reducible refine (HS1.out w3 HB3.out).mono ?_; rintro e w4 ⟨rfl, hb⟩; have HB5 := Aside0.mk (below_step HB3.out hb); clear hb))
      | (go_at_call 56; go_loud (with_reducible refine (HS2.out w4 HB5.out).mono ?_; rintro e w5 ⟨rfl, hb⟩; have HB6 := Aside0.mk (below_step HB5.out hb); clear hb)))
    all_goals try (exfalso; rename_i q1 q2; rw [hn2] at q1; cases q1; done)
    go_ret
    exact ⟨by rw [HE.out]; rfl, HB6.out⟩

end Go.Proofs.Ytpcekncfdcofhaa.Q
