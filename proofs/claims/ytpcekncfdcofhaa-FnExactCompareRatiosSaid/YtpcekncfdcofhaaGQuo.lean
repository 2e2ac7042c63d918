/- Contracts by hand for the methods of impl.bigInt: QuoRem and Quo. -/
import Derived.Test.YtpcekncfdcofhaaQ0
import Derived.Test.YtpcekncfdcofhaaGNumQ
namespace Go.Proofs.Ytpcekncfdcofhaa.Q
open Go.RowKit Go.Proofs.YtpcekncfdcofhaaW.PrintWords Go.Proofs.YtpcekncfdcofhaaW.PrintLast Go.Proofs.YtpcekncfdcofhaaW.PrintMore
set_option linter.unusedVariables false
set_option linter.unusedSimpArgs false

def qa_T : Bool × List (List Nat × List Nat) := (true, [([], []), ([0], [0]), ([1], [1]), ([2], [2]), ([], []), ([4], [4]), ([5], [5]), ([6], [6]), ([3, 0, 1, 2, 3], [3]), ([7, 8, 0, 1, 2, 3, 4, 5, 6, 7, 8], [7])])
def qa_B : List Nat := [0, 1, 3, 7, 0, 16, 48, 112, 15, 511]
theorem qa_tab : rtab .any (opsOf Try.f71 1) = qa_T := by kernel_rfl
theorem qa_bits : waitsOk qa_T.2 qa_B = true := by kernel_rfl
def qb_T : Bool × List (List Nat × List Nat) := (true, [([], []), ([0], [0]), ([1], [1]), ([2], [2]), ([], []), ([4], [4]), ([5], [5]), ([6], [6]), ([3, 7], [3, 7]), ([8], [8]), ([9], [9]), ([9], [9]), ([10, 8, 0, 1, 2, 3, 4, 5, 6, 7, 8, 9, 10], [10]), ([11, 12, 0, 1, 2, 3, 4, 5, 6, 7, 8, 9, 10, 11, 12], [11])])
def qb_B : List Nat := [0, 1, 3, 7, 0, 16, 48, 112, 255, 511, 1023, 1023, 2047, 8191]
theorem qb_tab : rtab .any (opsOf Try.f71 2) = qb_T := by kernel_rfl
theorem qb_bits : waitsOk qb_T.2 qb_B = true := by kernel_rfl

structure QW (B g s h k : Nat) (x y : Int) (w W : World) : Prop where
  rz : Rc W g
  rr : Rc W s
  nx : Nm B W h 0 x
  ny : Nm B W k 0 y
  bl : Below B w W
  le : B ≤ W.heap.size
theorem QW.step {B g s h k : Nat} {x y : Int} {w W W' : World} (q : QW B g s h k x y w W) (hb : Below W.heap.size W W') : QW B g s h k x y w W' :=
  ⟨q.rz.below q.rz.lt hb, q.rr.below q.rr.lt hb, q.nx.below (hb.mono q.le), q.ny.below (hb.mono q.le), q.bl.trans (hb.mono q.le), Nat.le_trans q.le hb.size⟩

theorem quo_sign {x y : Int} (hy : y ≠ 0) {l : List Int} (h : Rep l ((x.natAbs : Int) / (y.natAbs : Int))) : ((decide (x < 0) != decide (y < 0)) && decide (0 < l.length)) = decide (x.tdiv y < 0) ∧ Rep l ((x.tdiv y).natAbs : Int) := by
  have e : ((x.tdiv y).natAbs : Int) = (x.natAbs : Int) / (y.natAbs : Int) := by rw [Int.natAbs_tdiv]; rfl
  refine ⟨?_, by rw [e]; exact h⟩
  rw [h.pos, ← e]
  by_cases hx0 : x < 0 <;> by_cases hy0 : y < 0
  · have : 0 ≤ x.tdiv y := Int.tdiv_nonneg_of_nonpos_of_nonpos (by omega) (by omega)
    simp [hx0, hy0, this]
  · have : x.tdiv y ≤ 0 := by
      have := Int.tdiv_nonneg (a := -x) (b := y) (by omega) (by omega)
      rw [Int.neg_tdiv] at this
      omega
    simp only [hx0, hy0, decide_true, decide_false]
    by_cases hz : x.tdiv y = 0
    · simp [hz]
    · rw [decide_eq_true (show (0 : Int) < ((x.tdiv y).natAbs : Int) by omega), decide_eq_true (show x.tdiv y < 0 by omega)]; rfl
  · have : x.tdiv y ≤ 0 := Int.tdiv_nonpos_of_nonneg_of_nonpos (by omega) (by omega)
    simp only [hx0, hy0, decide_true, decide_false]
    by_cases hz : x.tdiv y = 0
    · simp [hz]
    · rw [decide_eq_true (show (0 : Int) < ((x.tdiv y).natAbs : Int) by omega), decide_eq_true (show x.tdiv y < 0 by omega)]; rfl
  · have : 0 ≤ x.tdiv y := Int.tdiv_nonneg (by omega) (by omega)
    simp [hx0, hy0, this]
theorem rem_sign {x y : Int} (hy : y ≠ 0) {l : List Int} (h : Rep l ((x.natAbs : Int) % (y.natAbs : Int))) : (decide (x < 0) && decide (0 < l.length)) = decide (x.tmod y < 0) ∧ Rep l ((x.tmod y).natAbs : Int) := by
  have e : ((x.tmod y).natAbs : Int) = (x.natAbs : Int) % (y.natAbs : Int) := by rw [Int.natAbs_tmod]; rfl
  refine ⟨?_, by rw [e]; exact h⟩
  rw [h.pos, ← e]
  by_cases hx0 : x < 0
  · have : x.tmod y ≤ 0 := by
      have := Int.tmod_nonneg (a := -x) y (by omega)
      rw [Int.neg_tmod] at this
      omega
    simp only [hx0, decide_true]
    by_cases hz : x.tmod y = 0
    · simp [hz]
    · rw [decide_eq_true (show (0 : Int) < ((x.tmod y).natAbs : Int) by omega), decide_eq_true (show x.tmod y < 0 by omega)]; rfl
  · have := Int.tmod_nonneg (a := x) y (by omega)
    simp [hx0, this]

set_option maxHeartbeats 8000000 in
set_option maxRecDepth 100000 in
theorem quorem_calls (B g s h k : Nat) (x y : Int) (w : World) (hg : Rc w g) (hs : Rc w s) (hgs : g ≠ s) (hBg : B ≤ g) (hBs : B ≤ s) (hNx : Nm B w h 0 x) (hNy : Nm B w k 0 y) (hx : -1000000000000000000 ≤ x ∧ x ≤ 1000000000000000000) (hy : -1000000000000000000 ≤ y ∧ y ≤ 1000000000000000000) (hy0 : y ≠ 0) :
    Calls Try.prog 71 #[.pointer (some ⟨g, 0, none⟩), .pointer (some ⟨h, 0, none⟩), .pointer (some ⟨k, 0, none⟩), .pointer (some ⟨s, 0, none⟩)] w fun e w' => e = .returned (.tuple #[.pointer (some ⟨g, 0, none⟩), .pointer (some ⟨s, 0, none⟩)]) ∧ Nm w'.heap.size w' g 0 (x.tdiv y) ∧ Nm w'.heap.size w' s 0 (x.tmod y) ∧ Below B w w' := by
  have hu54 := Try.underlying54
  have hu58 := Try.underlying58
  have hu52 := Try.underlying52
  have HQ : Aside0 (QW B g s h k x y w w) := ⟨⟨hg, hs, hNx, hNy, Below.refl _ _, Nat.le_trans hBg (Nat.le_of_lt hg.lt)⟩⟩
  have HBG := Aside0.mk hBg
  have HBS := Aside0.mk hBs
  have HNE := Aside0.mk hgs
  have HY0 := Aside0.mk hy0
  obtain ⟨_, A0, c0, a, h1, h2, h3, h4, h5, _⟩ := hNx
  obtain ⟨_, A1, c1, b, k1, k2, k3, k4, k5, _⟩ := hNy
  have H3 := Aside0.mk (World.block_lt_of_cell? w _ h1)
  have K3 := Aside0.mk (World.block_lt_of_cell? w _ k1)
  obtain ⟨bx, hbx⟩ : ∃ bx, bx = decide (x < 0) := ⟨_, rfl⟩
  obtain ⟨bY, hbY⟩ : ∃ bY, bY = decide (y < 0) := ⟨_, rfl⟩
  obtain ⟨n, hn⟩ : ∃ n, n = (x.natAbs : Int) := ⟨_, rfl⟩
  obtain ⟨m, hm⟩ : ∃ m, m = (y.natAbs : Int) := ⟨_, rfl⟩
  rw [← hbx] at h1
  rw [← hbY] at k1
  rw [← hn] at h5
  rw [← hm] at k5
  have HZN : Aside0 (n < 18446744073709551616) := ⟨by omega⟩
  have HZM : Aside0 (0 < m ∧ m < 18446744073709551616) := ⟨by omega⟩
  have H1 := Aside0.mk h1
  have H2 : Aside0 (w.cell? ⟨h, 1, none⟩ = some (.slice A0 a.length c0)) := ⟨h2⟩
  have K1 := Aside0.mk k1
  have K2 : Aside0 (w.cell? ⟨k, 1, none⟩ = some (.slice A1 b.length c1)) := ⟨k2⟩
  have HL0 := Aside0.mk h3
  have HL1 := Aside0.mk k3
  have HC0 := Aside0.mk h4
  have HC1 := Aside0.mk k4
  have HREP0 := Aside0.mk h5
  have HREP1 := Aside0.mk k5
  have HBX := Aside0.mk hbx
  have HBY := Aside0.mk hbY
  have HNN := Aside0.mk hn
  have HMM := Aside0.mk hm
  clear hg hs hgs hBg hBs hx hy hy0 h1 h2 h3 h4 h5 k1 k2 k3 k4 k5 hbx hbY hn hm
  go_enter Try.func71, Try.ntmps71
  go_wp2
  refine start_ (n := 10) (S := fun w' => w'.cell? ⟨h, 0, none⟩ = some (.bool bx) ∧ w'.cell? ⟨k, 0, none⟩ = some (.bool bY)) (ds := []) #[false, false, false, false, false, false, false, false, false, false] (by kernel_rfl) rfl rfl ⟨H1.out, K1.out⟩ (fun hHeld => ?_)
  refine with_tabW qa_tab qa_bits (fun HT_ HW_ => ?_)
  generalize hw1 : w.drew = w1 at hHeld ⊢
  have HQ1 : Aside0 (QW B g s h k x y w w1) := ⟨by rw [← hw1]; exact HQ.out.step (below_drew (Below.refl _ _))⟩
  have HB1 : Aside0 (Below w.heap.size w w1) := ⟨by rw [← hw1]; exact below_drew (Below.refl _ _)⟩
  clear hw1
  refine pure_ (i := 0) (N := some 14) (v := ?_) (a' := ?_) #[true, false, false, false, false, false, false, false, false, false] rfl rfl (any_of HT_.out (by kernel_rfl)) (fun _ _ _ h => h) (Or.inl ⟨by rfl, ?_⟩) ?_ ?_
  rotate_left
  · intro w'
    go_simp
    with_reducible rfl
  rotate_left
  · simp only [Act.put, List.setIfInBounds_toArray, List.set_cons_zero, List.set_cons_succ, i64_w, i32_w]
    rfl
  refine pure_ (i := 1) (N := some 15) (v := ?_) (a' := ?_) #[true, true, false, false, false, false, false, false, false, false] rfl rfl (any_of HT_.out (by kernel_rfl)) (fun _ _ _ h => h) (Or.inl ⟨by rfl, ?_⟩) ?_ ?_
  rotate_left
  · intro w'
    go_simp
    with_reducible rfl
  rotate_left
  · simp only [Act.put, List.setIfInBounds_toArray, List.set_cons_zero, List.set_cons_succ, i64_w, i32_w]
    rfl
  refine pure_ (i := 2) (N := some 16) (v := ?_) (a' := ?_) #[true, true, true, false, false, false, false, false, false, false] rfl rfl (any_of HT_.out (by kernel_rfl)) (fun _ _ _ h => h) (Or.inl ⟨by rfl, ?_⟩) ?_ ?_
  rotate_left
  · intro w'
    go_simp
    with_reducible rfl
  rotate_left
  · simp only [Act.put, List.setIfInBounds_toArray, List.set_cons_zero, List.set_cons_succ, i64_w, i32_w]
    rfl
  refine take_ (i := 3) (N := some 17) (v := ?_) (a' := ?_) #[true, true, true, true, false, false, false, false, false, false] rfl rfl (take_ofW HT_.out HW_.out (by kernel_rfl)) (fun _ _ _ h => h) (Or.inl ⟨by rfl, ?_⟩) hHeld ?_ ?_
  rotate_left
  · rintro w' ⟨s0, s1⟩
    go_simp
    with_reducible rfl
  rotate_left
  · simp only [Act.put, List.setIfInBounds_toArray, List.set_cons_zero, List.set_cons_succ, i64_w, i32_w]
    rfl
  refine pure_ (i := 4) (N := some 18) (v := ?_) (a' := ?_) #[true, true, true, true, true, false, false, false, false, false] rfl rfl (any_of HT_.out (by kernel_rfl)) (fun _ _ _ h => h) (Or.inl ⟨by rfl, ?_⟩) ?_ ?_
  rotate_left
  · intro w'
    go_simp
    with_reducible rfl
  rotate_left
  · simp only [Act.put, List.setIfInBounds_toArray, List.set_cons_zero, List.set_cons_succ, i64_w, i32_w]
    rfl
  refine pure_ (i := 5) (N := some 19) (v := ?_) (a' := ?_) #[true, true, true, true, true, true, false, false, false, false] rfl rfl (any_of HT_.out (by kernel_rfl)) (fun _ _ _ h => h) (Or.inl ⟨by rfl, ?_⟩) ?_ ?_
  rotate_left
  · intro w'
    go_simp
    with_reducible rfl
  rotate_left
  · simp only [Act.put, List.setIfInBounds_toArray, List.set_cons_zero, List.set_cons_succ, i64_w, i32_w]
    rfl
  refine pure_ (i := 6) (N := some 20) (v := ?_) (a' := ?_) #[true, true, true, true, true, true, true, false, false, false] rfl rfl (any_of HT_.out (by kernel_rfl)) (fun _ _ _ h => h) (Or.inl ⟨by rfl, ?_⟩) ?_ ?_
  rotate_left
  · intro w'
    go_simp
    with_reducible rfl
  rotate_left
  · simp only [Act.put, List.setIfInBounds_toArray, List.set_cons_zero, List.set_cons_succ, i64_w, i32_w]
    rfl
  refine take_ (i := 7) (N := some 21) (v := ?_) (a' := ?_) #[true, true, true, true, true, true, true, true, false, false] rfl rfl (take_ofW HT_.out HW_.out (by kernel_rfl)) (fun _ _ _ h => h) (Or.inl ⟨by rfl, ?_⟩) hHeld ?_ ?_
  rotate_left
  · rintro w' ⟨s0, s1⟩
    go_simp
    with_reducible rfl
  rotate_left
  · simp only [Act.put, List.setIfInBounds_toArray, List.set_cons_zero, List.set_cons_succ, i64_w, i32_w]
    rfl
  refine pure_ (i := 8) (N := some 10) (v := ?_) (a' := ?_) #[true, true, true, true, true, true, true, true, true, false] rfl rfl (any_of HT_.out (by kernel_rfl)) (fun _ _ _ h => h) (Or.inl ⟨by rfl, ?_⟩) ?_ ?_
  rotate_left
  · intro w'
    go_simp
    with_reducible rfl
  rotate_left
  · simp only [Act.put, List.setIfInBounds_toArray, List.set_cons_zero, List.set_cons_succ, i64_w, i32_w]
    rfl
  refine pure_ (i := 9) (N := some 11) (v := ?_) (a' := ?_) #[true, true, true, true, true, true, true, true, true, true] rfl rfl (any_of HT_.out (by kernel_rfl)) (fun _ _ _ h => h) (Or.inl ⟨by rfl, ?_⟩) ?_ ?_
  rotate_left
  · intro w'
    go_simp
    with_reducible rfl
  rotate_left
  · simp only [Act.put, List.setIfInBounds_toArray, List.set_cons_zero, List.set_cons_succ, i64_w, i32_w]
    rfl
  refine done_ (done_of HT_.out (by kernel_rfl)) ?_
  go_wp2
  refine start_ (n := 14) (S := fun w' => w'.cell? ⟨h, 1, none⟩ = some (.slice A0 a.length c0) ∧ w'.cell? ⟨k, 1, none⟩ = some (.slice A1 b.length c1)) (ds := []) #[false, false, false, false, false, false, false, false, false, false, false, false, false, false] (by kernel_rfl) rfl rfl ⟨((below_drew HB1.out).cell H3.out).trans H2.out, ((below_drew HB1.out).cell K3.out).trans K2.out⟩ (fun hHeld => ?_)
  refine with_tabW qb_tab qb_bits (fun HT_ HW_ => ?_)
  generalize hw2 : w1.drew = w2 at hHeld ⊢
  have HQ2 : Aside0 (QW B g s h k x y w w2) := ⟨by rw [← hw2]; exact HQ1.out.step (below_drew (Below.refl _ _))⟩
  have HB2 : Aside0 (Below w.heap.size w w2) := ⟨by rw [← hw2]; exact below_drew HB1.out⟩
  clear hw2
  refine pure_ (i := 0) (N := some 23) (v := ?_) (a' := ?_) #[true, false, false, false, false, false, false, false, false, false, false, false, false, false] rfl rfl (any_of HT_.out (by kernel_rfl)) (fun _ _ _ h => h) (Or.inl ⟨by rfl, ?_⟩) ?_ ?_
  rotate_left
  · intro w'
    go_simp
    with_reducible rfl
  rotate_left
  · simp only [Act.put, List.setIfInBounds_toArray, List.set_cons_zero, List.set_cons_succ, i64_w, i32_w]
    rfl
  refine pure_ (i := 1) (N := some 24) (v := ?_) (a' := ?_) #[true, true, false, false, false, false, false, false, false, false, false, false, false, false] rfl rfl (any_of HT_.out (by kernel_rfl)) (fun _ _ _ h => h) (Or.inl ⟨by rfl, ?_⟩) ?_ ?_
  rotate_left
  · intro w'
    go_simp
    with_reducible rfl
  rotate_left
  · simp only [Act.put, List.setIfInBounds_toArray, List.set_cons_zero, List.set_cons_succ, i64_w, i32_w]
    rfl
  refine pure_ (i := 2) (N := some 25) (v := ?_) (a' := ?_) #[true, true, true, false, false, false, false, false, false, false, false, false, false, false] rfl rfl (any_of HT_.out (by kernel_rfl)) (fun _ _ _ h => h) (Or.inl ⟨by rfl, ?_⟩) ?_ ?_
  rotate_left
  · intro w'
    go_simp
    with_reducible rfl
  rotate_left
  · simp only [Act.put, List.setIfInBounds_toArray, List.set_cons_zero, List.set_cons_succ, i64_w, i32_w]
    rfl
  refine take_ (i := 3) (N := some 26) (v := ?_) (a' := ?_) #[true, true, true, true, false, false, false, false, false, false, false, false, false, false] rfl rfl (take_ofW HT_.out HW_.out (by kernel_rfl)) (fun _ _ _ h => h) (Or.inl ⟨by rfl, ?_⟩) hHeld ?_ ?_
  rotate_left
  · rintro w' ⟨s0, s1⟩
    go_simp
    with_reducible rfl
  rotate_left
  · simp only [Act.put, List.setIfInBounds_toArray, List.set_cons_zero, List.set_cons_succ, i64_w, i32_w]
    rfl
  refine pure_ (i := 4) (N := some 27) (v := ?_) (a' := ?_) #[true, true, true, true, true, false, false, false, false, false, false, false, false, false] rfl rfl (any_of HT_.out (by kernel_rfl)) (fun _ _ _ h => h) (Or.inl ⟨by rfl, ?_⟩) ?_ ?_
  rotate_left
  · intro w'
    go_simp
    with_reducible rfl
  rotate_left
  · simp only [Act.put, List.setIfInBounds_toArray, List.set_cons_zero, List.set_cons_succ, i64_w, i32_w]
    rfl
  refine pure_ (i := 5) (N := some 28) (v := ?_) (a' := ?_) #[true, true, true, true, true, true, false, false, false, false, false, false, false, false] rfl rfl (any_of HT_.out (by kernel_rfl)) (fun _ _ _ h => h) (Or.inl ⟨by rfl, ?_⟩) ?_ ?_
  rotate_left
  · intro w'
    go_simp
    with_reducible rfl
  rotate_left
  · simp only [Act.put, List.setIfInBounds_toArray, List.set_cons_zero, List.set_cons_succ, i64_w, i32_w]
    rfl
  refine pure_ (i := 6) (N := some 29) (v := ?_) (a' := ?_) #[true, true, true, true, true, true, true, false, false, false, false, false, false, false] rfl rfl (any_of HT_.out (by kernel_rfl)) (fun _ _ _ h => h) (Or.inl ⟨by rfl, ?_⟩) ?_ ?_
  rotate_left
  · intro w'
    go_simp
    with_reducible rfl
  rotate_left
  · simp only [Act.put, List.setIfInBounds_toArray, List.set_cons_zero, List.set_cons_succ, i64_w, i32_w]
    rfl
  refine take_ (i := 7) (N := some 30) (v := ?_) (a' := ?_) #[true, true, true, true, true, true, true, true, false, false, false, false, false, false] rfl rfl (take_ofW HT_.out HW_.out (by kernel_rfl)) (fun _ _ _ h => h) (Or.inl ⟨by rfl, ?_⟩) hHeld ?_ ?_
  rotate_left
  · rintro w' ⟨s0, s1⟩
    go_simp
    with_reducible rfl
  rotate_left
  · simp only [Act.put, List.setIfInBounds_toArray, List.set_cons_zero, List.set_cons_succ, i64_w, i32_w]
    rfl
  refine one_ (i := 8) (N := some 31) #[true, true, true, true, true, true, true, true, true, false, false, false, false, false] rfl rfl (one_of HT_.out (by kernel_rfl)) (by decide) (fun K hK => ?_)
  refine goes_ Try.func74 (by kernel_rfl) rfl #[.slice A0 a.length c0, .slice A1 b.length c1] (by rfl) rfl rfl (by (try simp only [List.map_toArray, List.map_cons, List.map_nil]); first | done | rfl | (simp only [List.length_drop, List.length_take]; rfl)) ?_
  with_reducible refine (div_calls A0 c0 a A1 c1 b n m _ (Kd.C_below HC0.out HB2.out) HL0.out (Kd.C_below HC1.out HB2.out) HL1.out HREP0.out HREP1.out HZN.out HZM.out).mono ?_
  rintro e w3 ⟨vq, vr, lq, lr, rfl, mq, mr, rq, rr, hb3⟩
  obtain ⟨Aq, cq, rfl, hcq, hCq⟩ := mq
  obtain ⟨Ar, cr, rfl, hcr, hCr⟩ := mr
  refine ⟨_, rfl, ?_⟩
  have MQ : Aside0 (Mg w3 (.slice Aq lq.length cq) lq) := ⟨⟨_, _, rfl, hcq, hCq⟩⟩
  have MR : Aside0 (Mg w3 (.slice Ar lr.length cr) lr) := ⟨⟨_, _, rfl, hcr, hCr⟩⟩
  have RQ := Aside0.mk rq
  have RR := Aside0.mk rr
  have HQ3 : Aside0 (QW B g s h k x y w w3) := ⟨HQ2.out.step hb3⟩
  have HB3 : Aside0 (Below w.heap.size w w3) := ⟨below_step HB2.out hb3⟩
  clear hcq hCq hcr hCr rq rr hb3
  refine hK.out _ _ ⟨(HB3.out.cell H3.out).trans H2.out, (HB3.out.cell K3.out).trans K2.out⟩ (fun hHeld => ?_)
  clear hK K
  refine norm_ (a' := ?_) ?_ ?_
  rotate_left
  · show Act.put _ (some 31) _ = _
    simp only [Act.put, List.setIfInBounds_toArray, List.set_cons_zero, List.set_cons_succ, i64_w, i32_w]
    rfl
  refine pure_ (i := 9) (N := some 22) (v := ?_) (a' := ?_) #[true, true, true, true, true, true, true, true, true, true, false, false, false, false] rfl rfl (any_of HT_.out (by kernel_rfl)) (fun _ _ _ h => h) (Or.inl ⟨by rfl, ?_⟩) ?_ ?_
  rotate_left
  · intro w'
    go_simp
    with_reducible rfl
  rotate_left
  · simp only [Act.put, List.setIfInBounds_toArray, List.set_cons_zero, List.set_cons_succ, i64_w, i32_w]
    rfl
  refine pure_ (i := 10) (N := some 32) (v := ?_) (a' := ?_) #[true, true, true, true, true, true, true, true, true, true, true, false, false, false] rfl rfl (any_of HT_.out (by kernel_rfl)) (fun _ _ _ h => h) (Or.inl ⟨by rfl, ?_⟩) ?_ ?_
  rotate_left
  · intro w'
    go_simp
    with_reducible rfl
  rotate_left
  · simp only [Act.put, List.setIfInBounds_toArray, List.set_cons_zero, List.set_cons_succ, i64_w, i32_w]
    rfl
  refine pure_ (i := 11) (N := some 33) (v := ?_) (a' := ?_) #[true, true, true, true, true, true, true, true, true, true, true, true, false, false] rfl rfl (any_of HT_.out (by kernel_rfl)) (fun _ _ _ h => h) (Or.inl ⟨by rfl, ?_⟩) ?_ ?_
  rotate_left
  · intro w'
    go_simp
    with_reducible rfl
  rotate_left
  · simp only [Act.put, List.setIfInBounds_toArray, List.set_cons_zero, List.set_cons_succ, i64_w, i32_w]
    rfl
  refine pure_ (i := 12) (N := some 12) (v := ?_) (a' := ?_) #[true, true, true, true, true, true, true, true, true, true, true, true, true, false] rfl rfl (any_of HT_.out (by kernel_rfl)) (fun _ _ _ h => h) (Or.inl ⟨by rfl, ?_⟩) ?_ ?_
  rotate_left
  · intro w'
    go_simp
    with_reducible rfl
  rotate_left
  · simp only [Act.put, List.setIfInBounds_toArray, List.set_cons_zero, List.set_cons_succ, i64_w, i32_w]
    rfl
  refine pure_ (i := 13) (N := some 13) (v := ?_) (a' := ?_) #[true, true, true, true, true, true, true, true, true, true, true, true, true, true] rfl rfl (any_of HT_.out (by kernel_rfl)) (fun _ _ _ h => h) (Or.inl ⟨by rfl, ?_⟩) ?_ ?_
  rotate_left
  · intro w'
    go_simp
    with_reducible rfl
  rotate_left
  · simp only [Act.put, List.setIfInBounds_toArray, List.set_cons_zero, List.set_cons_succ, i64_w, i32_w]
    rfl
  refine done_ (done_of HT_.out (by kernel_rfl)) ?_
  go_wp2_with (first
    | (go_at_call 60; go_loud (with_reducible refine (put_calls g _ Aq lq.length cq _ HQ3.out.rz).mono ?_; rintro e w4 ⟨rfl, hp⟩; have HP1 := Aside0.mk hp; have HR1 := Aside0.mk (HQ3.out.rr.put hp HNE.out.symm); clear hp))
    | (go_at_call 60; go_loud (with_reducible refine (put_calls s _ Ar lr.length cr _ HR1.out).mono ?_; rintro e w5 ⟨rfl, hp⟩; have HP2 := Aside0.mk hp; clear hp)))
  go_ret2
  have hq := quo_sign HY0.out (l := lq) (by rw [← HNN.out, ← HMM.out]; exact RQ.out)
  have hr := rem_sign HY0.out (l := lr) (by rw [← HNN.out, ← HMM.out]; exact RR.out)
  have n1 := Nm.put MQ.out HQ3.out.rz HP1.out hq.2 (by rw [← hq.1, ← HBX.out, ← HBY.out]; cases bx <;> cases bY <;> rfl)
  have n2 := Nm.put (MR.out.put HQ3.out.rz HP1.out) HR1.out HP2.out hr.2 (by rw [← hr.1, ← HBX.out])
  exact ⟨rfl, (n1.put2 HR1.out HP2.out HNE.out).now, n2, (HQ3.out.bl.trans (HP1.out.bl.mono HBG.out)).trans (HP2.out.bl.mono HBS.out)⟩

set_option maxHeartbeats 8000000 in
set_option maxRecDepth 100000 in
theorem quo_calls (B g h k : Nat) (x y : Int) (w : World) (hg : Rc w g) (hBg : B ≤ g) (hNx : Nm B w h 0 x) (hNy : Nm B w k 0 y) (hx : -1000000000000000000 ≤ x ∧ x ≤ 1000000000000000000) (hy : -1000000000000000000 ≤ y ∧ y ≤ 1000000000000000000) (hy0 : y ≠ 0) :
    Calls Try.prog 58 #[.pointer (some ⟨g, 0, none⟩), .pointer (some ⟨h, 0, none⟩), .pointer (some ⟨k, 0, none⟩)] w fun e w' => e = .returned (.pointer (some ⟨g, 0, none⟩)) ∧ Nm w'.heap.size w' g 0 (x.tdiv y) ∧ Below B w w' := by
  have hu54 := Try.underlying54
  have hu58 := Try.underlying58
  have HB : Aside0 (Below w.heap.size w (w.alloc (.cells #[.bool false, .slice none 0 0] 54))) := ⟨Below.alloc (Below.refl _ _) (Nat.le_refl _) _⟩
  have HLE : Aside0 (B ≤ w.heap.size) := ⟨Nat.le_trans hBg (Nat.le_of_lt hg.lt)⟩
  have HC := Aside0.mk (quorem_calls B g w.heap.size h k x y (w.alloc (.cells #[.bool false, .slice none 0 0] 54)) (hg.below hg.lt HB.out) (rc_alloc w) (Nat.ne_of_lt hg.lt) hBg HLE.out (hNx.below (HB.out.mono HLE.out)) (hNy.below (HB.out.mono HLE.out)) hx hy hy0)
  clear hg hBg hNx hNy hx hy hy0
  go_enter Try.func58, Try.ntmps58
  go_wp2_with (go_at_call 71; go_loud (with_reducible refine HC.out.mono ?_; rintro e w4 ⟨rfl, h1, h2, h3⟩; have H1 := Aside0.mk h1; have H3 := Aside0.mk h3; clear h1 h2 h3))
  go_ret
  exact ⟨rfl, H1.out, (HB.out.mono HLE.out).trans H3.out⟩

end Go.Proofs.Ytpcekncfdcofhaa.Q
