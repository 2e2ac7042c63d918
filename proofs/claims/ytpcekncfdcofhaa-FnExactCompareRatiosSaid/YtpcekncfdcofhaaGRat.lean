/- Contracts by hand for the methods of impl.bigRat: Denom, SetFrac, newBigRat. -/
import Derived.Test.YtpcekncfdcofhaaQ0
import Derived.Test.YtpcekncfdcofhaaGMul
namespace Go.Proofs.Ytpcekncfdcofhaa.Q
open Go.RowKit Go.Proofs.YtpcekncfdcofhaaW.PrintWords Go.Proofs.YtpcekncfdcofhaaW.PrintLast Go.Proofs.YtpcekncfdcofhaaW.PrintMore
set_option linter.unusedVariables false
set_option linter.unusedSimpArgs false

def sf_T : Bool × List (List Nat × List Nat) := (true, [([], []), ([], []), ([], []), ([2], [2]), ([3], [3]), ([], []), ([5], [5]), ([6], [6]), ([0, 0, 2, 3, 4, 7], [0]), ([8, 0, 2, 3, 4, 7], [8]), ([9, 4, 0, 2, 3, 4, 7], [4, 9]), ([1, 0, 1, 2, 3, 4, 5, 6, 7, 8, 9, 10], [1]), ([11, 0, 1, 2, 3, 4, 5, 6, 7, 8, 9, 10], [11]), ([12, 7, 10, 0, 1, 2, 3, 4, 5, 6, 7, 8, 9, 10], [7, 12])])
def sf_B : List Nat := [0, 0, 0, 4, 12, 0, 32, 96, 253, 509, 1021, 2047, 4095, 8191]
theorem sf_tab : rtab .any (opsOf Try.f38 5) = sf_T := by kernel_rfl
theorem sf_bits : waitsOk sf_T.2 sf_B = true := by kernel_rfl

theorem new_below (w : World) : Below w.heap.size w (w.alloc (.cells #[.bool false, .slice none 0 0] 54)) := Below.alloc (Below.refl _ _) (Nat.le_refl _) _
theorem gcd_new (h k : Nat) (a b : Int) (w : World) (hNx : Nm w.heap.size w h 0 a) (hNy : Nm w.heap.size w k 0 b) (hx : -1000000000000000000 ≤ a ∧ a ≤ 1000000000000000000) (hy : -1000000000000000000 ≤ b ∧ b ≤ 1000000000000000000) :
    Calls Try.prog 55 #[.pointer (some ⟨w.heap.size, 0, none⟩), .pointer (some ⟨h, 0, none⟩), .pointer (some ⟨k, 0, none⟩)] (w.alloc (.cells #[.bool false, .slice none 0 0] 54)) fun e w' => e = .returned (.pointer (some ⟨w.heap.size, 0, none⟩)) ∧ Nm w'.heap.size w' w.heap.size 0 (Int.gcd a b : Int) ∧ Below w.heap.size w w' := by
  refine (gcd_calls w.heap.size w.heap.size h k a b _ (rc_alloc w) (Nat.le_refl _) (hNx.below (new_below w)) (hNy.below (new_below w)) hx hy).mono ?_
  rintro e w' ⟨h1, h2, h3⟩
  exact ⟨h1, h2, (new_below w).trans h3⟩
theorem quo_new (h k : Nat) (a b : Int) (w : World) (hNx : Nm w.heap.size w h 0 a) (hNy : Nm w.heap.size w k 0 b) (hx : -1000000000000000000 ≤ a ∧ a ≤ 1000000000000000000) (hy : -1000000000000000000 ≤ b ∧ b ≤ 1000000000000000000) (hy0 : b ≠ 0) :
    Calls Try.prog 58 #[.pointer (some ⟨w.heap.size, 0, none⟩), .pointer (some ⟨h, 0, none⟩), .pointer (some ⟨k, 0, none⟩)] (w.alloc (.cells #[.bool false, .slice none 0 0] 54)) fun e w' => e = .returned (.pointer (some ⟨w.heap.size, 0, none⟩)) ∧ Nm w'.heap.size w' w.heap.size 0 (a.tdiv b) ∧ Below w.heap.size w w' := by
  refine (quo_calls w.heap.size w.heap.size h k a b _ (rc_alloc w) (Nat.le_refl _) (hNx.below (new_below w)) (hNy.below (new_below w)) hx hy hy0).mono ?_
  rintro e w' ⟨h1, h2, h3⟩
  exact ⟨h1, h2, (new_below w).trans h3⟩
theorem set_new (h o : Nat) (z : Int) (w : World) (hN : Nm w.heap.size w h o z) (hz : -1000000000000000000 ≤ z ∧ z ≤ 1000000000000000000) :
    Calls Try.prog 62 #[.pointer (some ⟨w.heap.size, 0, none⟩), .pointer (some ⟨h, o, none⟩)] (w.alloc (.cells #[.bool false, .slice none 0 0] 54)) fun e w' => e = .returned (.pointer (some ⟨w.heap.size, 0, none⟩)) ∧ Nm w'.heap.size w' w.heap.size 0 z ∧ Below w.heap.size w w' := by
  refine (set_calls w.heap.size w.heap.size h o z _ (rc_alloc w) (Nat.ne_of_lt hN.lo) (hN.below (new_below w)) hz).mono ?_
  rintro e w' ⟨h1, h2, h3⟩
  exact ⟨h1, h2, (new_below w).trans h3⟩

set_option maxHeartbeats 8000000 in
set_option maxRecDepth 100000 in
theorem denom_calls (r : Nat) (q : Int) (w : World) (hN : Nm w.heap.size w r 2 q) (hq : 0 < q ∧ q ≤ 1000000000000000000) :
    Calls Try.prog 41 #[.pointer (some ⟨r, 0, none⟩)] w fun e w' => ∃ d, e = .returned (.pointer (some ⟨d, 0, none⟩)) ∧ w.heap.size ≤ d ∧ Nm w'.heap.size w' d 0 q ∧ Below w.heap.size w w' := by
  have hu54 := Try.underlying54
  have hu56 := Try.underlying56
  have hu58 := Try.underlying58
  have HS := Aside0.mk (sign_pos r 2 _ q hq.1 w hN)
  have HN := Aside0.mk hN
  have HQ := Aside0.mk hq
  clear hN hq
  go_enter Try.func41, Try.ntmps41
  go_wp2_with (first
    | (go_at_call 56; go_loud (with_reducible refine HS.out.mono ?_; rintro e w1 ⟨rfl, hb⟩; have HN1 := Aside0.mk (HN.out.below hb).now; have HB1 := Aside0.mk hb; clear hb))
    | (go_at_call 62; go_loud (with_reducible refine (set_new r 2 q w1 HN1.out (by have := HQ.out; omega)).mono ?_; rintro e w2 ⟨rfl, h1, h2⟩; have HN2 := Aside0.mk h1; have HB2 := Aside0.mk (below_step HB1.out h2); clear h1 h2)))
  go_ret
  exact ⟨w1.heap.size, rfl, HB1.out.size, HN2.out, HB2.out⟩

/-- A fraction that is about to be written. -/
structure Rr (W : World) (r : Nat) : Prop where
  lo : Rc W r
  c2 : ∃ b, W.cell? ⟨r, 2, none⟩ = some (.bool b)
  c3 : ∃ A n c, W.cell? ⟨r, 3, none⟩ = some (.slice A n c)
  f2 : W.frozen? ⟨r, 2, none⟩ = false
  f3 : W.frozen? ⟨r, 3, none⟩ = false
theorem Rr.lt {W : World} {r : Nat} (h : Rr W r) : r < W.heap.size := h.lo.lt
theorem Rr.below {B : Nat} {W W' : World} {g : Nat} (h : Rr W g) (hg : g < B) (hb : Below B W W') : Rr W' g := by
  obtain ⟨b, h0⟩ := h.c2
  obtain ⟨A, n, c, h1⟩ := h.c3
  exact ⟨h.lo.below hg hb, ⟨b, (hb.cell hg).trans h0⟩, ⟨A, n, c, (hb.cell hg).trans h1⟩, (hb.frozen hg).trans h.f2, (hb.frozen hg).trans h.f3⟩
theorem rr_alloc (w : World) : Rr (w.alloc (.cells #[.bool false, .slice none 0 0, .bool false, .slice none 0 0] 56)) w.heap.size := by
  have h := alloc_heap w (.cells #[.bool false, .slice none 0 0, .bool false, .slice none 0 0] 56)
  refine ⟨⟨⟨false, ?_⟩, ⟨none, 0, 0, ?_⟩, ?_, ?_⟩, ⟨false, ?_⟩, ⟨none, 0, 0, ?_⟩, ?_, ?_⟩
  · unfold World.cell?; simp only [h]; rfl
  · unfold World.cell?; simp only [h]; rfl
  · rw [frozen?_alloc_cells]; simp [World.frozen?]
  · rw [frozen?_alloc_cells]; simp [World.frozen?]
  · unfold World.cell?; simp only [h]; rfl
  · unfold World.cell?; simp only [h]; rfl
  · rw [frozen?_alloc_cells]; simp [World.frozen?]
  · rw [frozen?_alloc_cells]; simp [World.frozen?]

abbrev four (w : World) (r : Nat) (u0 u1 u2 u3 : Value) : World := (((w.setCell ⟨r, 0, none⟩ u0).setCell ⟨r, 1, none⟩ u1).setCell ⟨r, 2, none⟩ u2).setCell ⟨r, 3, none⟩ u3
theorem four_other {w : World} {r : Nat} {u0 u1 u2 u3 : Value} {ad : Addr} (h0 : ad ≠ ⟨r, 0, none⟩) (h1 : ad ≠ ⟨r, 1, none⟩) (h2 : ad ≠ ⟨r, 2, none⟩) (h3 : ad ≠ ⟨r, 3, none⟩) : (four w r u0 u1 u2 u3).cell? ad = w.cell? ad := by
  unfold four
  rw [World.cell?_setCell_other _ _ _ _ h3.symm, World.cell?_setCell_other _ _ _ _ h2.symm, World.cell?_setCell_other _ _ _ _ h1.symm, World.cell?_setCell_other _ _ _ _ h0.symm]
theorem C_four {w : World} {r : Nat} {u0 u1 u2 u3 : Value} {A : Option Addr} {n : Nat} {l : List Int} (h : Kd.C (Kd.int .u32) w A n l) (hr : Rr w r) : Kd.C (Kd.int .u32) (four w r u0 u1 u2 u3) A n l := by
  obtain ⟨b', h0⟩ := hr.lo.c0
  obtain ⟨A', n', c', h1⟩ := hr.lo.c1
  obtain ⟨b2, h2⟩ := hr.c2
  obtain ⟨A3, n3, c3, h3⟩ := hr.c3
  refine C_move h (fun ad e ad' e' x hx => (four_other ?_ ?_ ?_ ?_).trans hx)
  · intro e; rw [e, h0] at hx; cases hx
  · intro e; rw [e, h1] at hx; cases hx
  · intro e; rw [e, h2] at hx; cases hx
  · intro e; rw [e, h3] at hx; cases hx
theorem four_at {w : World} {r : Nat} {u0 u1 u2 u3 : Value} (hr : Rr w r) : (four w r u0 u1 u2 u3).cell? ⟨r, 0, none⟩ = some u0 ∧ (four w r u0 u1 u2 u3).cell? ⟨r, 1, none⟩ = some u1 ∧ (four w r u0 u1 u2 u3).cell? ⟨r, 2, none⟩ = some u2 ∧ (four w r u0 u1 u2 u3).cell? ⟨r, 3, none⟩ = some u3 := by
  obtain ⟨b', h0⟩ := hr.lo.c0
  obtain ⟨A', n', c', h1⟩ := hr.lo.c1
  obtain ⟨b2, h2⟩ := hr.c2
  obtain ⟨A3, n3, c3, h3⟩ := hr.c3
  unfold four
  refine ⟨?_, ?_, ?_, ?_⟩
  · rw [World.cell?_setCell_other _ _ _ _ (by simp), World.cell?_setCell_other _ _ _ _ (by simp), World.cell?_setCell_other _ _ _ _ (by simp)]
    exact World.cell?_setCell_same _ _ _ h0
  · rw [World.cell?_setCell_other _ _ _ _ (by simp), World.cell?_setCell_other _ _ _ _ (by simp)]
    exact World.cell?_setCell_same _ _ _ ((World.cell?_setCell_other _ _ _ _ (by simp)).trans h1)
  · rw [World.cell?_setCell_other _ _ _ _ (by simp)]
    exact World.cell?_setCell_same _ _ _ ((World.cell?_setCell_other _ _ _ _ (by simp)).trans ((World.cell?_setCell_other _ _ _ _ (by simp)).trans h2))
  · exact World.cell?_setCell_same _ _ _ ((World.cell?_setCell_other _ _ _ _ (by simp)).trans ((World.cell?_setCell_other _ _ _ _ (by simp)).trans ((World.cell?_setCell_other _ _ _ _ (by simp)).trans h3)))
theorem four_below {w : World} {r : Nat} {u0 u1 u2 u3 : Value} : Below r w (four w r u0 u1 u2 u3) := by
  unfold four
  exact Below.setCell (p := ⟨r, 3, none⟩) (Below.setCell (p := ⟨r, 2, none⟩) (Below.setCell (p := ⟨r, 1, none⟩) (Below.setCell (p := ⟨r, 0, none⟩) (Below.refl r w) (Nat.le_refl r) u0) (Nat.le_refl r) u1) (Nat.le_refl r) u2) (Nat.le_refl r) u3
theorem four_nm {w : World} {r : Nat} {p q : Int} {A0 A1 : Option Addr} {c0 c1 : Nat} {l0 l1 : List Int} (hr : Rr w r) (hc0 : l0.length ≤ c0) (h0 : Kd.C (Kd.int .u32) w A0 l0.length l0) (hp : Rep l0 (p.natAbs : Int)) (hc1 : l1.length ≤ c1) (h1 : Kd.C (Kd.int .u32) w A1 l1.length l1) (hq : Rep l1 (q.natAbs : Int)) (W : World)
    (hW : four w r (.bool (decide (p < 0))) (.slice A0 l0.length c0) (.bool (decide (q < 0))) (.slice A1 l1.length c1) = W) : Nm W.heap.size W r 0 p ∧ Nm W.heap.size W r 2 q ∧ Below r w W := by
  obtain ⟨e0, e1, e2, e3⟩ := four_at (u0 := .bool (decide (p < 0))) (u1 := .slice A0 l0.length c0) (u2 := .bool (decide (q < 0))) (u3 := .slice A1 l1.length c1) hr
  have k0 := C_four (u0 := .bool (decide (p < 0))) (u1 := .slice A0 l0.length c0) (u2 := .bool (decide (q < 0))) (u3 := .slice A1 l1.length c1) h0 hr
  have k1 := C_four (u0 := .bool (decide (p < 0))) (u1 := .slice A0 l0.length c0) (u2 := .bool (decide (q < 0))) (u3 := .slice A1 l1.length c1) h1 hr
  have kb := four_below (w := w) (r := r) (u0 := .bool (decide (p < 0))) (u1 := .slice A0 l0.length c0) (u2 := .bool (decide (q < 0))) (u3 := .slice A1 l1.length c1)
  rw [hW] at e0 e1 e2 e3 k0 k1 kb
  refine ⟨⟨World.block_lt_of_cell? W _ e0, A0, c0, l0, e0, e1, hc0, k0, hp, fun ad e hl => ?_⟩, ⟨World.block_lt_of_cell? W _ e0, A1, c1, l1, e2, e3, hc1, k1, hq, fun ad e hl => ?_⟩, kb⟩
  · subst e; exact C_lt k0 hl
  · subst e; exact C_lt k1 hl

theorem gcd_bounds {a b : Int} (hb : 0 < b ∧ b ≤ 1000000000000000000) : 0 < (Int.gcd a b : Int) ∧ (Int.gcd a b : Int) ≤ 1000000000000000000 := by
  have h1 : 0 < Int.gcd a b := Int.gcd_pos_of_ne_zero_right a (by omega)
  have h2 : (Int.gcd a b : Int) ≤ b := Int.le_of_dvd hb.1 (Int.gcd_dvd_right a b)
  omega

set_option maxHeartbeats 8000000 in
set_option maxRecDepth 100000 in
theorem setfrac_calls (r h k : Nat) (a b : Int) (w : World) (hr : Rr w r) (hNx : Nm w.heap.size w h 0 a) (hNy : Nm w.heap.size w k 0 b) (hx : -1000000000000000000 ≤ a ∧ a ≤ 1000000000000000000) (hy : 0 < b ∧ b ≤ 1000000000000000000) :
    Calls Try.prog 38 #[.pointer (some ⟨r, 0, none⟩), .pointer (some ⟨h, 0, none⟩), .pointer (some ⟨k, 0, none⟩)] w fun e w' => e = .returned (.pointer (some ⟨r, 0, none⟩)) ∧ Nm w'.heap.size w' r 0 (a.tdiv (Int.gcd a b)) ∧ Nm w'.heap.size w' r 2 (b.tdiv (Int.gcd a b)) ∧ Below r w w' := by
  have hu54 := Try.underlying54
  have hu56 := Try.underlying56
  have hu58 := Try.underlying58
  have hgb := gcd_bounds (a := a) hy
  have HC1 := Aside0.mk (gcd_new h k a b w hNx hNy hx (by omega))
  generalize (Int.gcd a b : Int) = G at hgb HC1 ⊢
  have HG := Aside0.mk hgb
  have HX := Aside0.mk hx
  have HY := Aside0.mk hy
  have HNX := Aside0.mk hNx
  have HNY := Aside0.mk hNy
  have HRR := Aside0.mk hr
  clear hgb hx hy hNx hNy hr
  go_enter Try.func38, Try.ntmps38
  go_wp2_with (first
    | (go_at_call 55; go_loud (with_reducible refine HC1.out.mono ?_; rintro e w1 ⟨rfl, h1, hb⟩; have HG1 := Aside0.mk h1; have HX1 := Aside0.mk (HNX.out.below hb).now; have HY1 := Aside0.mk (HNY.out.below hb).now; have HRR1 := Aside0.mk (HRR.out.below HRR.out.lt hb); have HB1 := Aside0.mk hb; clear hb h1))
    | (go_at_call 56; go_loud (with_reducible refine (sign_pos k 0 _ b HY.out.1 w1 HY1.out).mono ?_; rintro e w2 ⟨rfl, hb⟩; have HG2 := Aside0.mk (HG1.out.below hb).now; have HX2 := Aside0.mk (HX1.out.below hb).now; have HY2 := Aside0.mk (HY1.out.below hb).now; have HRR2 := Aside0.mk (HRR1.out.below HRR1.out.lt hb); have HB2 := Aside0.mk (below_step HB1.out hb); clear hb))
    | (go_at_call 58; go_loud (with_reducible refine (quo_new h w.heap.size a G w2 HX2.out HG2.out HX.out (by have := HG.out; omega) (by have := HG.out; omega)).mono ?_; rintro e w3 ⟨rfl, h1, hb⟩; obtain ⟨n, hn⟩ : ∃ n, n = w2.heap.size := ⟨_, rfl⟩; rw [← hn] at h1; have HNN := Aside0.mk hn; clear hn; have HP3 := Aside0.mk h1; have HG3 := Aside0.mk (HG2.out.below hb).now; have HY3 := Aside0.mk (HY2.out.below hb).now; have HRR3 := Aside0.mk (HRR2.out.below HRR2.out.lt hb); have HB3 := Aside0.mk (below_step HB2.out hb); clear hb h1))
    | (go_at_call 58; go_loud (with_reducible refine (quo_new k w.heap.size b G w3 HY3.out HG3.out (by have := HY.out; omega) (by have := HG.out; omega) (by have := HG.out; omega)).mono ?_; rintro e w4 ⟨rfl, h1, hb⟩; obtain ⟨d, hd⟩ : ∃ d, d = w3.heap.size := ⟨_, rfl⟩; rw [← hd] at h1; have HDD := Aside0.mk hd; clear hd; have HQ4 := Aside0.mk h1; have HP4 := Aside0.mk (HP3.out.below hb).now; have HRR4 := Aside0.mk (HRR3.out.below HRR3.out.lt hb); have HB4 := Aside0.mk (below_step HB3.out hb); clear hb h1)))
  rw [← HNN.out, ← HDD.out]
  obtain ⟨_, A0, c0, l0, n1, n2, n3, n4, n5, _⟩ := HP4.out
  obtain ⟨_, A1, c1, l1, d1, d2, d3, d4, d5, _⟩ := HQ4.out
  generalize hp : a.tdiv G = p at n1 n5 HP3 HP4
  generalize hq : b.tdiv G = q at d1 d5 HQ4
  have HPE := Aside0.mk hp
  have HQE := Aside0.mk hq
  clear hp hq
  obtain ⟨b0, hb0⟩ : ∃ b0, b0 = decide (p < 0) := ⟨_, rfl⟩
  obtain ⟨b1, hb1⟩ : ∃ b1, b1 = decide (q < 0) := ⟨_, rfl⟩
  rw [← hb0] at n1
  rw [← hb1] at d1
  have HB0 := Aside0.mk hb0
  have HBQ := Aside0.mk hb1
  have N3 := Aside0.mk (World.block_lt_of_cell? w4 _ n1)
  have D3 := Aside0.mk (World.block_lt_of_cell? w4 _ d1)
  have N1 := Aside0.mk n1
  have N2 : Aside0 (w4.cell? ⟨n, 1, none⟩ = some (.slice A0 l0.length c0)) := ⟨n2⟩
  have NL := Aside0.mk n3
  have NC := Aside0.mk n4
  have NR := Aside0.mk n5
  have D1 := Aside0.mk d1
  have D2 : Aside0 (w4.cell? ⟨d, 1, none⟩ = some (.slice A1 l1.length c1)) := ⟨d2⟩
  have DL := Aside0.mk d3
  have DC := Aside0.mk d4
  have DR := Aside0.mk d5
  have HNR : Aside0 (∀ i j : Nat, (⟨n, i, none⟩ : Addr) ≠ ⟨r, j, none⟩) := ⟨fun i j e => by injection e with e1 _; have := HRR.out.lt; have := HB2.out.size; have := HNN.out; omega⟩
  have HDR : Aside0 (∀ i j : Nat, (⟨d, i, none⟩ : Addr) ≠ ⟨r, j, none⟩) := ⟨fun i j e => by injection e with e1 _; have := HRR.out.lt; have := HB3.out.size; have := HDD.out; omega⟩
  clear n1 n2 n3 n4 n5 d1 d2 d3 d4 d5 hb0 hb1
  refine start_ (n := 14) (S := fun w' => w'.cell? ⟨n, 0, none⟩ = some (.bool b0) ∧ w'.cell? ⟨n, 1, none⟩ = some (.slice A0 l0.length c0) ∧ w'.cell? ⟨d, 0, none⟩ = some (.bool b1) ∧ w'.cell? ⟨d, 1, none⟩ = some (.slice A1 l1.length c1)) (ds := []) #[false, false, false, false, false, false, false, false, false, false, false, false, false, false] (by kernel_rfl) rfl rfl ⟨((below_drew (Below.refl _ w4)).cell (p := ⟨n, 0, none⟩) N3.out).trans N1.out, ((below_drew (Below.refl _ w4)).cell (p := ⟨n, 1, none⟩) N3.out).trans N2.out, ((below_drew (Below.refl _ w4)).cell (p := ⟨d, 0, none⟩) D3.out).trans D1.out, ((below_drew (Below.refl _ w4)).cell (p := ⟨d, 1, none⟩) D3.out).trans D2.out⟩ (fun hHeld => ?_)
  refine with_tabW sf_tab sf_bits (fun HT_ HW_ => ?_)
  generalize hw5 : w4.drew = w5 at hHeld ⊢
  have HB45 : Below w4.heap.size w4 w5 := by rw [← hw5]; exact below_drew (Below.refl _ _)
  have HRR5 := Aside0.mk (HRR4.out.below HRR4.out.lt HB45)
  have HM0 := Aside0.mk ((Mg.below ⟨A0, c0, rfl, NL.out, NC.out⟩ HB45) : Mg w5 (.slice A0 l0.length c0) l0)
  have HM1 := Aside0.mk ((Mg.below ⟨A1, c1, rfl, DL.out, DC.out⟩ HB45) : Mg w5 (.slice A1 l1.length c1) l1)
  have HB5 := Aside0.mk (below_step HB4.out HB45)
  clear HB45 hw5
  refine pure_ (i := 0) (N := some 28) (v := ?_) (a' := ?_) #[true, false, false, false, false, false, false, false, false, false, false, false, false, false] rfl rfl (any_of HT_.out (by kernel_rfl)) (fun _ _ _ h => h) (Or.inl ⟨by rfl, ?_⟩) ?_ ?_
  rotate_left
  · intro w'
    go_simp
    with_reducible rfl
  rotate_left
  · simp only [Act.put, List.setIfInBounds_toArray, List.set_cons_zero, List.set_cons_succ, i64_w, i32_w]
    rfl
  refine pure_ (i := 1) (N := some 29) (v := ?_) (a' := ?_) #[true, true, false, false, false, false, false, false, false, false, false, false, false, false] rfl rfl (any_of HT_.out (by kernel_rfl)) (fun _ _ _ h => h) (Or.inl ⟨by rfl, ?_⟩) ?_ ?_
  rotate_left
  · intro w'
    go_simp
    with_reducible rfl
  rotate_left
  · simp only [Act.put, List.setIfInBounds_toArray, List.set_cons_zero, List.set_cons_succ, i64_w, i32_w]
    rfl
  refine pure_ (i := 2) (N := some 30) (v := ?_) (a' := ?_) #[true, true, true, false, false, false, false, false, false, false, false, false, false, false] rfl rfl (any_of HT_.out (by kernel_rfl)) (fun _ _ _ h => h) (Or.inl ⟨by rfl, ?_⟩) ?_ ?_
  rotate_left
  · intro w'
    go_simp
    with_reducible rfl
  rotate_left
  · simp only [Act.put, List.setIfInBounds_toArray, List.set_cons_zero, List.set_cons_succ, i64_w, i32_w]
    rfl
  refine pure_ (i := 3) (N := some 31) (v := ?_) (a' := ?_) #[true, true, true, true, false, false, false, false, false, false, false, false, false, false] rfl rfl (any_of HT_.out (by kernel_rfl)) (fun _ _ _ h => h) (Or.inl ⟨by rfl, ?_⟩) ?_ ?_
  rotate_left
  · intro w'
    go_simp
    with_reducible rfl
  rotate_left
  · simp only [Act.put, List.setIfInBounds_toArray, List.set_cons_zero, List.set_cons_succ, i64_w, i32_w]
    rfl
  refine take_ (i := 4) (N := some 32) (v := ?_) (a' := ?_) #[true, true, true, true, true, false, false, false, false, false, false, false, false, false] rfl rfl (take_ofW HT_.out HW_.out (by kernel_rfl)) (fun _ _ _ h => h) (Or.inl ⟨by rfl, ?_⟩) hHeld ?_ ?_
  rotate_left
  · rintro w' ⟨s0, s1, s2, s3⟩
    go_simp
    with_reducible rfl
  rotate_left
  · simp only [Act.put, List.setIfInBounds_toArray, List.set_cons_zero, List.set_cons_succ, i64_w, i32_w]
    rfl
  refine pure_ (i := 5) (N := some 33) (v := ?_) (a' := ?_) #[true, true, true, true, true, true, false, false, false, false, false, false, false, false] rfl rfl (any_of HT_.out (by kernel_rfl)) (fun _ _ _ h => h) (Or.inl ⟨by rfl, ?_⟩) ?_ ?_
  rotate_left
  · intro w'
    go_simp
    with_reducible rfl
  rotate_left
  · simp only [Act.put, List.setIfInBounds_toArray, List.set_cons_zero, List.set_cons_succ, i64_w, i32_w]
    rfl
  refine pure_ (i := 6) (N := some 34) (v := ?_) (a' := ?_) #[true, true, true, true, true, true, true, false, false, false, false, false, false, false] rfl rfl (any_of HT_.out (by kernel_rfl)) (fun _ _ _ h => h) (Or.inl ⟨by rfl, ?_⟩) ?_ ?_
  rotate_left
  · intro w'
    go_simp
    with_reducible rfl
  rotate_left
  · simp only [Act.put, List.setIfInBounds_toArray, List.set_cons_zero, List.set_cons_succ, i64_w, i32_w]
    rfl
  refine take_ (i := 7) (N := some 35) (v := ?_) (a' := ?_) #[true, true, true, true, true, true, true, true, false, false, false, false, false, false] rfl rfl (take_ofW HT_.out HW_.out (by kernel_rfl)) (fun _ _ _ h => h) (Or.inl ⟨by rfl, ?_⟩) hHeld ?_ ?_
  rotate_left
  · rintro w' ⟨s0, s1, s2, s3⟩
    go_simp
    with_reducible rfl
  rotate_left
  · simp only [Act.put, List.setIfInBounds_toArray, List.set_cons_zero, List.set_cons_succ, i64_w, i32_w]
    rfl
  refine pure_ (i := 8) (N := some 36) (v := ?_) (a' := ?_) #[true, true, true, true, true, true, true, true, true, false, false, false, false, false] rfl rfl (any_of HT_.out (by kernel_rfl)) (fun _ _ _ h => h) (Or.inl ⟨by rfl, ?_⟩) ?_ ?_
  rotate_left
  · intro w'
    go_simp
    with_reducible rfl
  rotate_left
  · simp only [Act.put, List.setIfInBounds_toArray, List.set_cons_zero, List.set_cons_succ, i64_w, i32_w]
    rfl
  refine pure_ (i := 9) (N := some 37) (v := ?_) (a' := ?_) #[true, true, true, true, true, true, true, true, true, true, false, false, false, false] rfl rfl (any_of HT_.out (by kernel_rfl)) (fun _ _ _ h => h) (Or.inl ⟨by rfl, ?_⟩) ?_ ?_
  rotate_left
  · intro w'
    go_simp
    with_reducible rfl
  rotate_left
  · simp only [Act.put, List.setIfInBounds_toArray, List.set_cons_zero, List.set_cons_succ, i64_w, i32_w]
    rfl
  have HS5 := hHeld
  have HS5 := Aside0.mk HS5
  refine one_ (i := 10) (N := none) #[true, true, true, true, true, true, true, true, true, true, true, false, false, false] rfl rfl (one_of HT_.out (by kernel_rfl)) (by decide) (fun K hK => ?_)
  obtain ⟨⟨⟨u0, hs0⟩, ⟨y1, y2, y3, hs1⟩, hf0, hf1⟩, ⟨u2, hs2⟩, ⟨z1, z2, z3, hs3⟩, hf2, hf3⟩ := HRR5.out
  refine skip_ (w1 := (w5.setCell ⟨r, 0, none⟩ (.bool b0)).setCell ⟨r, 1, none⟩ (.slice A0 l0.length c0)) (by rfl) rfl ?_ ?_
  · go_simp
  have hk6 : ∀ ad : Addr, ad ≠ ⟨r, 0, none⟩ → ad ≠ ⟨r, 1, none⟩ → ((w5.setCell ⟨r, 0, none⟩ (.bool b0)).setCell ⟨r, 1, none⟩ (.slice A0 l0.length c0)).cell? ad = w5.cell? ad := fun ad h0 h1 => by rw [World.cell?_setCell_other _ _ _ _ h1.symm, World.cell?_setCell_other _ _ _ _ h0.symm]
  refine hK.out _ _ ⟨(hk6 _ (HNR.out _ _) (HNR.out _ _)).trans HS5.out.1, (hk6 _ (HNR.out _ _) (HNR.out _ _)).trans HS5.out.2.1, (hk6 _ (HDR.out _ _) (HDR.out _ _)).trans HS5.out.2.2.1, (hk6 _ (HDR.out _ _) (HDR.out _ _)).trans HS5.out.2.2.2⟩ (fun hHeld => ?_)
  clear hK K
  have hs2' := (hk6 ⟨r, 2, none⟩ (by simp) (by simp)).trans hs2
  have hs3' := (hk6 ⟨r, 3, none⟩ (by simp) (by simp)).trans hs3
  have hf2' : ((w5.setCell ⟨r, 0, none⟩ (.bool b0)).setCell ⟨r, 1, none⟩ (.slice A0 l0.length c0)).frozen? ⟨r, 2, none⟩ = false := by rw [World.frozen?_setCell, World.frozen?_setCell]; exact hf2
  have hf3' : ((w5.setCell ⟨r, 0, none⟩ (.bool b0)).setCell ⟨r, 1, none⟩ (.slice A0 l0.length c0)).frozen? ⟨r, 3, none⟩ = false := by rw [World.frozen?_setCell, World.frozen?_setCell]; exact hf3
  clear hs0 hs1 hs2 hs3 hf0 hf1 hf2 hf3 hk6
  generalize hw6 : (w5.setCell ⟨r, 0, none⟩ (.bool b0)).setCell ⟨r, 1, none⟩ (.slice A0 l0.length c0) = w6 at hHeld hs2' hs3' hf2' hf3' ⊢
  have HW6 := Aside0.mk hw6
  clear hw6
  have HS6 := Aside0.mk hHeld
  refine pure_ (i := 11) (N := some 38) (v := ?_) (a' := ?_) #[true, true, true, true, true, true, true, true, true, true, true, true, false, false] rfl rfl (any_of HT_.out (by kernel_rfl)) (fun _ _ _ h => h) (Or.inl ⟨by rfl, ?_⟩) ?_ ?_
  rotate_left
  · intro w'
    go_simp
    with_reducible rfl
  rotate_left
  · simp only [Act.put, List.setIfInBounds_toArray, List.set_cons_zero, List.set_cons_succ, i64_w, i32_w]
    rfl
  refine pure_ (i := 12) (N := some 39) (v := ?_) (a' := ?_) #[true, true, true, true, true, true, true, true, true, true, true, true, true, false] rfl rfl (any_of HT_.out (by kernel_rfl)) (fun _ _ _ h => h) (Or.inl ⟨by rfl, ?_⟩) ?_ ?_
  rotate_left
  · intro w'
    go_simp
    with_reducible rfl
  rotate_left
  · simp only [Act.put, List.setIfInBounds_toArray, List.set_cons_zero, List.set_cons_succ, i64_w, i32_w]
    rfl
  refine one_ (i := 13) (N := none) #[true, true, true, true, true, true, true, true, true, true, true, true, true, true] rfl rfl (one_of HT_.out (by kernel_rfl)) (by decide) (fun K hK => ?_)
  refine skip_ (w1 := (w6.setCell ⟨r, 2, none⟩ (.bool b1)).setCell ⟨r, 3, none⟩ (.slice A1 l1.length c1)) (by rfl) rfl ?_ ?_
  · go_simp
  have hk7 : ∀ ad : Addr, ad ≠ ⟨r, 2, none⟩ → ad ≠ ⟨r, 3, none⟩ → ((w6.setCell ⟨r, 2, none⟩ (.bool b1)).setCell ⟨r, 3, none⟩ (.slice A1 l1.length c1)).cell? ad = w6.cell? ad := fun ad h0 h1 => by rw [World.cell?_setCell_other _ _ _ _ h1.symm, World.cell?_setCell_other _ _ _ _ h0.symm]
  refine hK.out _ _ ⟨(hk7 _ (HNR.out _ _) (HNR.out _ _)).trans HS6.out.1, (hk7 _ (HNR.out _ _) (HNR.out _ _)).trans HS6.out.2.1, (hk7 _ (HDR.out _ _) (HDR.out _ _)).trans HS6.out.2.2.1, (hk7 _ (HDR.out _ _) (HDR.out _ _)).trans HS6.out.2.2.2⟩ (fun hHeld => ?_)
  clear hK K hk7
  generalize hw7 : (w6.setCell ⟨r, 2, none⟩ (.bool b1)).setCell ⟨r, 3, none⟩ (.slice A1 l1.length c1) = w7 at hHeld ⊢
  have HW7 : Aside0 (four w5 r (.bool b0) (.slice A0 l0.length c0) (.bool b1) (.slice A1 l1.length c1) = w7) := ⟨by rw [← hw7, ← HW6.out]⟩
  clear hw7 hHeld hs2' hs3' hf2' hf3'
  refine done_ (done_of HT_.out (by kernel_rfl)) ?_
  go_wp2
  go_ret
  have hW := HW7.out
  rw [HB0.out, HBQ.out] at hW
  obtain ⟨_, _, m0, m1, m2⟩ := HM0.out
  obtain ⟨_, _, q0, q1, q2⟩ := HM1.out
  injection m0 with e1 e2 e3
  injection q0 with e4 e5 e6
  subst e1; subst e3; subst e4; subst e6
  obtain ⟨k1, k2, k3⟩ := four_nm HRR5.out m1 m2 NR.out q1 q2 DR.out _ hW
  rw [HPE.out, HQE.out]
  exact ⟨rfl, k1, k2, (HB5.out.mono (Nat.le_of_lt HRR.out.lt)).trans k3⟩

set_option maxHeartbeats 8000000 in
set_option maxRecDepth 100000 in
theorem newrat_calls (a b : Int) (w : World) (hx : -1000000000000000000 ≤ a ∧ a ≤ 1000000000000000000) (hy : 0 < b ∧ b ≤ 1000000000000000000) :
    Calls Try.prog 30 #[.int .i64 a, .int .i64 b] w fun e w' => ∃ r, e = .returned (.pointer (some ⟨r, 0, none⟩)) ∧ Nm w'.heap.size w' r 0 (a.tdiv (Int.gcd a b)) ∧ Nm w'.heap.size w' r 2 (b.tdiv (Int.gcd a b)) ∧ Below w.heap.size w w' := by
  have hu54 := Try.underlying54
  have hu56 := Try.underlying56
  have hu58 := Try.underlying58
  have HX := Aside0.mk hx
  have HY := Aside0.mk hy
  have HB0 : Aside0 (Below w.heap.size w (w.alloc (.cells #[.bool false, .slice none 0 0, .bool false, .slice none 0 0] 56))) := ⟨Below.alloc (Below.refl _ _) (Nat.le_refl _) _⟩
  have HRR := Aside0.mk (rr_alloc w)
  clear hx hy
  go_enter Try.func30, Try.ntmps30
  go_wp2_with (first
    | (go_at_call 39; go_loud (with_reducible refine (newint_calls a _ HX.out).mono ?_; rintro e w1 ⟨g1, rfl, h1, hb⟩; have HN1 := Aside0.mk h1; have HR1 := Aside0.mk (HRR.out.below HRR.out.lt hb); have HB1 := Aside0.mk (below_step HB0.out hb); clear h1 hb))
    | (go_at_call 39; go_loud (with_reducible refine (newint_calls b w1 (by have := HY.out; omega)).mono ?_; rintro e w2 ⟨g2, rfl, h1, hb⟩; have HN2 := Aside0.mk h1; have HN1' := Aside0.mk (HN1.out.below hb).now; have HR2 := Aside0.mk (HR1.out.below HR1.out.lt hb); have HB2 := Aside0.mk (below_step HB1.out hb); clear h1 hb))
    | (go_at_call 38; go_loud (with_reducible refine (setfrac_calls w.heap.size g1 g2 a b w2 HR2.out HN1'.out HN2.out HX.out HY.out).mono ?_; rintro e w3 ⟨rfl, h1, h2, hb⟩; have HP := Aside0.mk h1; have HQ := Aside0.mk h2; have HB3 := Aside0.mk hb; clear h1 h2 hb)))
  go_ret
  exact ⟨_, rfl, HP.out, HQ.out, HB2.out.trans HB3.out⟩

end Go.Proofs.Ytpcekncfdcofhaa.Q
