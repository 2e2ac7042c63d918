/- Contracts by hand for the methods of impl.bigInt: numbers in memory, and put. -/
import Derived.Test.YtpcekncfdcofhaaQ0
import Derived.Test.YtpcekncfdcofhaaGDivC
namespace Go.Proofs.Ytpcekncfdcofhaa.Q
open Go.RowKit Go.Proofs.YtpcekncfdcofhaaW.PrintWords Go.Proofs.YtpcekncfdcofhaaW.PrintLast Go.Proofs.YtpcekncfdcofhaaW.PrintMore
set_option linter.unusedVariables false
set_option linter.unusedSimpArgs false

theorem C_move {W W' : World} {A : Option Addr} {n : Nat} {l : List Int} (h : Kd.C (Kd.int .u32) W A n l) (k : ∀ ad, A = some ad → ∀ ad' : Addr, ad'.block = ad.block → ∀ x, W.cell? ad' = some (.int .u32 x) → W'.cell? ad' = some (.int .u32 x)) : Kd.C (Kd.int .u32) W' A n l := by
  refine ⟨h.1, h.2.1, fun h0 => ?_⟩
  obtain ⟨ad, e, hc⟩ := h.2.2 h0
  refine ⟨ad, e, fun j p hj => ?_⟩
  obtain ⟨c, c1, c2, c3⟩ := hc j p hj
  refine ⟨c, c1, c2, fun i u hi => ?_⟩
  have c2' : c = [.int .u32 p] := c2
  have hu : u = .int .u32 p := by
    rw [c2'] at hi
    cases i with
    | zero => simpa using hi.symm
    | succ i => simp at hi
  have h1 := c3 i u hi
  rw [hu] at h1 ⊢
  exact k ad e (ad.add (j * (Kd.int .u32).sz + i)) (by unfold Addr.add; split <;> rfl) p h1
theorem C_lt {W : World} {ad : Addr} {l : List Int} (h : Kd.C (Kd.int .u32) W (some ad) l.length l) (hl : l ≠ []) : ad.block < W.heap.size := by
  have h0 : 0 < l.length := List.length_pos_iff.2 hl
  obtain ⟨ad', e, hx⟩ := Kd.at_int h 0 (Int.le_refl _) (by omega)
  have e' : ad = ad' := by simpa using e
  rw [← e'] at hx
  exact World.block_lt_of_cell? W _ hx

/-- A number in memory, its blocks below a bound. -/
structure Nm (B : Nat) (W : World) (g o : Nat) (z : Int) : Prop where
  lo : g < B
  ex : ∃ A c l, W.cell? ⟨g, o, none⟩ = some (.bool (decide (z < 0))) ∧ W.cell? ⟨g, o + 1, none⟩ = some (.slice A l.length c) ∧ l.length ≤ c ∧ Kd.C (Kd.int .u32) W A l.length l ∧ Rep l (z.natAbs : Int) ∧ (∀ ad, A = some ad → l ≠ [] → ad.block < B)
theorem Nm.mono {B B' : Nat} {W : World} {g o : Nat} {z : Int} (h : Nm B W g o z) (hb : B ≤ B') : Nm B' W g o z := by
  obtain ⟨A, c, l, h1, h2, h3, h4, h5, h6⟩ := h.ex
  exact ⟨Nat.lt_of_lt_of_le h.lo hb, A, c, l, h1, h2, h3, h4, h5, fun ad e hl => Nat.lt_of_lt_of_le (h6 ad e hl) hb⟩
theorem C_nil {W W' : World} {A : Option Addr} : Kd.C (Kd.int .u32) W' A 0 [] := ⟨rfl, by decide, fun h => absurd h (by decide)⟩
theorem Nm.below {B : Nat} {W W' : World} {g o : Nat} {z : Int} (h : Nm B W g o z) (hb : Below B W W') : Nm B W' g o z := by
  obtain ⟨A, c, l, h1, h2, h3, h4, h5, h6⟩ := h.ex
  refine ⟨h.lo, A, c, l, (hb.cell h.lo).trans h1, (hb.cell h.lo).trans h2, h3, ?_, h5, h6⟩
  by_cases hl : l = []
  · subst hl; exact C_nil (W := W)
  · exact C_move h4 (fun ad e ad' e' x hx => (hb.cell (by rw [e']; exact h6 ad e hl)).trans hx)
theorem Nm.now {B : Nat} {W : World} {g o : Nat} {z : Int} (h : Nm B W g o z) : Nm W.heap.size W g o z := by
  obtain ⟨A, c, l, h1, h2, h3, h4, h5, h6⟩ := h.ex
  refine ⟨World.block_lt_of_cell? W _ h1, A, c, l, h1, h2, h3, h4, h5, fun ad e hl => ?_⟩
  subst e
  exact C_lt h4 hl

theorem alloc_heap (w : World) (o : Obj) : (w.alloc o).heap[w.heap.size]? = some o := (MapKept.heap_alloc w o).1
/-- A number that is about to be written. -/
structure Rc (W : World) (g : Nat) : Prop where
  c0 : ∃ b, W.cell? ⟨g, 0, none⟩ = some (.bool b)
  c1 : ∃ A n c, W.cell? ⟨g, 1, none⟩ = some (.slice A n c)
  f0 : W.frozen? ⟨g, 0, none⟩ = false
  f1 : W.frozen? ⟨g, 1, none⟩ = false
theorem rc_alloc (w : World) : Rc (w.alloc (.cells #[.bool false, .slice none 0 0] 54)) w.heap.size := by
  have h := alloc_heap w (.cells #[.bool false, .slice none 0 0] 54)
  refine ⟨⟨false, ?_⟩, ⟨none, 0, 0, ?_⟩, ?_, ?_⟩
  · unfold World.cell?; simp only [h]; rfl
  · unfold World.cell?; simp only [h]; rfl
  · rw [frozen?_alloc_cells]; simp [World.frozen?]
  · rw [frozen?_alloc_cells]; simp [World.frozen?]
theorem Rc.lt {W : World} {g : Nat} (h : Rc W g) : g < W.heap.size := by
  obtain ⟨b, hb⟩ := h.c0
  exact World.block_lt_of_cell? W _ hb
theorem Rc.below {B : Nat} {W W' : World} {g : Nat} (h : Rc W g) (hg : g < B) (hb : Below B W W') : Rc W' g := by
  obtain ⟨b, h0⟩ := h.c0
  obtain ⟨A, n, c, h1⟩ := h.c1
  exact ⟨⟨b, (hb.cell hg).trans h0⟩, ⟨A, n, c, (hb.cell hg).trans h1⟩, (hb.frozen hg).trans h.f0, (hb.frozen hg).trans h.f1⟩
structure Put (w : World) (g : Nat) (b : Bool) (v : Value) (w' : World) : Prop where
  c0 : w'.cell? ⟨g, 0, none⟩ = some (.bool b)
  c1 : w'.cell? ⟨g, 1, none⟩ = some v
  fr : ∀ ad : Addr, ad ≠ ⟨g, 0, none⟩ → ad ≠ ⟨g, 1, none⟩ → w'.cell? ad = w.cell? ad
  fz : ∀ ad : Addr, w'.frozen? ad = w.frozen? ad
  sz : w'.heap.size = w.heap.size
  bl : Below g w w'
theorem Rc.put {w w' : World} {g r : Nat} {b : Bool} {v : Value} (h : Rc w r) (hp : Put w g b v w') (hr : r ≠ g) : Rc w' r := by
  obtain ⟨b', h0⟩ := h.c0
  obtain ⟨A, n, c, h1⟩ := h.c1
  refine ⟨⟨b', (hp.fr _ ?_ ?_).trans h0⟩, ⟨A, n, c, (hp.fr _ ?_ ?_).trans h1⟩, (hp.fz _).trans h.f0, (hp.fz _).trans h.f1⟩ <;> (intro e; injection e with e1 _; exact hr e1)
theorem C_put {w w' : World} {g : Nat} {b : Bool} {v : Value} {A : Option Addr} {n : Nat} {l : List Int} (h : Kd.C (Kd.int .u32) w A n l) (hr : Rc w g) (hp : Put w g b v w') : Kd.C (Kd.int .u32) w' A n l := by
  obtain ⟨b', h0⟩ := hr.c0
  obtain ⟨A', n', c', h1⟩ := hr.c1
  refine C_move h (fun ad e ad' e' x hx => (hp.fr ad' ?_ ?_).trans hx)
  · intro e; rw [e, h0] at hx; cases hx
  · intro e; rw [e, h1] at hx; cases hx
theorem Mg.put {w w' : World} {g : Nat} {b : Bool} {v v' : Value} {l : List Int} (h : Mg w v l) (hr : Rc w g) (hp : Put w g b v' w') : Mg w' v l := by
  obtain ⟨A, c, e, hc, h⟩ := h
  exact ⟨A, c, e, hc, C_put h hr hp⟩
theorem Nm.put {w w' : World} {g : Nat} {b : Bool} {v : Value} {l : List Int} {z : Int} (h : Mg w v l) (hr : Rc w g) (hp : Put w g b v w') (hz : Rep l (z.natAbs : Int)) (hb : b = decide (z < 0)) : Nm w'.heap.size w' g 0 z := by
  obtain ⟨A, c, rfl, hc, hC⟩ := h
  subst hb
  have hC' := C_put hC hr hp
  refine ⟨World.block_lt_of_cell? w' _ hp.c0, A, c, l, hp.c0, hp.c1, hc, hC', hz, fun ad e hl => ?_⟩
  subst e
  exact C_lt hC' hl
theorem Nm.put2 {w w' : World} {g r : Nat} {b : Bool} {v : Value} {z : Int} {B : Nat} (h : Nm B w g 0 z) (hr : Rc w r) (hp : Put w r b v w') (hne : g ≠ r) : Nm B w' g 0 z := by
  obtain ⟨A, c, l, h1, h2, h3, h4, h5, h6⟩ := h.ex
  refine ⟨h.lo, A, c, l, (hp.fr _ ?_ ?_).trans h1, (hp.fr _ ?_ ?_).trans h2, h3, C_put h4 hr hp, h5, h6⟩ <;> (intro e; injection e with e1 _; exact hne e1)

theorem below_two {w : World} {g : Nat} {u v : Value} : Below g w ((w.setCell ⟨g, 0, none⟩ u).setCell ⟨g, 1, none⟩ v) := by
  exact Below.setCell (p := ⟨g, 1, none⟩) (Below.setCell (p := ⟨g, 0, none⟩) (Below.refl g w) (Nat.le_refl g) u) (Nat.le_refl g) v
theorem put_two {w : World} {g : Nat} {b : Bool} {v : Value} (h : Rc w g) : Put w g b v ((w.setCell ⟨g, 0, none⟩ (.bool b)).setCell ⟨g, 1, none⟩ v) := by
  obtain ⟨b', h0⟩ := h.c0
  obtain ⟨A', n', c', h1⟩ := h.c1
  refine ⟨?_, ?_, ?_, ?_, ?_, below_two⟩
  · rw [World.cell?_setCell_other _ _ _ _ (by simp)]
    exact World.cell?_setCell_same _ _ _ h0
  · exact World.cell?_setCell_same _ _ _ ((World.cell?_setCell_other _ _ _ _ (by simp)).trans h1)
  · intro ad e0 e1
    rw [World.cell?_setCell_other _ _ _ _ (Ne.symm e1), World.cell?_setCell_other _ _ _ _ (Ne.symm e0)]
  · intro ad
    rw [World.frozen?_setCell, World.frozen?_setCell]
  · simp [World.setCell]

set_option maxHeartbeats 8000000 in
set_option maxRecDepth 100000 in
theorem put_calls (g : Nat) (neg : Bool) (A : Option Addr) (l c : Nat) (w : World) (hR : Rc w g) :
    Calls Try.prog 60 #[.pointer (some ⟨g, 0, none⟩), .bool neg, .slice A l c] w fun e w' => e = .returned (.pointer (some ⟨g, 0, none⟩)) ∧ Put w g (neg && decide (0 < l)) (.slice A l c) w' := by
  have hu54 := Try.underlying54
  have hu58 := Try.underlying58
  have HP := Aside0.mk (fun b v => put_two (b := b) (v := v) hR)
  obtain ⟨⟨u, h0⟩, ⟨A', n', c', h1⟩, hf0, hf1⟩ := hR
  go_enter Try.func60, Try.ntmps60
  go_wp2
  all_goals go_ret
  · rename_i hneg
    have e : (neg && decide (0 < l)) = decide (0 < l) := by rw [hneg]; rfl
    exact ⟨rfl, by rw [e]; exact HP.out _ _⟩
  · rename_i hneg
    have e : (neg && decide (0 < l)) = false := by rw [show neg = false by simpa using hneg]; rfl
    exact ⟨rfl, by rw [e]; exact HP.out _ _⟩

theorem set_nums {n m : Int} (hm : m = (n.natAbs : Int)) (hn : -1000000000000000000 ≤ n ∧ n ≤ 1000000000000000000) : (n < 0 → IntKind.u64.wrap (-IntKind.u64.wrap n) = m) ∧ (¬ n < 0 → IntKind.u64.wrap n = m) ∧ (0 ≤ m % 4294967296 ∧ m % 4294967296 ≤ 4294967295) ∧ (0 ≤ m / 4294967296 % 4294967296 ∧ m / 4294967296 % 4294967296 ≤ 4294967295) ∧ m % 4294967296 + 4294967296 * (m / 4294967296 % 4294967296) = m := by
  simp only [IntKind.wrap_u64]
  refine ⟨fun h => ?_, fun h => ?_, by omega, by omega, by omega⟩ <;> omega
theorem set_rep {n m : Int} (hm : m = (n.natAbs : Int)) (hn : -1000000000000000000 ≤ n ∧ n ≤ 1000000000000000000) : Rep (trim [m % 4294967296, m / 4294967296 % 4294967296]) (n.natAbs : Int) := by
  obtain ⟨_, _, h1, h2, h3⟩ := set_nums hm hn
  have := trim_rep (l := [m % 4294967296, m / 4294967296 % 4294967296]) (D32.cons.2 ⟨h1, D32.cons.2 ⟨h2, fun d hd => by cases hd⟩⟩)
  have e : vl [m % 4294967296, m / 4294967296 % 4294967296] = (n.natAbs : Int) := by simp only [vl]; omega
  rw [e] at this
  exact this
theorem Rep.pos {l : List Int} {n : Int} (h : Rep l n) : decide (0 < l.length) = decide (0 < n) := by
  rcases h.len with ⟨h1, h2⟩ | ⟨h1, h2, h3⟩
  · simp [h1, h2]
  · have := Int.pow_pos (n := (4294967296 : Int)) (m := l.length - 1) (by decide)
    rw [decide_eq_true (show 0 < l.length by omega), decide_eq_true (show 0 < n by omega)]

set_option maxHeartbeats 8000000 in
set_option maxRecDepth 100000 in
theorem setint_calls (g : Nat) (n : Int) (w : World) (hR : Rc w g) (hn : -1000000000000000000 ≤ n ∧ n ≤ 1000000000000000000) :
    Calls Try.prog 59 #[.pointer (some ⟨g, 0, none⟩), .int .i64 n] w fun e w' => e = .returned (.pointer (some ⟨g, 0, none⟩)) ∧ Nm w'.heap.size w' g 0 n ∧ Below g w w' := by
  have hu54 := Try.underlying54
  have hu58 := Try.underlying58
  have hu52 := Try.underlying52
  have hu74 := Try.underlying74
  have hu76 := Try.underlying76
  obtain ⟨m, hm⟩ : ∃ m, m = (n.natAbs : Int) := ⟨_, rfl⟩
  obtain ⟨x1, x2, x3, x4, x5⟩ := set_nums hm hn
  have HREP := Aside0.mk (set_rep hm hn)
  have HM := Aside0.mk hm
  have HR := Aside0.mk hR
  clear hR hn x3 x4 x5 hm
  by_cases hneg : n < 0
  · have hd : decide (n < 0) = true := decide_eq_true hneg
    have hx := x1 hneg
    clear x1 x2
    have HN := Aside0.mk hneg
    clear hneg
    go_enter Try.func59, Try.ntmps59
    go_wp2_with (first
      | ((with_reducible refine gate_dst (N := 20) rfl ?_); go_loud (refine Kd.R_lit (Kd.int .u32) (w0 := w) w.heap.size 74 ?hg (N := 20) ?hd (xs := [m % 4294967296, m / 4294967296 % 4294967296]) (inner := [.int .u32 (m % 4294967296), .int .u32 (m / 4294967296 % 4294967296)]) (ok := fun _ => True) (okp := fun _ => False) ?hr ?hp (fun _ hk => hk.elim) trivial (Below.refl _ _) (Nat.le_refl _) (by simp) ?_; (case hd => rfl); (case hg => rfl); (case hr => first | (go_simp; done) | (go_simp; rfl)); (case hp => exact Kd.reps_scalar [_, _]); intro v20 w3 ho3 hb3 hg_ hnew_; clear hg_ hnew_; obtain ⟨A20, c20, e20⟩ := Kd.R_slice ho3; subst e20; have HO3 := Aside0.mk ho3; have HB3 := Aside0.mk hb3; clear ho3 hb3))
      | (go_at_call 72; go_loud (refine (impl_trimmed.calls A20 c20 [m % 4294967296, m / 4294967296 % 4294967296] (trim [m % 4294967296, m / 4294967296 % 4294967296]) _ (Kd.R_reads' HO3.out).2.2 (Kd.R_reads' HO3.out).2.1 rfl).mono ?_; rintro e w4 ⟨v42, rfl, ho, hb⟩; have HO4 := Aside0.mk (R_trim (Kd.R_below HO3.out hb) ho); obtain ⟨rfl, _⟩ := ho; have HB4 := Aside0.mk (below_step HB3.out hb); clear hb))
      | (go_at_call 60; go_loud (with_reducible refine (put_calls g _ A20 _ c20 _ (HR.out.below HR.out.lt HB4.out)).mono ?_; rintro e w5 ⟨rfl, hp⟩; have HP := Aside0.mk hp; clear hp)))
    go_ret
    have hneg := HN.out
    have hz := HREP.out.pos
    refine ⟨rfl, Nm.put (Mg.of_R HO4.out) (HR.out.below HR.out.lt HB4.out) HP.out HREP.out ?_, Below.trans (HB4.out.mono (Nat.le_of_lt HR.out.lt)) HP.out.bl⟩
    first | (rw [hz, decide_eq_true hneg, decide_eq_true (by omega)]; done) | (rw [hz, decide_eq_true hneg, decide_eq_true (by omega)]; rfl)
  · have hd : decide (n < 0) = false := decide_eq_false hneg
    have hx := x2 hneg
    clear x1 x2
    have HN := Aside0.mk hneg
    clear hneg
    go_enter Try.func59, Try.ntmps59
    go_wp2_with (first
      | ((with_reducible refine gate_dst (N := 20) rfl ?_); go_loud (refine Kd.R_lit (Kd.int .u32) (w0 := w) w.heap.size 74 ?hg (N := 20) ?hd (xs := [m % 4294967296, m / 4294967296 % 4294967296]) (inner := [.int .u32 (m % 4294967296), .int .u32 (m / 4294967296 % 4294967296)]) (ok := fun _ => True) (okp := fun _ => False) ?hr ?hp (fun _ hk => hk.elim) trivial (Below.refl _ _) (Nat.le_refl _) (by simp) ?_; (case hd => rfl); (case hg => rfl); (case hr => first | (go_simp; done) | (go_simp; rfl)); (case hp => exact Kd.reps_scalar [_, _]); intro v20 w3 ho3 hb3 hg_ hnew_; clear hg_ hnew_; obtain ⟨A20, c20, e20⟩ := Kd.R_slice ho3; subst e20; have HO3 := Aside0.mk ho3; have HB3 := Aside0.mk hb3; clear ho3 hb3))
      | (go_at_call 72; go_loud (refine (impl_trimmed.calls A20 c20 [m % 4294967296, m / 4294967296 % 4294967296] (trim [m % 4294967296, m / 4294967296 % 4294967296]) _ (Kd.R_reads' HO3.out).2.2 (Kd.R_reads' HO3.out).2.1 rfl).mono ?_; rintro e w4 ⟨v42, rfl, ho, hb⟩; have HO4 := Aside0.mk (R_trim (Kd.R_below HO3.out hb) ho); obtain ⟨rfl, _⟩ := ho; have HB4 := Aside0.mk (below_step HB3.out hb); clear hb))
      | (go_at_call 60; go_loud (with_reducible refine (put_calls g _ A20 _ c20 _ (HR.out.below HR.out.lt HB4.out)).mono ?_; rintro e w5 ⟨rfl, hp⟩; have HP := Aside0.mk hp; clear hp)))
    go_ret
    have hneg := HN.out
    refine ⟨rfl, Nm.put (Mg.of_R HO4.out) (HR.out.below HR.out.lt HB4.out) HP.out HREP.out ?_, Below.trans (HB4.out.mono (Nat.le_of_lt HR.out.lt)) HP.out.bl⟩
    rw [decide_eq_false (show ¬ n < 0 by omega)]; first | rfl | simp

set_option maxHeartbeats 8000000 in
set_option maxRecDepth 100000 in
theorem newint_calls (n : Int) (w : World) (hn : -1000000000000000000 ≤ n ∧ n ≤ 1000000000000000000) :
    Calls Try.prog 39 #[.int .i64 n] w fun e w' => ∃ g, e = .returned (.pointer (some ⟨g, 0, none⟩)) ∧ Nm w'.heap.size w' g 0 n ∧ Below w.heap.size w w' := by
  have hu54 := Try.underlying54
  have hu58 := Try.underlying58
  have HN := Aside0.mk hn
  clear hn
  go_enter Try.func39, Try.ntmps39
  go_wp2_with (go_at_call 59; go_loud (with_reducible refine (setint_calls w.heap.size n _ (rc_alloc w) HN.out).mono ?_; rintro e w5 ⟨rfl, hp, hb⟩; have HP := Aside0.mk hp; have HB := Aside0.mk hb; clear hp hb))
  go_ret
  exact ⟨_, rfl, HP.out, Below.trans (Below.alloc (Below.refl _ _) (Nat.le_refl _) _) HB.out⟩

end Go.Proofs.Ytpcekncfdcofhaa.Q
