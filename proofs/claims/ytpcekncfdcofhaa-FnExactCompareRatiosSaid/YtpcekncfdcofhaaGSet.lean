/- Contracts by hand for the methods of impl.bigInt: Set and GCD. -/
import Derived.Test.YtpcekncfdcofhaaQ0
import Derived.Test.YtpcekncfdcofhaaGQuo
namespace Go.Proofs.Ytpcekncfdcofhaa.Q
open Go.RowKit Go.Proofs.YtpcekncfdcofhaaW.PrintWords Go.Proofs.YtpcekncfdcofhaaW.PrintLast Go.Proofs.YtpcekncfdcofhaaW.PrintMore
set_option linter.unusedVariables false
set_option linter.unusedSimpArgs false

def st_T : Bool × List (List Nat × List Nat) := (true, [([], []), ([], []), ([1], [1]), ([2], [2]), ([3], [3]), ([], []), ([], []), ([6], [6]), ([7], [7]), ([8], [8]), ([5, 9], [5, 9]), ([0, 4, 10, 10], [0, 4, 10]), ([11, 11, 0, 1, 2, 3, 4, 5, 6, 7, 8, 9, 10, 11], [11])])
def st_B : List Nat := [0, 0, 2, 6, 14, 0, 0, 64, 192, 448, 992, 2047, 4095]
theorem st_tab : rtab .any (opsOf Try.f62 1) = st_T := by kernel_rfl
theorem st_bits : waitsOk st_T.2 st_B = true := by kernel_rfl

set_option maxHeartbeats 8000000 in
set_option maxRecDepth 100000 in
theorem set_calls (B g h o : Nat) (z : Int) (w : World) (hR : Rc w g) (hne : h ≠ g) (hN : Nm B w h o z) (hz : -1000000000000000000 ≤ z ∧ z ≤ 1000000000000000000) :
    Calls Try.prog 62 #[.pointer (some ⟨g, 0, none⟩), .pointer (some ⟨h, o, none⟩)] w fun e w' => e = .returned (.pointer (some ⟨g, 0, none⟩)) ∧ Nm w'.heap.size w' g 0 z ∧ Below g w w' := by
  have hu54 := Try.underlying54
  have hu58 := Try.underlying58
  have hu52 := Try.underlying52
  obtain ⟨hlo, A0, c0, a, h1, h2, h3, h4, h5, h6⟩ := hN
  have la := h5.fits 2 (show (z.natAbs : Int) < 4294967296 ^ 2 by show _ < (18446744073709551616 : Int); omega)
  have HW := Aside0.mk (World.block_lt_of_cell? w _ h1)
  have HG : Aside0 (∀ i j : Nat, (⟨h, i, none⟩ : Addr) ≠ ⟨g, j, none⟩) := ⟨fun i j e => hne (by injection e)⟩
  clear hne
  obtain ⟨bz, hbz⟩ : ∃ bz, bz = decide (z < 0) := ⟨_, rfl⟩
  rw [← hbz] at h1
  have HBZ := Aside0.mk hbz
  have H1 := Aside0.mk h1
  have H2 := Aside0.mk h2
  have HR := Aside0.mk hR
  have HL := Aside0.mk la
  have HC0 := Aside0.mk h4
  have HREP := Aside0.mk h5
  clear hR la h1 h2 h4 h5 h6 hz hlo hbz
  go_enter Try.func62, Try.ntmps62
  go_wp2
  refine start_ (n := 13) (S := fun w' => w'.cell? ⟨h, o, none⟩ = some (.bool bz) ∧ w'.cell? ⟨h, o + 1, none⟩ = some (.slice A0 a.length c0)) (ds := []) #[false, false, false, false, false, false, false, false, false, false, false, false, false] (by kernel_rfl) rfl rfl ⟨H1.out, H2.out⟩ (fun hHeld => ?_)
  refine with_tabW st_tab st_bits (fun HT_ HW_ => ?_)
  generalize hw1 : w.drew = w1 at hHeld ⊢
  have HB1 : Aside0 (Below w.heap.size w w1) := ⟨by rw [← hw1]; exact below_drew (Below.refl _ _)⟩
  clear hw1
  refine pure_ (i := 0) (N := some 5) (v := ?_) (a' := ?_) #[true, false, false, false, false, false, false, false, false, false, false, false, false] rfl rfl (any_of HT_.out (by kernel_rfl)) (fun _ _ _ h => h) (Or.inl ⟨by rfl, ?_⟩) ?_ ?_
  rotate_left
  · intro w'
    go_simp
    with_reducible rfl
  rotate_left
  · simp only [Act.put, List.setIfInBounds_toArray, List.set_cons_zero, List.set_cons_succ, i64_w, i32_w]
    rfl
  refine pure_ (i := 1) (N := some 6) (v := ?_) (a' := ?_) #[true, true, false, false, false, false, false, false, false, false, false, false, false] rfl rfl (any_of HT_.out (by kernel_rfl)) (fun _ _ _ h => h) (Or.inl ⟨by rfl, ?_⟩) ?_ ?_
  rotate_left
  · intro w'
    go_simp
    with_reducible rfl
  rotate_left
  · simp only [Act.put, List.setIfInBounds_toArray, List.set_cons_zero, List.set_cons_succ, i64_w, i32_w]
    rfl
  refine pure_ (i := 2) (N := some 7) (v := ?_) (a' := ?_) #[true, true, true, false, false, false, false, false, false, false, false, false, false] rfl rfl (any_of HT_.out (by kernel_rfl)) (fun _ _ _ h => h) (Or.inl ⟨by rfl, ?_⟩) ?_ ?_
  rotate_left
  · intro w'
    go_simp
    with_reducible rfl
  rotate_left
  · simp only [Act.put, List.setIfInBounds_toArray, List.set_cons_zero, List.set_cons_succ, i64_w, i32_w]
    rfl
  refine pure_ (i := 3) (N := some 8) (v := ?_) (a' := ?_) #[true, true, true, true, false, false, false, false, false, false, false, false, false] rfl rfl (any_of HT_.out (by kernel_rfl)) (fun _ _ _ h => h) (Or.inl ⟨by rfl, ?_⟩) ?_ ?_
  rotate_left
  · intro w'
    go_simp
    with_reducible rfl
  rotate_left
  · simp only [Act.put, List.setIfInBounds_toArray, List.set_cons_zero, List.set_cons_succ, i64_w, i32_w]
    rfl
  refine take_ (i := 4) (N := some 9) (v := ?_) (a' := ?_) #[true, true, true, true, true, false, false, false, false, false, false, false, false] rfl rfl (take_ofW HT_.out HW_.out (by kernel_rfl)) (fun _ _ _ h => h) (Or.inl ⟨by rfl, ?_⟩) hHeld ?_ ?_
  rotate_left
  · rintro w' ⟨s0, s1⟩
    go_simp
    with_reducible rfl
  rotate_left
  · simp only [Act.put, List.setIfInBounds_toArray, List.set_cons_zero, List.set_cons_succ, i64_w, i32_w]
    rfl
  refine pure_ (i := 6) (N := some 11) (v := ?_) (a' := ?_) #[true, true, true, true, true, false, true, false, false, false, false, false, false] rfl rfl (any_of HT_.out (by kernel_rfl)) (fun _ _ _ h => h) (Or.inl ⟨by rfl, ?_⟩) ?_ ?_
  rotate_left
  · intro w'
    go_simp
    with_reducible rfl
  rotate_left
  · simp only [Act.put, List.setIfInBounds_toArray, List.set_cons_zero, List.set_cons_succ, i64_w, i32_w]
    rfl
  refine pure_ (i := 7) (N := some 12) (v := ?_) (a' := ?_) #[true, true, true, true, true, false, true, true, false, false, false, false, false] rfl rfl (any_of HT_.out (by kernel_rfl)) (fun _ _ _ h => h) (Or.inl ⟨by rfl, ?_⟩) ?_ ?_
  rotate_left
  · intro w'
    go_simp
    with_reducible rfl
  rotate_left
  · simp only [Act.put, List.setIfInBounds_toArray, List.set_cons_zero, List.set_cons_succ, i64_w, i32_w]
    rfl
  refine pure_ (i := 8) (N := some 13) (v := ?_) (a' := ?_) #[true, true, true, true, true, false, true, true, true, false, false, false, false] rfl rfl (any_of HT_.out (by kernel_rfl)) (fun _ _ _ h => h) (Or.inl ⟨by rfl, ?_⟩) ?_ ?_
  rotate_left
  · intro w'
    go_simp
    with_reducible rfl
  rotate_left
  · simp only [Act.put, List.setIfInBounds_toArray, List.set_cons_zero, List.set_cons_succ, i64_w, i32_w]
    rfl
  refine take_ (i := 9) (N := some 14) (v := ?_) (a' := ?_) #[true, true, true, true, true, false, true, true, true, true, false, false, false] rfl rfl (take_ofW HT_.out HW_.out (by kernel_rfl)) (fun _ _ _ h => h) (Or.inl ⟨by rfl, ?_⟩) hHeld ?_ ?_
  rotate_left
  · rintro w' ⟨s0, s1⟩
    go_simp
    with_reducible rfl
  rotate_left
  · simp only [Act.put, List.setIfInBounds_toArray, List.set_cons_zero, List.set_cons_succ, i64_w, i32_w]
    rfl
  refine one_ (i := 5) (N := some 10) #[true, true, true, true, true, true, true, true, true, true, false, false, false] rfl rfl (one_of HT_.out (by kernel_rfl)) (by decide) (fun K hK => ?_)
  refine Kd.R_lit_step (Kd.int .u32) (w0 := w1) w1.heap.size 74 (by rfl) (N := 10) rfl (xs := ([] : List Int)) (inner := []) (ok := fun _ => True) (okp := fun _ => False) ?hr (Reps.none _ _) (fun _ hk => hk.elim) ?hf (Below.refl _ _) ?hs (by simp) ?_
  case hr => first | (go_simp; done) | (go_simp; rfl)
  case hf => exact trivial
  case hs => exact Nat.le_refl _
  intro v10 w2 ho2 hb2 hg_ hnew_
  clear hg_ hnew_
  have HO2 := Aside0.mk ho2
  have HB2 := Aside0.mk hb2
  have HB2' := Aside0.mk (below_step HB1.out hb2)
  clear ho2 hb2
  refine hK.out _ _ ⟨(HB2'.out.cell HW.out).trans H1.out, (HB2'.out.cell HW.out).trans H2.out⟩ (fun hHeld => ?_)
  clear hK K
  refine norm_ (a' := ?_) ?_ ?_
  rotate_left
  · show Act.put _ (some 10) _ = _
    simp only [Act.put, List.setIfInBounds_toArray, List.set_cons_zero, List.set_cons_succ, i64_w, i32_w]
    rfl
  refine one_ (i := 10) (N := some 15) #[true, true, true, true, true, true, true, true, true, true, true, false, false] rfl rfl (one_of HT_.out (by kernel_rfl)) (by decide) (fun K hK => ?_)
  refine Kd.R_append_rows_step (Kd.int .u32) (Rr := (Kd.int .u32).K w) (w0 := w1) w1.heap.size (by rfl) (.tmp 10) (.tmp 14) 52 74 (.int .u32 0) 4 rfl hu52 info74 rfl (by decide) (by omega) v10 ([] : List Int) a A0 a.length c0 (fun _ => True) (fun _ => False) rfl rfl ?aO ?aR ?aM (fun _ hk => hk.elim) ?aF ?aB ?aS ?aL ?_
  case aO => exact HO2.out
  case aR => exact ReadsRow.imp_ HC0.out HB2'.out (fun _ _ hp => hp)
  case aM => exact fun x cs hx => K_self _ _ _ x cs hx
  case aF => exact fun _ _ => trivial
  case aB => exact HB2.out
  case aS => exact HB2.out.size
  case aL => have := HL.out; simp; omega
  intro v15 w3 ho3 hb3 hg3 hat3
  rw [List.nil_append] at ho3
  obtain ⟨A15, c15, e15⟩ := Kd.R_slice ho3
  subst e15
  have HO3 := Aside0.mk ho3
  have HB3 := Aside0.mk (below_step HB1.out hb3)
  clear ho3 hb3 hg3 hat3
  refine hK.out _ _ ⟨(HB3.out.cell HW.out).trans H1.out, (HB3.out.cell HW.out).trans H2.out⟩ (fun hHeld => ?_)
  clear hK K
  refine norm_ (a' := ?_) ?_ ?_
  rotate_left
  · show Act.put _ (some 15) _ = _
    simp only [Act.put, List.setIfInBounds_toArray, List.set_cons_zero, List.set_cons_succ, i64_w, i32_w]
    rfl
  refine one_ (i := 11) (N := some 16) #[true, true, true, true, true, true, true, true, true, true, true, true, false] rfl rfl (one_of HT_.out (by kernel_rfl)) (by decide) (fun K hK => ?_)
  refine goes_ Try.func60 (by kernel_rfl) rfl #[.pointer (some ⟨g, 0, none⟩), .bool bz, .slice A15 a.length c15] (by rfl) rfl rfl (by (try simp only [List.map_toArray, List.map_cons, List.map_nil]); first | done | rfl | (simp only [List.length_drop, List.length_take]; rfl)) ?_
  with_reducible refine (put_calls g bz A15 a.length c15 _ (HR.out.below HR.out.lt HB3.out)).mono ?_
  rintro e w4 ⟨rfl, hp⟩
  refine ⟨_, rfl, ?_⟩
  have HP := Aside0.mk hp
  clear hp
  refine hK.out _ _ ⟨(HP.out.fr _ (HG.out _ _) (HG.out _ _)).trans ((HB3.out.cell HW.out).trans H1.out), (HP.out.fr _ (HG.out _ _) (HG.out _ _)).trans ((HB3.out.cell HW.out).trans H2.out)⟩ (fun hHeld => ?_)
  clear hK K
  refine norm_ (a' := ?_) ?_ ?_
  rotate_left
  · show Act.put _ (some 16) _ = _
    simp only [Act.put, List.setIfInBounds_toArray, List.set_cons_zero, List.set_cons_succ, i64_w, i32_w]
    rfl
  refine pure_ (i := 12) (N := some 4) (v := ?_) (a' := ?_) #[true, true, true, true, true, true, true, true, true, true, true, true, true] rfl rfl (any_of HT_.out (by kernel_rfl)) (fun _ _ _ h => h) (Or.inl ⟨by rfl, ?_⟩) ?_ ?_
  rotate_left
  · intro w'
    go_simp
    with_reducible rfl
  rotate_left
  · simp only [Act.put, List.setIfInBounds_toArray, List.set_cons_zero, List.set_cons_succ, i64_w, i32_w]
    rfl
  refine done_ (done_of HT_.out (by kernel_rfl)) ?_
  go_wp2
  go_ret
  refine ⟨rfl, Nm.put (Mg.of_R HO3.out) (HR.out.below HR.out.lt HB3.out) HP.out HREP.out ?_, Below.trans (HB3.out.mono (Nat.le_of_lt HR.out.lt)) HP.out.bl⟩
  rw [HREP.out.pos, HBZ.out]
  by_cases hz : z < 0
  · rw [decide_eq_true hz, decide_eq_true (show (0 : Int) < (z.natAbs : Int) by omega)]; rfl
  · rw [decide_eq_false hz]; rfl

theorem drawn_below {w w' : World} (h : Drawn0 w w') : Below w.heap.size w w' := by
  obtain ⟨nd, rfl⟩ := h
  exact pw_below_drewN (Below.refl _ _) nd
theorem sign_zero (h o B : Nat) (w : World) (hN : Nm B w h o 0) : Calls Try.prog 56 #[.pointer (some ⟨h, o, none⟩)] w fun e w' => e = .returned (.int .i64 0) ∧ Below w.heap.size w w' := by
  refine (sign_calls h o B 0 w hN).mono ?_
  rintro e w' ⟨h1, h2⟩
  exact ⟨h1, drawn_below h2⟩
theorem sign_pos (h o B : Nat) (z : Int) (hz : 0 < z) (w : World) (hN : Nm B w h o z) : Calls Try.prog 56 #[.pointer (some ⟨h, o, none⟩)] w fun e w' => e = .returned (.int .i64 1) ∧ Below w.heap.size w w' := by
  have := sign_calls h o B z w hN
  rw [if_neg (by omega), if_pos hz] at this
  refine this.mono ?_
  rintro e w' ⟨h1, h2⟩
  exact ⟨h1, drawn_below h2⟩

theorem abs_new (h : Nat) (z : Int) (w : World) (hN : Nm w.heap.size w h 0 z) (hz : -1000000000000000000 ≤ z ∧ z ≤ 1000000000000000000) :
    Calls Try.prog 70 #[.pointer (some ⟨w.heap.size, 0, none⟩), .pointer (some ⟨h, 0, none⟩)] (w.alloc (.cells #[.bool false, .slice none 0 0] 54)) fun e w' => e = .returned (.pointer (some ⟨w.heap.size, 0, none⟩)) ∧ Nm w'.heap.size w' w.heap.size 0 (z.natAbs : Int) ∧ Below w.heap.size w w' := by
  have hb : Below w.heap.size w (w.alloc (.cells #[.bool false, .slice none 0 0] 54)) := Below.alloc (Below.refl _ _) (Nat.le_refl _) _
  refine (abs_calls w.heap.size h z _ (rc_alloc w) (hN.below hb) hz).mono ?_
  rintro e w' ⟨h1, h2, h3⟩
  exact ⟨h1, h2, hb.trans h3⟩
theorem rc_alloc2 (w : World) (o : Obj) : Rc ((w.alloc (.cells #[.bool false, .slice none 0 0] 54)).alloc o) w.heap.size :=
  (rc_alloc w).below (rc_alloc w).lt (below_alloc (Below.refl _ _) o)
theorem quorem_new (p q : Nat) (x y : Int) (w : World) (hNx : Nm w.heap.size w p 0 x) (hNy : Nm w.heap.size w q 0 y) (hx : -1000000000000000000 ≤ x ∧ x ≤ 1000000000000000000) (hy : -1000000000000000000 ≤ y ∧ y ≤ 1000000000000000000) (hy0 : y ≠ 0) :
    Calls Try.prog 71 #[.pointer (some ⟨w.heap.size + 1, 0, none⟩), .pointer (some ⟨p, 0, none⟩), .pointer (some ⟨q, 0, none⟩), .pointer (some ⟨w.heap.size, 0, none⟩)] ((w.alloc (.cells #[.bool false, .slice none 0 0] 54)).alloc (.cells #[.bool false, .slice none 0 0] 54)) fun e w' => e = .returned (.tuple #[.pointer (some ⟨w.heap.size + 1, 0, none⟩), .pointer (some ⟨w.heap.size, 0, none⟩)]) ∧ Nm w'.heap.size w' w.heap.size 0 (x.tmod y) ∧ Below w.heap.size w w' := by
  have hb : Below w.heap.size w (w.alloc (.cells #[.bool false, .slice none 0 0] 54)) := Below.alloc (Below.refl _ _) (Nat.le_refl _) _
  have hb2 := hb.alloc hb.size (.cells #[.bool false, .slice none 0 0] 54)
  have hr := rc_alloc (w.alloc (.cells #[.bool false, .slice none 0 0] 54))
  rw [World.size_alloc] at hr
  refine (quorem_calls w.heap.size (w.heap.size + 1) w.heap.size p q x y _ hr (rc_alloc2 w _) (by omega) (by omega) (Nat.le_refl _) (hNx.below hb2) (hNy.below hb2) hx hy hy0).mono ?_
  rintro e w' ⟨h1, _, h2, h3⟩
  exact ⟨h1, h2, hb2.trans h3⟩
theorem gcd_step {x y : Int} {G : Nat} (hx : 0 ≤ x ∧ x ≤ 1000000000000000000) (hy : 0 ≤ y ∧ y ≤ 1000000000000000000) (hy0 : y ≠ 0) (hG : G = Int.gcd x y) : (0 ≤ x.tmod y ∧ x.tmod y ≤ 1000000000000000000) ∧ x.tmod y < y ∧ G = Int.gcd y (x.tmod y) := by
  have e : x.tmod y = x % y := Int.tmod_eq_emod_of_nonneg hx.1
  have h1 := Int.emod_nonneg x hy0
  have h2 := Int.emod_lt_of_pos x (show 0 < y by omega)
  refine ⟨by omega, by omega, ?_⟩
  rw [hG, Int.gcd_eq_natAbs_gcd_natAbs, Int.gcd_eq_natAbs_gcd_natAbs, Int.natAbs_tmod, Nat.gcd_comm, Nat.gcd_rec, Nat.gcd_comm]

set_option maxHeartbeats 8000000 in
set_option maxRecDepth 100000 in
theorem gcd_calls (B g h k : Nat) (a b : Int) (w : World) (hg : Rc w g) (hBg : B ≤ g) (hNx : Nm B w h 0 a) (hNy : Nm B w k 0 b) (hx : -1000000000000000000 ≤ a ∧ a ≤ 1000000000000000000) (hy : -1000000000000000000 ≤ b ∧ b ≤ 1000000000000000000) :
    Calls Try.prog 55 #[.pointer (some ⟨g, 0, none⟩), .pointer (some ⟨h, 0, none⟩), .pointer (some ⟨k, 0, none⟩)] w fun e w' => e = .returned (.pointer (some ⟨g, 0, none⟩)) ∧ Nm w'.heap.size w' g 0 (Int.gcd a b : Int) ∧ Below B w w' := by
  have hu54 := Try.underlying54
  have hu58 := Try.underlying58
  have HLE : Aside0 (B ≤ w.heap.size) := ⟨Nat.le_trans hBg (Nat.le_of_lt hg.lt)⟩
  have HC1 := Aside0.mk (abs_new h a w (hNx.mono HLE.out) hx)
  have HG := Aside0.mk hg
  have HBG := Aside0.mk hBg
  have HNY := Aside0.mk hNy
  have HY := Aside0.mk hy
  obtain ⟨x0, hx0⟩ : ∃ x : Int, x = (a.natAbs : Int) := ⟨_, rfl⟩
  obtain ⟨y0, hy0⟩ : ∃ y : Int, y = (b.natAbs : Int) := ⟨_, rfl⟩
  obtain ⟨G, hG⟩ : ∃ G, G = Int.gcd a b := ⟨_, rfl⟩
  rw [← hG]
  rw [← hx0] at HC1
  have HGG : Aside0 (G = Int.gcd x0 y0) := ⟨by rw [hG, hx0, hy0, Int.gcd_eq_natAbs_gcd_natAbs, Int.gcd_eq_natAbs_gcd_natAbs, Int.natAbs_natCast, Int.natAbs_natCast]⟩
  have HX0 : Aside0 (0 ≤ x0 ∧ x0 ≤ 1000000000000000000) := ⟨by omega⟩
  have HY0 : Aside0 (0 ≤ y0 ∧ y0 ≤ 1000000000000000000) := ⟨by omega⟩
  have HYE := Aside0.mk hy0
  clear hg hBg hNx hNy hx hy hG hx0 hy0
  go_enter Try.func55, Try.ntmps55
  go_wp2_with (first
    | (go_at_call 70; go_loud (with_reducible refine HC1.out.mono ?_; rintro e w2 ⟨rfl, h1, h3⟩; have HN1 := Aside0.mk h1; have HB2 := Aside0.mk h3; have HC2 := Aside0.mk (abs_new k b w2 ((HNY.out.below (h3.mono HLE.out)).mono (Nat.le_trans HLE.out h3.size)) HY.out); clear h1 h3))
    | (go_at_call 70; go_loud (with_reducible refine HC2.out.mono ?_; rintro e w3 ⟨rfl, h1, h3⟩; rw [← HYE.out] at h1; have HN2 := Aside0.mk h1; have HN3 := Aside0.mk (HN1.out.below h3); have HB3 := Aside0.mk (below_step HB2.out h3); clear h1 h3)))
  go_loopg [7, 8] y0.toNat (fun gg v7 v8 W => ∃ (x y : Int) (p q : Nat), v7 = .pointer (some ⟨p, 0, none⟩) ∧ v8 = .pointer (some ⟨q, 0, none⟩) ∧ Aside0 ((0 ≤ x ∧ x ≤ 1000000000000000000) ∧ (0 ≤ y ∧ y ≤ 1000000000000000000) ∧ y.toNat ≤ gg ∧ G = Int.gcd x y) ∧ Aside0 (p ≠ g ∧ q ≠ g) ∧ Aside0 (Nm W.heap.size W p 0 x) ∧ Aside0 (Nm W.heap.size W q 0 y) ∧ Aside0 (Below w.heap.size w W))
  case atStart => exact ⟨x0, y0, w.heap.size, w2.heap.size, rfl, rfl, ⟨HX0.out, HY0.out, Nat.le_refl _, HGG.out⟩, ⟨by have := HG.out.lt; omega, by have := HG.out.lt; have := HB2.out.size; omega⟩, ⟨HN3.out.now⟩, HN2, HB3⟩
  case round =>
    obtain ⟨x, y, p, q, rfl, rfl, HZ, HE, HP, HQ, HB⟩ := hrel
    clear HC1 HC2 HN1 HN2 HN3 HB2 HB3
    by_cases hy : y = 0
    · subst hy
      have hz : G = x.natAbs := by rw [HZ.out.2.2.2]; exact Int.gcd_zero_right x
      have HS := Aside0.mk (sign_zero q 0 _ _ HQ.out)
      have HZ2 := Aside0.mk hz
      clear hz
      go_wp2_with (first
        | (go_at_call 56; go_loud (with_reducible refine HS.out.mono ?_; rintro e w5 ⟨rfl, hb⟩; have HR5 := Aside0.mk (HG.out.below HG.out.lt (below_step HB.out hb)); have HP5 := Aside0.mk (HP.out.below hb).now; have HB5 := Aside0.mk (below_step HB.out hb); clear hb))
        | (go_at_call 62; go_loud (with_reducible refine (set_calls _ g p 0 x w5 HR5.out HE.out.1 HP5.out (by have := HZ.out; omega)).mono ?_; rintro e w6 ⟨rfl, h1, h2⟩; have HN6 := Aside0.mk h1; have HB6 := Aside0.mk h2; clear h1 h2)))
      go_ret
      have e : (G : Int) = x := by rw [HZ2.out]; have := HZ.out.1; omega
      exact ⟨rfl, by rw [e]; exact HN6.out, (HB5.out.mono HLE.out).trans (HB6.out.mono HBG.out)⟩
    · have hpos : 0 < y := by have := HZ.out.2.1; omega
      have HS := Aside0.mk (sign_pos q 0 _ y hpos _ HQ.out)
      have HY1 := Aside0.mk hy
      clear hy hpos
      go_wp2_with (first
        | (go_at_call 56; go_loud (with_reducible refine HS.out.mono ?_; rintro e w5 ⟨rfl, hb⟩; have HP5 := Aside0.mk (HP.out.below hb).now; have HQ5 := Aside0.mk (HQ.out.below hb).now; have HB5 := Aside0.mk (below_step HB.out hb); clear hb))
        | (go_at_call 71; go_loud (with_reducible refine (quorem_new p q x y w5 HP5.out HQ5.out (by have := HZ.out; omega) (by have := HZ.out; omega) HY1.out).mono ?_; rintro e w6 ⟨rfl, h1, h2⟩; have HR6 := Aside0.mk h1; have HQ6 := Aside0.mk (HQ5.out.below h2).now; have HB6 := Aside0.mk (below_step HB5.out h2); clear h1 h2)))
      obtain ⟨s1, s2, s3⟩ := gcd_step HZ.out.1 HZ.out.2.1 HY1.out HZ.out.2.2.2
      have hyy := HZ.out.2.1
      have hgk := HZ.out.2.2.1
      go_roundg (x.tmod y).toNat
      case measure => omega
      case rel => exact ⟨y, x.tmod y, q, w5.heap.size, rfl, rfl, ⟨hyy, s1, Nat.le_refl _, s3⟩, ⟨HE.out.2, by have := HG.out.lt; have := HB5.out.size; omega⟩, HQ6, HR6, HB6⟩

end Go.Proofs.Ytpcekncfdcofhaa.Q
