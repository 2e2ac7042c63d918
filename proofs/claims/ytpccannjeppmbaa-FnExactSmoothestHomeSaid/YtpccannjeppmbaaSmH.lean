/- A contract by hand for impl.SmoothestHome: the plain plan. -/
import Derived.Test.YtpccannjeppmbaaQ0
import Derived.Test.YtpccannjeppmbaaQ1
import Derived.Test.YtpccannjeppmbaaQ8
import Derived.Test.YtpccannjeppmbaaSmA
namespace Go.Proofs.Ytpccannjeppmbaa.Q
open Go.RowKit Go.Maps Go.Proofs.YtpccannjeppmbaaW.PrintWords Go.Proofs.YtpccannjeppmbaaW.PrintLast Go.Proofs.YtpccannjeppmbaaW.PrintMore
set_option linter.unusedVariables false
set_option linter.unusedSimpArgs false

theorem dvalid {a b o h t : Int} (hv : impl_ValidCourse.f a b o h t = some true) : (1 ≤ a ∧ a ≤ 3) ∧ (1 ≤ b ∧ b ≤ 6) ∧ insS a ⟨o, h, t⟩ = true := by
  unfold impl_ValidCourse.f impl_ValidLimits.f at hv
  simp only [dwithin, Option.bind_some] at hv
  by_cases ha : 1 ≤ a ∧ a ≤ 3
  · by_cases hb : 1 ≤ b ∧ b ≤ 6
    · rw [decide_eq_true ha, if_pos rfl, decide_eq_true hb, dcourse ha] at hv
      simp only [Option.bind_some, if_true, Option.some.injEq] at hv
      exact ⟨ha, hb, hv⟩
    · rw [decide_eq_true ha, if_pos rfl, decide_eq_false hb] at hv
      simp at hv
  · rw [decide_eq_false ha] at hv
    simp at hv
/-- What is handed back for a plan. -/
def outS (s : Pl) : List Int × Int × Bool := if s.2.2 = true then (s.2.1, s.1, true) else ([], 0, false)
def impl_SmoothestHome.f (a0_0 : Int) (a0_1 : Int) (a1_0 : Int) (a1_1 : Int) (a1_2 : Int) (a2 : Int) : Option (List Int × Int × Bool) :=
  (impl_ValidCourse.f a0_0 a0_1 a1_0 a1_1 a1_2).bind fun v => if v = true then (if 0 ≤ a2 ∧ a2 ≤ 8 then some (outS (smP a0_0 a0_1 a2.toNat ⟨a1_0, a1_1, a1_2⟩)) else some ([], 0, false)) else some ([], 0, false)
def impl_SmoothestHome.T6 : Bool × List (List Nat × List Nat) := (true, [([], []), ([], []), ([1], [1]), ([0, 2], [0, 2]), ([], []), ([4], [4]), ([3, 3, 0, 1, 2, 3], [3]), ([5, 6, 0, 1, 2, 3, 4, 5, 6], [5]), ([7, 0, 1, 2, 3, 4, 5, 6, 7], [])])
def impl_SmoothestHome.B6 : List Nat := [0, 0, 2, 7, 0, 16, 15, 127, 255]
theorem impl_SmoothestHome.tab6 : rtab .any (opsOf Try.f7 6) = impl_SmoothestHome.T6 := by kernel_rfl
theorem impl_SmoothestHome.bits6 : waitsOk impl_SmoothestHome.T6.2 impl_SmoothestHome.B6 = true := by kernel_rfl
theorem Memo.empty {a b : Int} {B gm : Nat} {w : World} (h : MapG Try.prog 31 valS w gm 0 (fun _ => none)) (hB : B ≤ gm) : Memo a b B gm 0 (fun _ => none) (fun _ _ => none) w :=
  ⟨h.cong (fun _ => rfl), hB, fun _ _ h => (nomatch h), fun _ _ h => (nomatch h), fun _ _ _ h => (nomatch h), fun _ _ _ _ h => (nomatch h)⟩

set_option maxHeartbeats 8000000 in
set_option maxRecDepth 100000 in
theorem impl_SmoothestHome.calls (a b c0 c1 c2 k : Int) (r1 : List Int) (r2 : Int) (r3 : Bool) (w : World) (h : impl_SmoothestHome.f a b c0 c1 c2 k = some (r1, r2, r3)) :
    Calls Try.prog 7 #[.agg #[.int .i64 a, .int .i64 b], .agg #[.int .i64 c0, .int .i64 c1, .int .i64 c2], .int .i64 k] w fun e w' => ∃ v0_ : Value, e = .returned (.tuple #[v0_, .int .i64 r2, .bool r3]) ∧ Kd.R (Kd.int .i64) 2 w' w.heap.size (fun _ => True) v0_ r1 ∧ Below w.heap.size w w' := by
  have hu29 := Try.underlying29
  have hu31 := Try.underlying31
  have hu44 := Try.underlying44
  have hu26 := Try.underlying26
  have hu46 := Try.underlying46
  unfold impl_SmoothestHome.f at h
  obtain ⟨v, hv, h⟩ := Option.bind_eq_some_iff.1 h
  have HV := Aside0.mk hv
  obtain ⟨F, hF⟩ : ∃ F : Ending → World → Prop, F = fun e w' => ∃ v0_ : Value, e = .returned (.tuple #[v0_, .int .i64 r2, .bool r3]) ∧ Kd.R (Kd.int .i64) 2 w' w.heap.size (fun _ => True) v0_ r1 ∧ Below w.heap.size w w' := ⟨_, rfl⟩
  have HF := Aside0.mk hF
  rw [← hF]
  clear hF
  cases v with
  | false =>
    rw [if_neg (by decide)] at h
    simp only [Option.some.injEq, Prod.mk.injEq] at h
    obtain ⟨rfl, rfl, rfl⟩ := h
    clear hv
    go_enter Try.func7, Try.ntmps7
    go_wp2_with (first
      | ((with_reducible refine gate_dst (N := 3) rfl ?_); go_loud (refine box_event ?hg (N := 3) ?hd (cs := #[.int .i64 a, .int .i64 b]) (t := 29) ?hr ?_; (case hd => rfl); (case hg => rfl); (case hr => first | (go_simp; done) | (go_simp; rfl)); intro gl hgl w1 hbox hbw; have HL1 := Aside0.mk hbox; have HB1 := Aside0.mk hbw; clear hgl hbox hbw))
      | ((with_reducible refine gate_dst (N := 4) rfl ?_); go_loud (refine box_event ?hg (N := 4) ?hd (cs := #[.int .i64 c0, .int .i64 c1, .int .i64 c2]) (t := 31) ?hr ?_; (case hd => rfl); (case hg => rfl); (case hr => first | (go_simp; done) | (go_simp; rfl)); intro gc hgc w2 hbox hbw; have HC2 := Aside0.mk hbox; have HL2 := Aside0.mk (blk_below HL1.out hbw); have HB2 := Aside0.mk (below_step HB1.out hbw); clear hgc hbox hbw; have hl0 : w2.cell? ⟨gl, 0, none⟩ = some (.int .i64 a) := (blk_cell HL2.out 0).trans rfl; have hl1 : w2.cell? ⟨gl, 1, none⟩ = some (.int .i64 b) := (blk_cell HL2.out 1).trans rfl; have hc0 : w2.cell? ⟨gc, 0, none⟩ = some (.int .i64 c0) := (blk_cell HC2.out 0).trans rfl; have hc1 : w2.cell? ⟨gc, 1, none⟩ = some (.int .i64 c1) := (blk_cell HC2.out 1).trans rfl; have hc2 : w2.cell? ⟨gc, 2, none⟩ = some (.int .i64 c2) := (blk_cell HC2.out 2).trans rfl))
      | (go_at_call 16; go_loud ((with_reducible refine (impl_ValidCourse.calls a b c0 c1 c2 false _ HV.out).mono ?_); rintro e w3 ⟨rfl, hb3⟩; have HL3 := Aside0.mk (blk_below HL2.out hb3); have HC3 := Aside0.mk (blk_below HC2.out hb3); have HB3 := Aside0.mk (below_step HB2.out hb3); clear hb3; have hl30 : w3.cell? ⟨gl, 0, none⟩ = some (.int .i64 a) := (blk_cell HL3.out 0).trans rfl; have hl31 : w3.cell? ⟨gl, 1, none⟩ = some (.int .i64 b) := (blk_cell HL3.out 1).trans rfl; have hc30 : w3.cell? ⟨gc, 0, none⟩ = some (.int .i64 c0) := (blk_cell HC3.out 0).trans rfl; have hc31 : w3.cell? ⟨gc, 1, none⟩ = some (.int .i64 c1) := (blk_cell HC3.out 1).trans rfl; have hc32 : w3.cell? ⟨gc, 2, none⟩ = some (.int .i64 c2) := (blk_cell HC3.out 2).trans rfl)))
    go_ret3
    rw [HF.out]
    exact ⟨_, rfl, Kd.R_nil _ _ _ _ _, by repeat (first | exact HB3.out | apply pw_below_drewN | apply below_drew1)⟩
  | true =>
    obtain ⟨ha, hb, hi⟩ := dvalid hv
    rw [if_pos rfl] at h
    by_cases hk : 0 ≤ k ∧ k ≤ 8
    · rw [if_pos hk] at h
      obtain ⟨s, hs⟩ : ∃ s, s = smP a b k.toNat ⟨c0, c1, c2⟩ := ⟨_, rfl⟩
      rw [← hs] at h
      have HK : Aside0 (impl_within.f k 0 8 = some true) := ⟨by rw [dwithin, decide_eq_true hk]⟩
      have hcnt : (0 : Nat) + cnt k.toNat ≤ 4000000 := by have := cnt_le k.toNat (by omega); omega
      have HALL : Aside0 (∀ gm W, MemoE a b w.heap.size gm 0 W → Below w.heap.size w W → Calls Try.prog 18 #[.agg #[.int .i64 a, .int .i64 b], .agg #[.int .i64 c0, .int .i64 c1, .int .i64 c2], .int .i64 k, .map (some gm)] W (SmPost w a b gm (0 + cnt k.toNat) s W)) := ⟨fun gm W hm hB => by
        have := smooth_all a b ha hb w gm k.toNat (by omega) ⟨c0, c1, c2⟩ hi 0 W hcnt hm hB
        rw [Int.toNat_of_nonneg hk.1] at this
        rw [hs]
        exact this⟩
      have HS8 : Aside0 (s.2.1.length ≤ 8) := ⟨by have := (smP_fair (b := b) ha k.toNat ⟨c0, c1, c2⟩ hi).2.2; rw [← hs] at this; omega⟩
      clear hcnt hs hv ha hb hi hk
      obtain ⟨s1, st, sk⟩ := s
      cases sk with
      | false =>
        simp only [outS, Bool.false_eq_true, if_false, Option.some.injEq, Prod.mk.injEq] at h
        obtain ⟨rfl, rfl, rfl⟩ := h
        go_enter Try.func7, Try.ntmps7
        go_wp2_with (first
          | ((with_reducible refine gate_dst (N := 3) rfl ?_); go_loud (refine box_event ?hg (N := 3) ?hd (cs := #[.int .i64 a, .int .i64 b]) (t := 29) ?hr ?_; (case hd => rfl); (case hg => rfl); (case hr => first | (go_simp; done) | (go_simp; rfl)); intro gl hgl w1 hbox hbw; have HL1 := Aside0.mk hbox; have HB1 := Aside0.mk hbw; clear hgl hbox hbw))
          | ((with_reducible refine gate_dst (N := 4) rfl ?_); go_loud (refine box_event ?hg (N := 4) ?hd (cs := #[.int .i64 c0, .int .i64 c1, .int .i64 c2]) (t := 31) ?hr ?_; (case hd => rfl); (case hg => rfl); (case hr => first | (go_simp; done) | (go_simp; rfl)); intro gc hgc w2 hbox hbw; have HC2 := Aside0.mk hbox; have HL2 := Aside0.mk (blk_below HL1.out hbw); have HB2 := Aside0.mk (below_step HB1.out hbw); clear hgc hbox hbw; have hl0 : w2.cell? ⟨gl, 0, none⟩ = some (.int .i64 a) := (blk_cell HL2.out 0).trans rfl; have hl1 : w2.cell? ⟨gl, 1, none⟩ = some (.int .i64 b) := (blk_cell HL2.out 1).trans rfl; have hc0 : w2.cell? ⟨gc, 0, none⟩ = some (.int .i64 c0) := (blk_cell HC2.out 0).trans rfl; have hc1 : w2.cell? ⟨gc, 1, none⟩ = some (.int .i64 c1) := (blk_cell HC2.out 1).trans rfl; have hc2 : w2.cell? ⟨gc, 2, none⟩ = some (.int .i64 c2) := (blk_cell HC2.out 2).trans rfl))
          | (go_at_call 16; go_loud ((with_reducible refine (impl_ValidCourse.calls a b c0 c1 c2 true _ HV.out).mono ?_); rintro e w3 ⟨rfl, hb3⟩; have HL3 := Aside0.mk (blk_below HL2.out hb3); have HC3 := Aside0.mk (blk_below HC2.out hb3); have HB3 := Aside0.mk (below_step HB2.out hb3); clear hb3; have hl30 : w3.cell? ⟨gl, 0, none⟩ = some (.int .i64 a) := (blk_cell HL3.out 0).trans rfl; have hl31 : w3.cell? ⟨gl, 1, none⟩ = some (.int .i64 b) := (blk_cell HL3.out 1).trans rfl; have hc30 : w3.cell? ⟨gc, 0, none⟩ = some (.int .i64 c0) := (blk_cell HC3.out 0).trans rfl; have hc31 : w3.cell? ⟨gc, 1, none⟩ = some (.int .i64 c1) := (blk_cell HC3.out 1).trans rfl; have hc32 : w3.cell? ⟨gc, 2, none⟩ = some (.int .i64 c2) := (blk_cell HC3.out 2).trans rfl))
          | (go_at_call 17; go_loud ((with_reducible refine (impl_within.calls k 0 8 true _ HK.out).mono ?_); rintro e w' ⟨rfl, ⟨nd, rfl⟩⟩))
          | ((with_reducible refine gate_dst (N := 22) rfl ?_); go_loud (refine wpList_map 31 valS rfl rfl ?_; intro gm hgm w4 hm hbw; have HM4 : Aside0 (MemoE a b w.heap.size gm 0 w4) := ⟨⟨_, _, Memo.empty hm (by rw [hgm]; exact (pw_below_drewN HB3.out nd).size)⟩⟩; have HB4 := Aside0.mk (below_step (pw_below_drewN HB3.out nd) hbw); clear hgm hm hbw))
          | (go_at_call 18; go_loud ((with_reducible refine (HALL.out gm w4 HM4.out HB4.out).mono ?_); rintro e w5 ⟨A, cp, rfl, hro, _, _, hb5⟩; have HR5 := Aside0.mk hro; have HB5 := Aside0.mk hb5; clear hro hb5))
          | ((with_reducible refine gate_dst (N := 25) rfl ?_); (with_reducible refine gen_alloc ?_); go_loud (intro w6 hbox hbw; have H96 := Aside0.mk hbox; have HR6 := Aside0.mk (Kd.R_below HR5.out hbw); have HB6 := Aside0.mk (below_step HB5.out hbw); clear hbox hbw; have h90 : w6.cell? ⟨w5.heap.size, 0, none⟩ = some (.int .i64 s1) := (blk_cell H96.out 0).trans rfl; have h91 : w6.cell? ⟨w5.heap.size, 1, none⟩ = some (.slice A st.length cp) := (blk_cell H96.out 1).trans rfl; have h92 : w6.cell? ⟨w5.heap.size, 2, none⟩ = some (.bool false) := (blk_cell H96.out 2).trans rfl)))
        go_ret3
        rw [HF.out]
        exact ⟨_, rfl, Kd.R_nil _ _ _ _ _, by repeat (first | exact HB6.out | apply pw_below_drewN | apply below_drew1)⟩
      | true =>
        simp only [outS, if_true, Option.some.injEq, Prod.mk.injEq] at h
        obtain ⟨rfl, rfl, rfl⟩ := h
        go_enter Try.func7, Try.ntmps7
        go_wp2_with (first
          | ((with_reducible refine gate_dst (N := 3) rfl ?_); go_loud (refine box_event ?hg (N := 3) ?hd (cs := #[.int .i64 a, .int .i64 b]) (t := 29) ?hr ?_; (case hd => rfl); (case hg => rfl); (case hr => first | (go_simp; done) | (go_simp; rfl)); intro gl hgl w1 hbox hbw; have HL1 := Aside0.mk hbox; have HB1 := Aside0.mk hbw; clear hgl hbox hbw))
          | ((with_reducible refine gate_dst (N := 4) rfl ?_); go_loud (refine box_event ?hg (N := 4) ?hd (cs := #[.int .i64 c0, .int .i64 c1, .int .i64 c2]) (t := 31) ?hr ?_; (case hd => rfl); (case hg => rfl); (case hr => first | (go_simp; done) | (go_simp; rfl)); intro gc hgc w2 hbox hbw; have HC2 := Aside0.mk hbox; have HL2 := Aside0.mk (blk_below HL1.out hbw); have HB2 := Aside0.mk (below_step HB1.out hbw); clear hgc hbox hbw; have hl0 : w2.cell? ⟨gl, 0, none⟩ = some (.int .i64 a) := (blk_cell HL2.out 0).trans rfl; have hl1 : w2.cell? ⟨gl, 1, none⟩ = some (.int .i64 b) := (blk_cell HL2.out 1).trans rfl; have hc0 : w2.cell? ⟨gc, 0, none⟩ = some (.int .i64 c0) := (blk_cell HC2.out 0).trans rfl; have hc1 : w2.cell? ⟨gc, 1, none⟩ = some (.int .i64 c1) := (blk_cell HC2.out 1).trans rfl; have hc2 : w2.cell? ⟨gc, 2, none⟩ = some (.int .i64 c2) := (blk_cell HC2.out 2).trans rfl))
          | (go_at_call 16; go_loud ((with_reducible refine (impl_ValidCourse.calls a b c0 c1 c2 true _ HV.out).mono ?_); rintro e w3 ⟨rfl, hb3⟩; have HL3 := Aside0.mk (blk_below HL2.out hb3); have HC3 := Aside0.mk (blk_below HC2.out hb3); have HB3 := Aside0.mk (below_step HB2.out hb3); clear hb3; have hl30 : w3.cell? ⟨gl, 0, none⟩ = some (.int .i64 a) := (blk_cell HL3.out 0).trans rfl; have hl31 : w3.cell? ⟨gl, 1, none⟩ = some (.int .i64 b) := (blk_cell HL3.out 1).trans rfl; have hc30 : w3.cell? ⟨gc, 0, none⟩ = some (.int .i64 c0) := (blk_cell HC3.out 0).trans rfl; have hc31 : w3.cell? ⟨gc, 1, none⟩ = some (.int .i64 c1) := (blk_cell HC3.out 1).trans rfl; have hc32 : w3.cell? ⟨gc, 2, none⟩ = some (.int .i64 c2) := (blk_cell HC3.out 2).trans rfl))
          | (go_at_call 17; go_loud ((with_reducible refine (impl_within.calls k 0 8 true _ HK.out).mono ?_); rintro e w' ⟨rfl, ⟨nd, rfl⟩⟩))
          | ((with_reducible refine gate_dst (N := 22) rfl ?_); go_loud (refine wpList_map 31 valS rfl rfl ?_; intro gm hgm w4 hm hbw; have HM4 : Aside0 (MemoE a b w.heap.size gm 0 w4) := ⟨⟨_, _, Memo.empty hm (by rw [hgm]; exact (pw_below_drewN HB3.out nd).size)⟩⟩; have HB4 := Aside0.mk (below_step (pw_below_drewN HB3.out nd) hbw); clear hgm hm hbw))
          | (go_at_call 18; go_loud ((with_reducible refine (HALL.out gm w4 HM4.out HB4.out).mono ?_); rintro e w5 ⟨A, cp, rfl, hro, _, _, hb5⟩; have HR5 := Aside0.mk hro; have HB5 := Aside0.mk hb5; clear hro hb5))
          | ((with_reducible refine gate_dst (N := 25) rfl ?_); (with_reducible refine gen_alloc ?_); go_loud (intro w6 hbox hbw; have H96 := Aside0.mk hbox; have HR6 := Aside0.mk (Kd.R_below HR5.out hbw); have HB6 := Aside0.mk (below_step HB5.out hbw); clear hbox hbw; have h90 : w6.cell? ⟨w5.heap.size, 0, none⟩ = some (.int .i64 s1) := (blk_cell H96.out 0).trans rfl; have h91 : w6.cell? ⟨w5.heap.size, 1, none⟩ = some (.slice A st.length cp) := (blk_cell H96.out 1).trans rfl; have h92 : w6.cell? ⟨w5.heap.size, 2, none⟩ = some (.bool true) := (blk_cell H96.out 2).trans rfl)))
        have H97 := Aside0.mk (blk_drew H96.out)
        have HR7 := Aside0.mk (Kd.R_below HR6.out (below_drew (Below.refl _ _)))
        have HB7 := Aside0.mk (below_drew HB6.out)
        refine start_ (n := 9) (S := fun w' => w'.cell? ⟨w5.heap.size, 0, none⟩ = some (.int .i64 s1) ∧ w'.cell? ⟨w5.heap.size, 1, none⟩ = some (.slice A st.length cp) ∧ w'.cell? ⟨w5.heap.size, 2, none⟩ = some (.bool true)) (ds := []) #[false, false, false, false, false, false, false, false, false] (by kernel_rfl) rfl rfl ⟨(blk_cell H97.out 0).trans rfl, (blk_cell H97.out 1).trans rfl, (blk_cell H97.out 2).trans rfl⟩ (fun hHeld => ?_)
        refine with_tabW impl_SmoothestHome.tab6 impl_SmoothestHome.bits6 (fun HT_ HW_ => ?_)
        generalize w6.drew = w7 at H97 HR7 HB7 hHeld ⊢
        refine pure_ (i := 1) (N := some 28) (v := ?_) (a' := ?_) #[false, true, false, false, false, false, false, false, false] rfl rfl (any_of HT_.out (by kernel_rfl)) (fun _ _ _ h => h) (Or.inl ⟨by rfl, ?_⟩) ?_ ?_
        rotate_left
        · intro w'
          go_simp
          with_reducible rfl
        rotate_left
        · simp only [Act.put, List.setIfInBounds_toArray, List.set_cons_zero, List.set_cons_succ, i64_w, i32_w]
          rfl
        refine take_ (i := 2) (N := some 29) (v := ?_) (a' := ?_) #[false, true, true, false, false, false, false, false, false] rfl rfl (take_ofW HT_.out HW_.out (by kernel_rfl)) (fun _ _ _ h => h) (Or.inl ⟨by rfl, ?_⟩) hHeld ?_ ?_
        rotate_left
        · rintro w' ⟨s0, s1, s2⟩
          go_simp
          with_reducible rfl
        rotate_left
        · simp only [Act.put, List.setIfInBounds_toArray, List.set_cons_zero, List.set_cons_succ, i64_w, i32_w]
          rfl
        refine pure_ (i := 4) (N := some 31) (v := ?_) (a' := ?_) #[false, true, true, false, true, false, false, false, false] rfl rfl (any_of HT_.out (by kernel_rfl)) (fun _ _ _ h => h) (Or.inl ⟨by rfl, ?_⟩) ?_ ?_
        rotate_left
        · intro w'
          go_simp
          with_reducible rfl
        rotate_left
        · simp only [Act.put, List.setIfInBounds_toArray, List.set_cons_zero, List.set_cons_succ, i64_w, i32_w]
          rfl
        refine take_ (i := 5) (N := some 32) (v := ?_) (a' := ?_) #[false, true, true, false, true, true, false, false, false] rfl rfl (take_ofW HT_.out HW_.out (by kernel_rfl)) (fun _ _ _ h => h) (Or.inl ⟨by rfl, ?_⟩) hHeld ?_ ?_
        rotate_left
        · rintro w' ⟨s0, s1, s2⟩
          go_simp
          with_reducible rfl
        rotate_left
        · simp only [Act.put, List.setIfInBounds_toArray, List.set_cons_zero, List.set_cons_succ, i64_w, i32_w]
          rfl
        refine one_ (i := 0) (N := some 27) #[true, true, true, false, true, true, false, false, false] rfl rfl (one_of HT_.out (by kernel_rfl)) (by decide) (fun K hK => ?_)
        refine value_ (v := .slice (some ⟨w7.heap.size, 0, none⟩) 0 0) (w1 := w7.alloc (.cells #[] 2)) (by rfl) rfl (by go_simp; first | done | rfl | exact ⟨rfl, rfl⟩) ?_
        have HO8 : Aside0 (Kd.R (Kd.int .i64) 2 (w7.alloc (.cells #[] 2)) w7.heap.size (fun _ => True) (.slice (some ⟨w7.heap.size, 0, none⟩) 0 0) []) := ⟨fun k_ _ => trivial, [], World.ownsRow_lit (base := w7.heap.size) (e := 2) (size := 1) w7 #[] 0 (Nat.le_refl _) (by decide) rfl, Reps.none _ _⟩
        have H98 := Aside0.mk (blk_alloc H97.out (.cells #[] 2))
        have HR8 := Aside0.mk (Kd.R_alloc HR7.out (.cells #[] 2))
        have HB8 : Aside0 (Below w7.heap.size w7 (w7.alloc (.cells #[] 2))) := ⟨below_alloc (Below.refl _ _) _⟩
        refine hK.out _ _ ⟨(blk_cell H98.out 0).trans rfl, (blk_cell H98.out 1).trans rfl, (blk_cell H98.out 2).trans rfl⟩ (fun hHeld => ?_)
        clear hK K
        refine norm_ (a' := ?_) ?_ ?_
        rotate_left
        · show Act.put _ (some 27) _ = _
          simp only [Act.put, List.setIfInBounds_toArray, List.set_cons_zero, List.set_cons_succ, i64_w, i32_w]
          rfl
        have hsz : w7.heap.size ≤ (w7.alloc (.cells #[] 2)).heap.size := HB8.out.size
        clear H97 HR7
        generalize w7.alloc (.cells #[] 2) = w8 at HO8 H98 HR8 HB8 hHeld hsz ⊢
        refine one_ (i := 3) (N := some 30) #[true, true, true, true, true, true, false, false, false] rfl rfl (one_of HT_.out (by kernel_rfl)) (by decide) (fun K hK => ?_)
        refine Kd.R_append_rows_step (Kd.int .i64) (w0 := w7) w7.heap.size (by rfl) (.tmp 27) (.tmp 29) 26 2 (.int .i64 0) 8 rfl hu26 info2 rfl (by decide) (by decide) (.slice (some ⟨w7.heap.size, 0, none⟩) 0 0) [] st A st.length cp (fun _ => True) (fun _ => False) rfl rfl HO8.out (Kd.R_reads' HR8.out).2.2 ?aK (fun _ hk => hk.elim) (fun _ _ => trivial) HB8.out hsz ?aL ?_
        case aK => exact fun x cs hx => hx
        case aL => have := HS8.out; simp only [List.length_nil]; omega
        intro v9 w9 ho hb hg hat
        have HO9 := Aside0.mk (Kd.R_lower ho HB7.out.size)
        have HB9 := Aside0.mk (below_step HB7.out hb)
        have H99 := Aside0.mk (blk_grown H98.out hg (Kd.R_ne HO8.out H98.out (by decide)))
        clear ho hb hg hat
        refine hK.out _ _ ⟨(blk_cell H99.out 0).trans rfl, (blk_cell H99.out 1).trans rfl, (blk_cell H99.out 2).trans rfl⟩ (fun hHeld => ?_)
        clear hK K
        refine norm_ (a' := ?_) ?_ ?_
        rotate_left
        · show Act.put _ (some 30) _ = _
          simp only [Act.put, List.setIfInBounds_toArray, List.set_cons_zero, List.set_cons_succ, i64_w, i32_w]
          rfl
        refine pure_ (i := 6) (N := some 6) (v := ?_) (a' := ?_) #[true, true, true, true, true, true, true, false, false] rfl rfl (any_of HT_.out (by kernel_rfl)) (fun _ _ _ h => h) (Or.inl ⟨by rfl, ?_⟩) ?_ ?_
        rotate_left
        · intro w'
          go_simp
          with_reducible rfl
        rotate_left
        · simp only [Act.put, List.setIfInBounds_toArray, List.set_cons_zero, List.set_cons_succ, i64_w, i32_w]
          rfl
        refine pure_ (i := 7) (N := some 7) (v := ?_) (a' := ?_) #[true, true, true, true, true, true, true, true, false] rfl rfl (any_of HT_.out (by kernel_rfl)) (fun _ _ _ h => h) (Or.inl ⟨by rfl, ?_⟩) ?_ ?_
        rotate_left
        · intro w'
          go_simp
          with_reducible rfl
        rotate_left
        · simp only [Act.put, List.setIfInBounds_toArray, List.set_cons_zero, List.set_cons_succ, i64_w, i32_w]
          rfl
        refine pure_ (i := 8) (N := some 8) (v := ?_) (a' := ?_) #[true, true, true, true, true, true, true, true, true] rfl rfl (any_of HT_.out (by kernel_rfl)) (fun _ _ _ h => h) (Or.inl ⟨by rfl, ?_⟩) ?_ ?_
        rotate_left
        · intro w'
          go_simp
          with_reducible rfl
        rotate_left
        · simp only [Act.put, List.setIfInBounds_toArray, List.set_cons_zero, List.set_cons_succ, i64_w, i32_w]
          rfl
        refine done_ (done_of HT_.out (by kernel_rfl)) ?_
        go_wp
        go_ret3
        rw [HF.out]
        exact ⟨_, rfl, by simpa using HO9.out, HB9.out⟩
    · rw [if_neg hk] at h
      have HK : Aside0 (impl_within.f k 0 8 = some false) := ⟨by rw [dwithin, decide_eq_false hk]⟩
      simp only [Option.some.injEq, Prod.mk.injEq] at h
      obtain ⟨rfl, rfl, rfl⟩ := h
      clear hv ha hb hi hk
      go_enter Try.func7, Try.ntmps7
      go_wp2_with (first
        | ((with_reducible refine gate_dst (N := 3) rfl ?_); go_loud (refine box_event ?hg (N := 3) ?hd (cs := #[.int .i64 a, .int .i64 b]) (t := 29) ?hr ?_; (case hd => rfl); (case hg => rfl); (case hr => first | (go_simp; done) | (go_simp; rfl)); intro gl hgl w1 hbox hbw; have HL1 := Aside0.mk hbox; have HB1 := Aside0.mk hbw; clear hgl hbox hbw))
        | ((with_reducible refine gate_dst (N := 4) rfl ?_); go_loud (refine box_event ?hg (N := 4) ?hd (cs := #[.int .i64 c0, .int .i64 c1, .int .i64 c2]) (t := 31) ?hr ?_; (case hd => rfl); (case hg => rfl); (case hr => first | (go_simp; done) | (go_simp; rfl)); intro gc hgc w2 hbox hbw; have HC2 := Aside0.mk hbox; have HL2 := Aside0.mk (blk_below HL1.out hbw); have HB2 := Aside0.mk (below_step HB1.out hbw); clear hgc hbox hbw; have hl0 : w2.cell? ⟨gl, 0, none⟩ = some (.int .i64 a) := (blk_cell HL2.out 0).trans rfl; have hl1 : w2.cell? ⟨gl, 1, none⟩ = some (.int .i64 b) := (blk_cell HL2.out 1).trans rfl; have hc0 : w2.cell? ⟨gc, 0, none⟩ = some (.int .i64 c0) := (blk_cell HC2.out 0).trans rfl; have hc1 : w2.cell? ⟨gc, 1, none⟩ = some (.int .i64 c1) := (blk_cell HC2.out 1).trans rfl; have hc2 : w2.cell? ⟨gc, 2, none⟩ = some (.int .i64 c2) := (blk_cell HC2.out 2).trans rfl))
        | (go_at_call 16; go_loud ((with_reducible refine (impl_ValidCourse.calls a b c0 c1 c2 true _ HV.out).mono ?_); rintro e w3 ⟨rfl, hb3⟩; have HL3 := Aside0.mk (blk_below HL2.out hb3); have HC3 := Aside0.mk (blk_below HC2.out hb3); have HB3 := Aside0.mk (below_step HB2.out hb3); clear hb3; have hl30 : w3.cell? ⟨gl, 0, none⟩ = some (.int .i64 a) := (blk_cell HL3.out 0).trans rfl; have hl31 : w3.cell? ⟨gl, 1, none⟩ = some (.int .i64 b) := (blk_cell HL3.out 1).trans rfl; have hc30 : w3.cell? ⟨gc, 0, none⟩ = some (.int .i64 c0) := (blk_cell HC3.out 0).trans rfl; have hc31 : w3.cell? ⟨gc, 1, none⟩ = some (.int .i64 c1) := (blk_cell HC3.out 1).trans rfl; have hc32 : w3.cell? ⟨gc, 2, none⟩ = some (.int .i64 c2) := (blk_cell HC3.out 2).trans rfl))
        | (go_at_call 17; go_loud ((with_reducible refine (impl_within.calls k 0 8 false _ HK.out).mono ?_); rintro e w' ⟨rfl, ⟨nd, rfl⟩⟩)))
      go_ret3
      rw [HF.out]
      exact ⟨_, rfl, Kd.R_nil _ _ _ _ _, by repeat (first | exact HB3.out | apply pw_below_drewN | apply below_drew1)⟩

end Go.Proofs.Ytpccannjeppmbaa.Q
