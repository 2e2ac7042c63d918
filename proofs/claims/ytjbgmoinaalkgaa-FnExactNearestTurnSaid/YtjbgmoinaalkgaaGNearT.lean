/- A contract by hand for impl.NearestTurn: it tells what 'near' does. -/
import Derived.Test.YtjbgmoinaalkgaaQ0
import Derived.Test.YtjbgmoinaalkgaaQ1
import Derived.Test.YtjbgmoinaalkgaaQ7
import Derived.Test.YtjbgmoinaalkgaaGSearch
namespace Go.Proofs.Ytjbgmoinaalkgaa.Q
open Go.RowKit Go.Proofs.YtjbgmoinaalkgaaW.PrintWords Go.Proofs.YtjbgmoinaalkgaaW.PrintLast Go.Proofs.YtjbgmoinaalkgaaW.PrintMore
set_option linter.unusedVariables false
set_option linter.unusedSimpArgs false

set_option maxHeartbeats 8000000 in
set_option maxRecDepth 100000 in
theorem search_bad (cnt : Int) (b0 b1 : Int) (f : Value) (hbad : ringB b0 b1 = false ∨ inR 1 4 cnt = false) (fn : Fn) (f1 f2 : Array Value) (w : World) :
    Calls Try.prog 15 #[.agg #[.int .i64 b0, .int .i64 b1], .int .i64 cnt, .func fn f1 f2] w fun e w' => e = .returned (.tuple #[.slice none 0 0, .int .i64 0, .bool false]) ∧ Below w.heap.size w w' := by
  have hu24 := Try.underlying24
  have hu27 := Try.underlying27
  obtain ⟨vr, hvr⟩ : ∃ vr, vr = ringB b0 b1 := ⟨_, rfl⟩
  have HVR : Aside0 (impl_ValidRing.f b0 b1 = some vr) := ⟨by
    rw [hvr]
    unfold impl_ValidRing.f ringB impl_within.f inR
    by_cases h1 : 0 ≤ b0
    · rw [if_pos h1, decide_eq_true h1, Option.bind_some, Bool.true_and]
      by_cases h2 : b0 ≤ 1
      · rw [decide_eq_true h2, if_pos rfl, Bool.true_and]
        by_cases h3 : 0 ≤ b1
        · rw [if_pos h3, decide_eq_true h3, Option.bind_some, Bool.true_and]
        · rw [if_neg h3, decide_eq_false h3, Option.bind_some, Bool.false_and]
      · rw [decide_eq_false h2, if_neg (by decide), Bool.false_and]
    · rw [if_neg h1, decide_eq_false h1, Option.bind_some, if_neg (by decide), Bool.false_and, Bool.false_and]⟩
  have HWI : Aside0 (impl_within.f cnt 1 4 = some (inR 1 4 cnt)) := ⟨by
    unfold impl_within.f inR
    by_cases h1 : 1 ≤ cnt
    · rw [if_pos h1, decide_eq_true h1, Bool.true_and]
    · rw [if_neg h1, decide_eq_false h1, Bool.false_and]⟩
  rw [← hvr] at hbad
  clear hvr
  generalize inR 1 4 cnt = wi at HWI hbad
  cases vr with
  | false =>
    clear hbad
    go_enter Try.func15, Try.ntmps15
    go_wp2_with (first
      | ((with_reducible refine gate_dst (N := 3) rfl ?_); go_loud (refine box_event ?hg (N := 3) ?hd (cs := #[.int .i64 b0, .int .i64 b1]) (t := 27) ?hr ?_; (case hd => rfl); (case hg => rfl); (case hr => first | (go_simp; done) | (go_simp; rfl)); intro bp hbp w1 hbox hbw; have H1p := Aside0.mk hbox; have HB1 := Aside0.mk hbw; clear hbp hbox hbw))
      | ((with_reducible refine gate_dst (N := 4) rfl ?_); go_loud (refine box_event ?hg (N := 4) ?hd (cs := #[.int .i64 cnt]) (t := 2) ?hr ?_; (case hd => rfl); (case hg => rfl); (case hr => first | (go_simp; done) | (go_simp; rfl)); intro bc hbc w2 hbox hbw; have H2c := Aside0.mk hbox; have H2p := Aside0.mk (blk_below H1p.out hbw); have HB2 := Aside0.mk (below_step HB1.out hbw); clear hbc hbox hbw))
      | ((with_reducible refine gate_dst (N := 5) rfl ?_); go_loud (refine box_event ?hg (N := 5) ?hd (cs := #[.func fn f1 f2]) (t := 43) ?hr ?_; (case hd => rfl); (case hg => rfl); (case hr => first | (go_simp; done) | (go_simp; rfl)); intro bk hbk w3 hbox hbw; have H3p := Aside0.mk (blk_below H2p.out hbw); have H3c := Aside0.mk (blk_below H2c.out hbw); have HB3 := Aside0.mk (below_step HB2.out hbw); clear hbk hbox hbw; have hz0 : w3.cell? ⟨bp, 0, none⟩ = some (.int .i64 b0) := (blk_cell H3p.out 0).trans rfl; have hz1 : w3.cell? ⟨bp, 1, none⟩ = some (.int .i64 b1) := (blk_cell H3p.out 1).trans rfl))
      | (go_at_call 27; go_loud (refine (impl_ValidRing.calls b0 b1 false _ HVR.out).mono ?_; rintro e w4 ⟨rfl, hb4⟩; have HB4 := Aside0.mk (below_step HB3.out hb4); clear hb4)))
    go_ret3
    exact ⟨rfl, HB4.out⟩
  | true =>
    have hwi : wi = false := by rcases hbad with h | h; cases h; exact h
    subst hwi
    clear hbad
    go_enter Try.func15, Try.ntmps15
    go_wp2_with (first
      | ((with_reducible refine gate_dst (N := 3) rfl ?_); go_loud (refine box_event ?hg (N := 3) ?hd (cs := #[.int .i64 b0, .int .i64 b1]) (t := 27) ?hr ?_; (case hd => rfl); (case hg => rfl); (case hr => first | (go_simp; done) | (go_simp; rfl)); intro bp hbp w1 hbox hbw; have H1p := Aside0.mk hbox; have HB1 := Aside0.mk hbw; clear hbp hbox hbw))
      | ((with_reducible refine gate_dst (N := 4) rfl ?_); go_loud (refine box_event ?hg (N := 4) ?hd (cs := #[.int .i64 cnt]) (t := 2) ?hr ?_; (case hd => rfl); (case hg => rfl); (case hr => first | (go_simp; done) | (go_simp; rfl)); intro bc hbc w2 hbox hbw; have H2c := Aside0.mk hbox; have H2p := Aside0.mk (blk_below H1p.out hbw); have HB2 := Aside0.mk (below_step HB1.out hbw); clear hbc hbox hbw))
      | ((with_reducible refine gate_dst (N := 5) rfl ?_); go_loud (refine box_event ?hg (N := 5) ?hd (cs := #[.func fn f1 f2]) (t := 43) ?hr ?_; (case hd => rfl); (case hg => rfl); (case hr => first | (go_simp; done) | (go_simp; rfl)); intro bk hbk w3 hbox hbw; have H3p := Aside0.mk (blk_below H2p.out hbw); have H3c := Aside0.mk (blk_below H2c.out hbw); have HB3 := Aside0.mk (below_step HB2.out hbw); clear hbk hbox hbw; have hz0 : w3.cell? ⟨bp, 0, none⟩ = some (.int .i64 b0) := (blk_cell H3p.out 0).trans rfl; have hz1 : w3.cell? ⟨bp, 1, none⟩ = some (.int .i64 b1) := (blk_cell H3p.out 1).trans rfl))
      | (go_at_call 27; go_loud (refine (impl_ValidRing.calls b0 b1 true _ HVR.out).mono ?_; rintro e w4 ⟨rfl, hb4⟩; have H4c := Aside0.mk (blk_below H3c.out hb4); have HB4 := Aside0.mk (below_step HB3.out hb4); clear hb4; have hz2 : w4.cell? ⟨bc, 0, none⟩ = some (.int .i64 cnt) := (blk_cell H4c.out 0).trans rfl))
      | (go_at_call 26; go_loud (refine (impl_within.calls cnt 1 4 false _ HWI.out).mono ?_; rintro e w' ⟨rfl, ⟨nd, rfl⟩⟩)))
    go_ret3
    exact ⟨rfl, by repeat (first | exact HB4.out | apply pw_below_drewN | apply below_drew1)⟩

set_option maxHeartbeats 16000000 in
set_option maxRecDepth 100000 in
theorem impl_NearestTurn.calls (a0_0 a0_1 a1 a2 a3 : Int) (r1 : List S27) (r2 : Int) (r3 : Bool) (w : World) (h : impl_NearestTurn.f a0_0 a0_1 a1 a2 a3 = some (r1, r2, r3)) :
    Calls Try.prog 6 #[.agg #[.int .i64 a0_0, .int .i64 a0_1], .int .i64 a1, .int .i64 a2, .int .i64 a3] w fun e w' => ∃ v0_ : Value, e = .returned (.tuple #[v0_, .int .i64 r2, .bool r3]) ∧ Kd.R k27 27 w' w.heap.size (fun _ => True) v0_ r1 ∧ Below w.heap.size w w' := by
  have hu24 := Try.underlying24
  have hu27 := Try.underlying27
  have hu37 := Try.underlying37
  obtain ⟨F, hF⟩ : ∃ F : Ending → World → Prop, F = fun e w' => ∃ v0_ : Value, e = .returned (.tuple #[v0_, .int .i64 r2, .bool r3]) ∧ Kd.R k27 27 w' w.heap.size (fun _ => True) v0_ r1 ∧ Below w.heap.size w w' := ⟨_, rfl⟩
  rw [← hF]
  have HF := Aside0.mk hF
  clear hF
  have HAW : Aside0 (impl_areWithin.f [a2, a3] (-100000) 100000 = some (inR (-100000) 100000 a2 && inR (-100000) 100000 a3)) := ⟨by unfold impl_areWithin.f; simp⟩
  unfold impl_NearestTurn.f at h
  cases haw : (inR (-100000) 100000 a2 && inR (-100000) 100000 a3) with
  | false =>
    rw [if_neg (fun hh => by rw [hh.1, hh.2.1] at haw; cases haw)] at h
    simp only [Option.some.injEq, Prod.mk.injEq] at h
    obtain ⟨rfl, rfl, rfl⟩ := h
    rw [haw] at HAW
    clear haw
    go_enter Try.func6, Try.ntmps6
    go_wp2_with (first
      | ((with_reducible refine gate_dst (N := 4) rfl ?_); go_loud (refine box_event ?hg (N := 4) ?hd (cs := #[.int .i64 a0_0, .int .i64 a0_1]) (t := 27) ?hr ?_; (case hd => rfl); (case hg => rfl); (case hr => first | (go_simp; done) | (go_simp; rfl)); intro gp hgp w1 hbox hbw; have HB1 := Aside0.mk hbw; have H1p := Aside0.mk hbox; clear hgp hbox hbw))
      | ((with_reducible refine gate_dst (N := 6) rfl ?_); go_loud (refine box_event ?hg (N := 6) ?hd (cs := #[.int .i64 a2]) (t := 2) ?hr ?_; (case hd => rfl); (case hg => rfl); (case hr => first | (go_simp; done) | (go_simp; rfl)); intro gB hgB w2 hbox hbw; have H2B := Aside0.mk hbox; have HB2 := Aside0.mk (below_step HB1.out hbw); have H2p := Aside0.mk (blk_below H1p.out hbw); clear hgB hbox hbw))
      | ((with_reducible refine gate_dst (N := 7) rfl ?_); go_loud (refine box_event ?hg (N := 7) ?hd (cs := #[.int .i64 a3]) (t := 2) ?hr ?_; (case hd => rfl); (case hg => rfl); (case hr => first | (go_simp; done) | (go_simp; rfl)); intro gR hgR w3 hbox hbw; have H3R := Aside0.mk hbox; have H3B := Aside0.mk (blk_below H2B.out hbw); have H3p := Aside0.mk (blk_below H2p.out hbw); have HB3 := Aside0.mk (below_step HB2.out hbw); clear hgR hbox hbw; have hz0 : w3.cell? ⟨gB, 0, none⟩ = some (.int .i64 a2) := (blk_cell H3B.out 0).trans rfl; have hz1 : w3.cell? ⟨gR, 0, none⟩ = some (.int .i64 a3) := (blk_cell H3R.out 0).trans rfl))
      | ((with_reducible refine gate_dst (N := 13) rfl ?_); go_loud (refine Kd.R_lit (Kd.int .i64) (w0 := w3) w3.heap.size 2 ?hg (N := 13) ?hd (xs := [a2, a3]) (inner := [.int .i64 a2, .int .i64 a3]) (ok := fun _ => True) (okp := fun _ => False) ?hr ?hp (fun _ hk => hk.elim) trivial (Below.refl _ _) (Nat.le_refl _) (by simp) ?_; (case hd => rfl); (case hg => rfl); (case hr => first | (go_simp; done) | (go_simp; rfl)); (case hp => exact Kd.reps_scalar [a2, a3]); intro v13 w4 ho hb4 hg_ hnew_; obtain ⟨A13, c13, e13⟩ := Kd.R_slice ho; subst e13; have HO4 := Aside0.mk (Kd.R_reads' ho); have HB4 := Aside0.mk (below_step HB3.out hb4); clear ho hb4 hg_ hnew_))
      | (go_at_call 13; go_loud (refine (impl_areWithin.calls A13 c13 [a2, a3] (-100000) 100000 false _ HO4.out.2.2 HO4.out.2.1 HAW.out).mono ?_; rintro e w5 ⟨rfl, hb5⟩; have HB5 := Aside0.mk (below_step HB4.out hb5); clear hb5)))
    go_ret3
    rw [HF.out]
    exact ⟨_, rfl, Kd.R_nil _ _ _ _ _, HB5.out⟩
  | true =>
    rw [haw] at HAW
    by_cases hcond : ringB a0_0 a0_1 = true ∧ inR 1 4 a1 = true
    · rw [if_pos ⟨(Bool.and_eq_true_iff.1 haw).1, (Bool.and_eq_true_iff.1 haw).2, hcond.1, hcond.2⟩] at h
      simp only [Option.some.injEq, Prod.mk.injEq] at h
      obtain ⟨rfl, rfl, rfl⟩ := h
      have i2 := ninR (Bool.and_eq_true_iff.1 haw).1
      have i3 := ninR (Bool.and_eq_true_iff.1 haw).2
      have i1 := ninR hcond.2
      have HSE : Aside0 (∀ (gB gR : Nat) (w : World), gB < gR → w.heap[gB]? = some (.cells #[.int .i64 a2] 2 (0, 0)) → w.heap[gR]? = some (.cells #[.int .i64 a3] 2 (0, 0)) →
        Calls Try.prog 15 #[.agg #[.int .i64 a0_0, .int .i64 a0_1], .int .i64 a1, .func (.func 16) #[] #[.pointer (some ⟨gB, 0, none⟩), .pointer (some ⟨gR, 0, none⟩)]] w fun e w' => ∃ v, e = .returned (.tuple #[v, .int .i64 (near a2 a3 a1.toNat ⟨a0_0, a0_1⟩ []).2, .bool true]) ∧ Kd.R k27 27 w' w.heap.size (fun _ => True) v (near a2 a3 a1.toNat ⟨a0_0, a0_1⟩ []).1 ∧ Below w.heap.size w w') :=
        ⟨fun gB gR w h1 h2 h3 => search_calls a2 a3 i2 i3 a1 i1 ⟨a0_0, a0_1⟩ hcond.1 gB gR w h1 h2 h3⟩
      generalize near a2 a3 a1.toNat ⟨a0_0, a0_1⟩ [] = p at HSE HF ⊢
      obtain ⟨p1, p2⟩ := p
      simp only at HSE HF ⊢
      clear i1 i2 i3 hcond haw
      go_enter Try.func6, Try.ntmps6
      go_wp2_with (first
        | ((with_reducible refine gate_dst (N := 4) rfl ?_); go_loud (refine box_event ?hg (N := 4) ?hd (cs := #[.int .i64 a0_0, .int .i64 a0_1]) (t := 27) ?hr ?_; (case hd => rfl); (case hg => rfl); (case hr => first | (go_simp; done) | (go_simp; rfl)); intro gp hgp w1 hbox hbw; have HB1 := Aside0.mk hbw; have H1p := Aside0.mk hbox; clear hgp hbox hbw))
        | ((with_reducible refine gate_dst (N := 6) rfl ?_); go_loud (refine box_event ?hg (N := 6) ?hd (cs := #[.int .i64 a2]) (t := 2) ?hr ?_; (case hd => rfl); (case hg => rfl); (case hr => first | (go_simp; done) | (go_simp; rfl)); intro gB hgB w2 hbox hbw; have H2B := Aside0.mk hbox; have HgB := Aside0.mk hgB; have HB2 := Aside0.mk (below_step HB1.out hbw); have H2p := Aside0.mk (blk_below H1p.out hbw); clear hgB hbox hbw))
        | ((with_reducible refine gate_dst (N := 7) rfl ?_); go_loud (refine box_event ?hg (N := 7) ?hd (cs := #[.int .i64 a3]) (t := 2) ?hr ?_; (case hd => rfl); (case hg => rfl); (case hr => first | (go_simp; done) | (go_simp; rfl)); intro gR hgR w3 hbox hbw; have H3R := Aside0.mk hbox; have HgR := Aside0.mk hgR; have H3B := Aside0.mk (blk_below H2B.out hbw); have H3p := Aside0.mk (blk_below H2p.out hbw); have HB3 := Aside0.mk (below_step HB2.out hbw); clear hgR hbox hbw; have hz0 : w3.cell? ⟨gB, 0, none⟩ = some (.int .i64 a2) := (blk_cell H3B.out 0).trans rfl; have hz1 : w3.cell? ⟨gR, 0, none⟩ = some (.int .i64 a3) := (blk_cell H3R.out 0).trans rfl))
        | ((with_reducible refine gate_dst (N := 13) rfl ?_); go_loud (refine Kd.R_lit (Kd.int .i64) (w0 := w3) w3.heap.size 2 ?hg (N := 13) ?hd (xs := [a2, a3]) (inner := [.int .i64 a2, .int .i64 a3]) (ok := fun _ => True) (okp := fun _ => False) ?hr ?hp (fun _ hk => hk.elim) trivial (Below.refl _ _) (Nat.le_refl _) (by simp) ?_; (case hd => rfl); (case hg => rfl); (case hr => first | (go_simp; done) | (go_simp; rfl)); (case hp => exact Kd.reps_scalar [a2, a3]); intro v13 w4 ho hb4 hg_ hnew_; obtain ⟨A13, c13, e13⟩ := Kd.R_slice ho; subst e13; have HO4 := Aside0.mk (Kd.R_reads' ho); have HB4 := Aside0.mk (below_step HB3.out hb4); have H34 := Aside0.mk hb4; clear ho hb4 hg_ hnew_))
        | (go_at_call 13; go_loud (refine (impl_areWithin.calls A13 c13 [a2, a3] (-100000) 100000 true _ HO4.out.2.2 HO4.out.2.1 HAW.out).mono ?_; rintro e w5 ⟨rfl, hb5⟩; have HB5 := Aside0.mk (below_step HB4.out hb5); have H5p := Aside0.mk (blk_below (blk_below H3p.out H34.out) hb5); have H5B := Aside0.mk (blk_below (blk_below H3B.out H34.out) hb5); have H5R := Aside0.mk (blk_below (blk_below H3R.out H34.out) hb5); clear hb5; have hy0 : w5.cell? ⟨gp, 0, none⟩ = some (.int .i64 a0_0) := (blk_cell H5p.out 0).trans rfl; have hy1 : w5.cell? ⟨gp, 1, none⟩ = some (.int .i64 a0_1) := (blk_cell H5p.out 1).trans rfl))
        | (go_at_call 15; go_loud (refine (HSE.out gB gR _ (by have := HgB.out; have := HgR.out; have := blk_lt H2B.out; omega) H5B.out H5R.out).mono ?_; rintro e w6 ⟨v6, rfl, ho, hb6⟩; have HO6 := Aside0.mk (Kd.R_lower ho HB5.out.size); have HB6 := Aside0.mk (below_step HB5.out hb6); clear ho hb6))
        | (go_at_call 14; go_loud (refine (found_calls _ _ _ _).mono ?_; rintro e w7 ⟨rfl, rfl⟩; simp only [if_true, if_false, Bool.false_eq_true])))
      go_ret3
      rw [HF.out]
      exact ⟨_, rfl, HO6.out, HB6.out⟩
    · rw [if_neg (fun hh => hcond ⟨hh.2.2.1, hh.2.2.2⟩)] at h
      simp only [Option.some.injEq, Prod.mk.injEq] at h
      obtain ⟨rfl, rfl, rfl⟩ := h
      have HBAD : Aside0 (ringB a0_0 a0_1 = false ∨ inR 1 4 a1 = false) := ⟨by
        cases hr : ringB a0_0 a0_1 with
        | false => exact Or.inl rfl
        | true =>
          cases hi : inR 1 4 a1 with
          | false => exact Or.inr rfl
          | true => exact absurd ⟨hr, hi⟩ hcond⟩
      clear hcond haw
      go_enter Try.func6, Try.ntmps6
      go_wp2_with (first
        | ((with_reducible refine gate_dst (N := 4) rfl ?_); go_loud (refine box_event ?hg (N := 4) ?hd (cs := #[.int .i64 a0_0, .int .i64 a0_1]) (t := 27) ?hr ?_; (case hd => rfl); (case hg => rfl); (case hr => first | (go_simp; done) | (go_simp; rfl)); intro gp hgp w1 hbox hbw; have HB1 := Aside0.mk hbw; have H1p := Aside0.mk hbox; clear hgp hbox hbw))
        | ((with_reducible refine gate_dst (N := 6) rfl ?_); go_loud (refine box_event ?hg (N := 6) ?hd (cs := #[.int .i64 a2]) (t := 2) ?hr ?_; (case hd => rfl); (case hg => rfl); (case hr => first | (go_simp; done) | (go_simp; rfl)); intro gB hgB w2 hbox hbw; have H2B := Aside0.mk hbox; have HgB := Aside0.mk hgB; have HB2 := Aside0.mk (below_step HB1.out hbw); have H2p := Aside0.mk (blk_below H1p.out hbw); clear hgB hbox hbw))
        | ((with_reducible refine gate_dst (N := 7) rfl ?_); go_loud (refine box_event ?hg (N := 7) ?hd (cs := #[.int .i64 a3]) (t := 2) ?hr ?_; (case hd => rfl); (case hg => rfl); (case hr => first | (go_simp; done) | (go_simp; rfl)); intro gR hgR w3 hbox hbw; have H3R := Aside0.mk hbox; have HgR := Aside0.mk hgR; have H3B := Aside0.mk (blk_below H2B.out hbw); have H3p := Aside0.mk (blk_below H2p.out hbw); have HB3 := Aside0.mk (below_step HB2.out hbw); clear hgR hbox hbw; have hz0 : w3.cell? ⟨gB, 0, none⟩ = some (.int .i64 a2) := (blk_cell H3B.out 0).trans rfl; have hz1 : w3.cell? ⟨gR, 0, none⟩ = some (.int .i64 a3) := (blk_cell H3R.out 0).trans rfl))
        | ((with_reducible refine gate_dst (N := 13) rfl ?_); go_loud (refine Kd.R_lit (Kd.int .i64) (w0 := w3) w3.heap.size 2 ?hg (N := 13) ?hd (xs := [a2, a3]) (inner := [.int .i64 a2, .int .i64 a3]) (ok := fun _ => True) (okp := fun _ => False) ?hr ?hp (fun _ hk => hk.elim) trivial (Below.refl _ _) (Nat.le_refl _) (by simp) ?_; (case hd => rfl); (case hg => rfl); (case hr => first | (go_simp; done) | (go_simp; rfl)); (case hp => exact Kd.reps_scalar [a2, a3]); intro v13 w4 ho hb4 hg_ hnew_; obtain ⟨A13, c13, e13⟩ := Kd.R_slice ho; subst e13; have HO4 := Aside0.mk (Kd.R_reads' ho); have HB4 := Aside0.mk (below_step HB3.out hb4); have H34 := Aside0.mk hb4; clear ho hb4 hg_ hnew_))
        | (go_at_call 13; go_loud (refine (impl_areWithin.calls A13 c13 [a2, a3] (-100000) 100000 true _ HO4.out.2.2 HO4.out.2.1 HAW.out).mono ?_; rintro e w5 ⟨rfl, hb5⟩; have HB5 := Aside0.mk (below_step HB4.out hb5); have H5p := Aside0.mk (blk_below (blk_below H3p.out H34.out) hb5); have H5B := Aside0.mk (blk_below (blk_below H3B.out H34.out) hb5); have H5R := Aside0.mk (blk_below (blk_below H3R.out H34.out) hb5); clear hb5; have hy0 : w5.cell? ⟨gp, 0, none⟩ = some (.int .i64 a0_0) := (blk_cell H5p.out 0).trans rfl; have hy1 : w5.cell? ⟨gp, 1, none⟩ = some (.int .i64 a0_1) := (blk_cell H5p.out 1).trans rfl))
        | (go_at_call 15; go_loud (refine (search_bad a1 a0_0 a0_1 (.int .i64 0) HBAD.out _ _ _ _).mono ?_; rintro e w6 ⟨rfl, hb6⟩; have HB6 := Aside0.mk (below_step HB5.out hb6); clear hb6))
        | (go_at_call 14; go_loud (refine (found_calls _ _ _ _).mono ?_; rintro e w7 ⟨rfl, rfl⟩; simp only [if_true, if_false, Bool.false_eq_true])))
      go_ret3
      rw [HF.out]
      exact ⟨_, rfl, Kd.R_nil _ _ _ _ _, HB6.out⟩

end Go.Proofs.Ytjbgmoinaalkgaa.Q
