/- A contract by hand for impl.StepsHome: what distD tells of the course. -/
import Derived.Test.YtibmehephlngfaaQ0
import Derived.Test.YtibmehephlngfaaQ5
import Derived.Test.YtibmehephlngfaaGDist
namespace Go.Proofs.Ytibmehephlngfaa.Q
open Go.RowKit Go.Maps Go.Proofs.YtibmehephlngfaaW.PrintWords Go.Proofs.YtibmehephlngfaaW.PrintLast Go.Proofs.YtibmehephlngfaaW.PrintMore
set_option linter.unusedVariables false
set_option linter.unusedSimpArgs false

section
variable {α : Type} {P : Program} {k : TypeId} {enc : α → Value} {w : World} {b n : Nat} {G : α → Option Value} {t e : TypeId} {z : Value} {x : α} {kl : Lit}
variable {ops : Array Oper} {a : Act} {Q : Exit → Act → World → Prop} {Kc : Act → World → Prop}
/-- A look-up as one step of a region that draws its order. -/
theorem look_ {oi : Oper} {N : Option Tmp} (c : Bool) (hw : Region.wanted oi (yielded ops a.tmps) = true) (hN : oi.dst = N) (m y : Operand) (hop : oi.op = Op.lookup t m y c) (K : Keyed P k) (ht : P.underlying t = some (.map k e)) (hz : (zeroValue e).run P w = .ok z w)
    (hm : a.eval m = .map (some b)) (h : MapG P k enc w b n G) (hx : a.eval y = enc x) (hkey : keyOf P k (enc x) = some kl)
    (hK : Kc (a.put N (if c then .tuple #[(G x).getD z, .bool (G x).isSome] else (G x).getD z)) w) : if Region.wanted oi (yielded ops a.tmps) = true then Oper.wp P oi a w Kc Q else Kc (a.put N undef) w := by
  have hrun := h.look c K ht hz hkey
  refine value_ hw hN ?_ hK
  unfold execOp
  simp [hop, hm, hx, hrun]
end

theorem dvalid {a b o h t : Int} (hv : impl_ValidCourse.f a b o h t = some true) : (1 ≤ a ∧ a ≤ 3) ∧ (1 ≤ b ∧ b ≤ 6) ∧ insS a ⟨o, h, t⟩ = true := by
  unfold impl_ValidCourse.f impl_ValidLimits.f at hv
  simp only [dwithin, Option.bind_some] at hv
  by_cases ha : 1 ≤ a ∧ a ≤ 3
  · by_cases hb : 1 ≤ b ∧ b ≤ 6
    · rw [decide_eq_true ha, if_pos rfl, decide_eq_true hb, dcourse ha] at hv
      simp only [Option.bind_some, if_true, Option.some.injEq] at hv
      exact ⟨ha, hb, hv⟩
    · rw [decide_eq_true ha, if_pos rfl, decide_eq_false hb] at hv
      simp at hv
  · rw [decide_eq_false ha] at hv
    simp at hv

def mgo (o : Option Int) : Int × Bool := (o.getD 0, o.isSome)
def impl_StepsHome.f (a0_0 : Int) (a0_1 : Int) (a1_0 : Int) (a1_1 : Int) (a1_2 : Int) : Option (Int × Bool) :=
  (impl_ValidCourse.f a0_0 a0_1 a1_0 a1_1 a1_2).bind fun v => if v = true then some (mgo (mget (distD a0_0 a0_1) ⟨a1_0, a1_1, a1_2⟩)) else some (0, false)
def impl_StepsHome.T1 : Bool × List (List Nat × List Nat) := (true, [([], []), ([0], [0]), ([], []), ([1, 2], [1, 2]), ([3], [3]), ([4], [4]), ([4], [4]), ([5, 1, 0, 1, 2, 3, 4, 5], [5]), ([6, 7, 0, 1, 2, 3, 4, 5, 6, 7], [6])])
def impl_StepsHome.B1 : List Nat := [0, 1, 0, 7, 15, 31, 31, 63, 255]
theorem impl_StepsHome.tab1 : rtab .any (opsOf Try.f35 3) = impl_StepsHome.T1 := by kernel_rfl
theorem impl_StepsHome.bits1 : waitsOk impl_StepsHome.T1.2 impl_StepsHome.B1 = true := by kernel_rfl

set_option maxHeartbeats 8000000 in
set_option maxRecDepth 100000 in
theorem impl_StepsHome.calls (a0_0 : Int) (a0_1 : Int) (a1_0 : Int) (a1_1 : Int) (a1_2 : Int) (r1 : Int) (r2 : Bool) (w : World) (h : impl_StepsHome.f a0_0 a0_1 a1_0 a1_1 a1_2 = some (r1, r2)) :
    Calls Try.prog 35 #[.agg #[.int .i64 a0_0, .int .i64 a0_1], .agg #[.int .i64 a1_0, .int .i64 a1_1, .int .i64 a1_2]] w fun e w' => e = .returned (.tuple #[.int .i64 r1, .bool r2]) ∧ Below w.heap.size w w' := by
  have hu40 := Try.underlying40
  have hu24 := Try.underlying24
  have hu80 := Try.underlying80
  unfold impl_StepsHome.f at h
  obtain ⟨v, hv, h⟩ := Option.bind_eq_some_iff.1 h
  have HV := Aside0.mk hv
  cases v with
  | false =>
    rw [if_neg (by decide)] at h
    simp only [Option.some.injEq, Prod.mk.injEq] at h
    obtain ⟨rfl, rfl⟩ := h
    clear hv
    go_enter Try.func35, Try.ntmps35
    go_wp2_with (first
      | ((with_reducible refine gate_dst (N := 2) rfl ?_); refine box_event ?hg (N := 2) ?hd (cs := #[.int .i64 a0_0, .int .i64 a0_1]) (t := 40) ?hr ?_; (case hd => rfl); (case hg => rfl); (case hr => first | (go_simp; done) | (go_simp; rfl)); intro gl hgl w1 hbox hbw; have HL1 := Aside0.mk hbox; have HB1 := Aside0.mk hbw; clear hgl hbox hbw)
      | ((with_reducible refine gate_dst (N := 3) rfl ?_); refine box_event ?hg (N := 3) ?hd (cs := #[.int .i64 a1_0, .int .i64 a1_1, .int .i64 a1_2]) (t := 24) ?hr ?_; (case hd => rfl); (case hg => rfl); (case hr => first | (go_simp; done) | (go_simp; rfl)); intro gc hgc w2 hbox hbw; have HC2 := Aside0.mk hbox; have HL2 := Aside0.mk (blk_below HL1.out hbw); have HB2 := Aside0.mk (below_step HB1.out hbw); clear hgc hbox hbw; have hl0 := (blk_cell HL2.out 0).trans rfl; have hl1 := (blk_cell HL2.out 1).trans rfl; have hc0 := (blk_cell HC2.out 0).trans rfl; have hc1 := (blk_cell HC2.out 1).trans rfl; have hc2 := (blk_cell HC2.out 2).trans rfl)
      | (go_at_call 42; go_loud ((with_reducible refine (impl_ValidCourse.calls a0_0 a0_1 a1_0 a1_1 a1_2 false _ HV.out).mono ?_); rintro e w3 ⟨rfl, hb⟩; have HB3 := Aside0.mk (below_step HB2.out hb); clear hb)))
    go_ret2
    exact ⟨rfl, by repeat (first | exact HB3.out | apply pw_below_drewN | apply below_drew1)⟩
  | true =>
    obtain ⟨ha, hb, hi⟩ := dvalid hv
    rw [if_pos rfl] at h
    obtain ⟨o, ho⟩ : ∃ o, o = mget (distD a0_0 a0_1) ⟨a1_0, a1_1, a1_2⟩ := ⟨_, rfl⟩
    have HO := Aside0.mk ho
    rw [← ho] at h
    simp only [mgo, Option.some.injEq, Prod.mk.injEq] at h
    obtain ⟨rfl, rfl⟩ := h
    obtain ⟨j0, j1, j2⟩ := insS_iff.1 hi
    obtain ⟨kl, hkl⟩ := keyC ⟨a1_0, a1_1, a1_2⟩ (wf64 (by simp only at j0 ⊢; omega)) (wf64 (by simp only at j1 ⊢; omega)) (wf64 (by simp only at j2 ⊢; omega))
    have HKL := Aside0.mk hkl
    have HA := Aside0.mk ha
    have HBb := Aside0.mk hb
    clear hv ha hb hi j0 j1 j2 hkl ho
    go_enter Try.func35, Try.ntmps35
    go_wp2_with (first
      | ((with_reducible refine gate_dst (N := 2) rfl ?_); refine box_event ?hg (N := 2) ?hd (cs := #[.int .i64 a0_0, .int .i64 a0_1]) (t := 40) ?hr ?_; (case hd => rfl); (case hg => rfl); (case hr => first | (go_simp; done) | (go_simp; rfl)); intro gl hgl w1 hbox hbw; have HL1 := Aside0.mk hbox; have HB1 := Aside0.mk hbw; clear hgl hbox hbw)
      | ((with_reducible refine gate_dst (N := 3) rfl ?_); refine box_event ?hg (N := 3) ?hd (cs := #[.int .i64 a1_0, .int .i64 a1_1, .int .i64 a1_2]) (t := 24) ?hr ?_; (case hd => rfl); (case hg => rfl); (case hr => first | (go_simp; done) | (go_simp; rfl)); intro gc hgc w2 hbox hbw; have HC2 := Aside0.mk hbox; have HL2 := Aside0.mk (blk_below HL1.out hbw); have HB2 := Aside0.mk (below_step HB1.out hbw); clear hgc hbox hbw; have hl0 : w2.cell? ⟨gl, 0, none⟩ = some (.int .i64 a0_0) := (blk_cell HL2.out 0).trans rfl; have hl1 : w2.cell? ⟨gl, 1, none⟩ = some (.int .i64 a0_1) := (blk_cell HL2.out 1).trans rfl; have hc0 : w2.cell? ⟨gc, 0, none⟩ = some (.int .i64 a1_0) := (blk_cell HC2.out 0).trans rfl; have hc1 : w2.cell? ⟨gc, 1, none⟩ = some (.int .i64 a1_1) := (blk_cell HC2.out 1).trans rfl; have hc2 : w2.cell? ⟨gc, 2, none⟩ = some (.int .i64 a1_2) := (blk_cell HC2.out 2).trans rfl)
      | (go_at_call 42; go_loud ((with_reducible refine (impl_ValidCourse.calls a0_0 a0_1 a1_0 a1_1 a1_2 true _ HV.out).mono ?_); rintro e w3 ⟨rfl, hb⟩; have HB3 := Aside0.mk (below_step HB2.out hb); have HL3 := Aside0.mk (blk_below HL2.out hb); have HC3 := Aside0.mk (blk_below HC2.out hb); clear hb)))
    have HB4 := Aside0.mk (below_drew1 HB3.out)
    have HL4 := Aside0.mk (blk_drew HL3.out)
    have HC4 := Aside0.mk (blk_drew HC3.out)
    clear HB1 HB2 HB3 HL1 HL2 HL3 HC2 HC3 hl0 hl1 hc0 hc1 hc2
    refine start_ (n := 9) (S := fun w' => w'.cell? ⟨gl, 0, none⟩ = some (.int .i64 a0_0) ∧ w'.cell? ⟨gl, 1, none⟩ = some (.int .i64 a0_1) ∧ w'.cell? ⟨gc, 0, none⟩ = some (.int .i64 a1_0) ∧ w'.cell? ⟨gc, 1, none⟩ = some (.int .i64 a1_1) ∧ w'.cell? ⟨gc, 2, none⟩ = some (.int .i64 a1_2)) (ds := []) #[false, false, false, false, false, false, false, false, false] (by kernel_rfl) rfl rfl ⟨(blk_cell HL4.out 0).trans rfl, (blk_cell HL4.out 1).trans rfl, (blk_cell HC4.out 0).trans rfl, (blk_cell HC4.out 1).trans rfl, (blk_cell HC4.out 2).trans rfl⟩ (fun hHeld => ?_)
    refine with_tabW impl_StepsHome.tab1 impl_StepsHome.bits1 (fun HT_ HW_ => ?_)
    generalize w3.drew = w4 at HB4 HL4 HC4 hHeld ⊢
    refine take_ (i := 0) (N := some 13) (v := ?_) (a' := ?_) #[true, false, false, false, false, false, false, false, false] rfl rfl (take_ofW HT_.out HW_.out (by kernel_rfl)) (fun _ _ _ h => h) (Or.inl ⟨by rfl, ?_⟩) hHeld ?_ ?_
    rotate_left
    · rintro w' ⟨s0, s1, s2, s3, s4⟩
      go_simp
      with_reducible rfl
    rotate_left
    · simp only [Act.put, List.setIfInBounds_toArray, List.set_cons_zero, List.set_cons_succ, i64_w, i32_w]
      rfl
    refine take_ (i := 2) (N := some 15) (v := ?_) (a' := ?_) #[true, false, true, false, false, false, false, false, false] rfl rfl (take_ofW HT_.out HW_.out (by kernel_rfl)) (fun _ _ _ h => h) (Or.inl ⟨by rfl, ?_⟩) hHeld ?_ ?_
    rotate_left
    · rintro w' ⟨s0, s1, s2, s3, s4⟩
      go_simp
      with_reducible rfl
    rotate_left
    · simp only [Act.put, List.setIfInBounds_toArray, List.set_cons_zero, List.set_cons_succ, i64_w, i32_w]
      rfl
    refine one_ (i := 1) (N := some 14) #[true, true, true, false, false, false, false, false, false] rfl rfl (one_of HT_.out (by kernel_rfl)) (by decide) (fun K hK => ?_)
    refine goes_ Try.func61 (by kernel_rfl) rfl #[.agg #[.int .i64 a0_0, .int .i64 a0_1]] (by rfl) rfl rfl (by (try simp only [List.map_toArray, List.map_cons, List.map_nil]); first | done | rfl | (simp only [List.length_drop, List.length_take]; rfl)) ?_
    refine (dist_calls a0_0 a0_1 HA.out HBb.out _).mono ?_
    rintro e w5 ⟨gm, rfl, hgm, hmap, hb⟩
    refine ⟨_, rfl, ?_⟩
    have HB5 := Aside0.mk (below_step HB4.out hb)
    have HL5 := Aside0.mk (blk_below HL4.out hb)
    have HC5 := Aside0.mk (blk_below HC4.out hb)
    have HM5 := Aside0.mk hmap
    clear hb hgm hmap HB4 HL4 HC4
    refine hK.out _ _ ⟨(blk_cell HL5.out 0).trans rfl, (blk_cell HL5.out 1).trans rfl, (blk_cell HC5.out 0).trans rfl, (blk_cell HC5.out 1).trans rfl, (blk_cell HC5.out 2).trans rfl⟩ (fun hHeld => ?_)
    clear hK K
    refine norm_ (a' := ?_) ?_ ?_
    rotate_left
    · show Act.put _ (some 14) _ = _
      simp only [Act.put, List.setIfInBounds_toArray, List.set_cons_zero, List.set_cons_succ, i64_w, i32_w]
      rfl
    refine one_ (i := 3) (N := some 16) #[true, true, true, true, false, false, false, false, false] rfl rfl (one_of HT_.out (by kernel_rfl)) (by decide) (fun K hK => ?_)
    refine look_ (x := (⟨a1_0, a1_1, a1_2⟩ : S24)) true (by rfl) rfl _ _ rfl keyedC hu80 (by rfl) rfl HM5.out rfl HKL.out ?_
    rw [show mgv (distD a0_0 a0_1) ⟨a1_0, a1_1, a1_2⟩ = o.map (Value.int .i64) from by unfold mgv; rw [← HO.out]]
    rw [show ((o.map (Value.int .i64)).getD (.int .i64 0)) = .int .i64 (o.getD 0) from by cases o <;> rfl, show (o.map (Value.int .i64)).isSome = o.isSome from by cases o <;> rfl]
    refine hK.out _ _ ⟨(blk_cell HL5.out 0).trans rfl, (blk_cell HL5.out 1).trans rfl, (blk_cell HC5.out 0).trans rfl, (blk_cell HC5.out 1).trans rfl, (blk_cell HC5.out 2).trans rfl⟩ (fun hHeld => ?_)
    clear hK K
    refine norm_ (a' := ?_) ?_ ?_
    rotate_left
    · show Act.put _ (some 16) _ = _
      simp only [if_true, Act.put, List.setIfInBounds_toArray, List.set_cons_zero, List.set_cons_succ, i64_w, i32_w]
      rfl
    refine pure_ (i := 4) (N := some 12) (v := ?_) (a' := ?_) #[true, true, true, true, true, false, false, false, false] rfl rfl (any_of HT_.out (by kernel_rfl)) (fun _ _ _ h => h) (Or.inl ⟨by rfl, ?_⟩) ?_ ?_
    rotate_left
    · intro w'
      go_simp
      with_reducible rfl
    rotate_left
    · simp only [Act.put, List.setIfInBounds_toArray, List.set_cons_zero, List.set_cons_succ, i64_w, i32_w]
      rfl
    refine pure_ (i := 5) (N := some 17) (v := ?_) (a' := ?_) #[true, true, true, true, true, true, false, false, false] rfl rfl (any_of HT_.out (by kernel_rfl)) (fun _ _ _ h => h) (Or.inl ⟨by rfl, ?_⟩) ?_ ?_
    rotate_left
    · intro w'
      go_simp
      with_reducible rfl
    rotate_left
    · simp only [Act.put, List.setIfInBounds_toArray, List.set_cons_zero, List.set_cons_succ, i64_w, i32_w]
      rfl
    refine pure_ (i := 6) (N := some 18) (v := ?_) (a' := ?_) #[true, true, true, true, true, true, true, false, false] rfl rfl (any_of HT_.out (by kernel_rfl)) (fun _ _ _ h => h) (Or.inl ⟨by rfl, ?_⟩) ?_ ?_
    rotate_left
    · intro w'
      go_simp
      with_reducible rfl
    rotate_left
    · simp only [Act.put, List.setIfInBounds_toArray, List.set_cons_zero, List.set_cons_succ, i64_w, i32_w]
      rfl
    refine pure_ (i := 7) (N := some 6) (v := ?_) (a' := ?_) #[true, true, true, true, true, true, true, true, false] rfl rfl (any_of HT_.out (by kernel_rfl)) (fun _ _ _ h => h) (Or.inl ⟨by rfl, ?_⟩) ?_ ?_
    rotate_left
    · intro w'
      go_simp
      with_reducible rfl
    rotate_left
    · simp only [Act.put, List.setIfInBounds_toArray, List.set_cons_zero, List.set_cons_succ, i64_w, i32_w]
      rfl
    refine pure_ (i := 8) (N := some 7) (v := ?_) (a' := ?_) #[true, true, true, true, true, true, true, true, true] rfl rfl (any_of HT_.out (by kernel_rfl)) (fun _ _ _ h => h) (Or.inl ⟨by rfl, ?_⟩) ?_ ?_
    rotate_left
    · intro w'
      go_simp
      with_reducible rfl
    rotate_left
    · simp only [Act.put, List.setIfInBounds_toArray, List.set_cons_zero, List.set_cons_succ, i64_w, i32_w]
      rfl
    refine done_ (done_of HT_.out (by kernel_rfl)) ?_
    go_wp2
    go_ret2
    exact ⟨rfl, by repeat (first | exact HB5.out | apply pw_below_drewN | apply below_drew1)⟩

end Go.Proofs.Ytibmehephlngfaa.Q
