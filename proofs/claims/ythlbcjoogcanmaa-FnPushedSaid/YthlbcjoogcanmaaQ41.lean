-- Written by a program of this claim's session (gprint.py over the kit's print); not typed by hand; Lean checks it.
import Derived.Test.YthlbcjoogcanmaaQ0
import Derived.Test.YthlbcjoogcanmaaQ1
import Derived.Test.YthlbcjoogcanmaaQ6
import Derived.Test.YthlbcjoogcanmaaQ17
import Derived.Test.YthlbcjoogcanmaaQ19
import Derived.Test.YthlbcjoogcanmaaQ25
import Derived.Test.YthlbcjoogcanmaaQ26
namespace Go.Proofs.Ythlbcjoogcanmaa.Q
open Go.RowKit Go.Proofs.YthlbcjoogcanmaaW.PrintWords Go.Proofs.YthlbcjoogcanmaaW.PrintLast Go.Proofs.YthlbcjoogcanmaaW.PrintMore
attribute [local go_sem] max2_int min2_int max_two min_two max_three min_three max_four min_four   -- for this text's walks alone
set_option linter.unusedVariables false
set_option linter.unusedSimpArgs false

attribute [local go_sem high] eqA25
/-! ### laws_FnPushed: function 16 -/
mutual
def laws_FnPushed.l0 : Nat → Int → Int → Bool → Int → Int → Int → Int → Int → Int → Int → Int → Int → Int → Option (Bool)
  | 0, _, _, _, _, _, _, _, _, _, _, _, _, _ => none
  | k + 1, x6, x7, x8, x9, x974000, x974001, x974002, x974003, x974004, x974005, x974006, x974007, x974008 => if x9 ≤ 13 then ((impl_PushMachine.f k x974000 x974001 x974002 x974003 x974004 x974005 x974006 x974007 x974008 x9 0).bind fun bt978 => (if x8 = true then (if x6 ≤ x9 then (laws_FnPushed.j1 k x6 x7 x8 x9 bt978.2.2.2.2.2.2.2.2.2 (bt978.2.2.2.2.2.2.2.2.2 != (decide (x9 ≤ x7))) x974000 x974001 x974002 x974003 x974004 x974005 x974006 x974007 x974008 bt978.1 bt978.2.1 bt978.2.2.1 bt978.2.2.2.1 bt978.2.2.2.2.1 bt978.2.2.2.2.2.1 bt978.2.2.2.2.2.2.1 bt978.2.2.2.2.2.2.2.1 bt978.2.2.2.2.2.2.2.2.1) else (laws_FnPushed.j1 k x6 x7 x8 x9 bt978.2.2.2.2.2.2.2.2.2 (bt978.2.2.2.2.2.2.2.2.2 != false) x974000 x974001 x974002 x974003 x974004 x974005 x974006 x974007 x974008 bt978.1 bt978.2.1 bt978.2.2.1 bt978.2.2.2.1 bt978.2.2.2.2.1 bt978.2.2.2.2.2.1 bt978.2.2.2.2.2.2.1 bt978.2.2.2.2.2.2.2.1 bt978.2.2.2.2.2.2.2.2.1)) else (laws_FnPushed.j1 k x6 x7 x8 x9 bt978.2.2.2.2.2.2.2.2.2 (bt978.2.2.2.2.2.2.2.2.2 != false) x974000 x974001 x974002 x974003 x974004 x974005 x974006 x974007 x974008 bt978.1 bt978.2.1 bt978.2.2.1 bt978.2.2.2.1 bt978.2.2.2.2.1 bt978.2.2.2.2.2.1 bt978.2.2.2.2.2.2.1 bt978.2.2.2.2.2.2.2.1 bt978.2.2.2.2.2.2.2.2.1))) else ((impl_ValidMachine.f x974000 x974001 x974002 x974003 x974004 x974005 x974006 x974007 x974008).bind fun t977 => (some t977))
def laws_FnPushed.j1 : Nat → Int → Int → Bool → Int → Bool → Bool → Int → Int → Int → Int → Int → Int → Int → Int → Int → Int → Int → Int → Int → Int → Int → Int → Int → Int → Option (Bool)
  | 0, _, _, _, _, _, _, _, _, _, _, _, _, _, _, _, _, _, _, _, _, _, _, _, _ => none
  | k + 1, x6, x7, x8, x9, x11, x45, x974000, x974001, x974002, x974003, x974004, x974005, x974006, x974007, x974008, x989000, x989001, x989002, x989003, x989004, x989005, x989006, x989007, x989008 => if x45 = true then (some false) else (if x11 = true then ((impl_ValidMachine.f x989000 x989001 x989002 x989003 x989004 x989005 x989006 x989007 x989008).bind fun t989 => (if t989 = true then (if (!(x989004 == x974004) || (!(x989005 == x974005) || (!(x989006 == x974006) || (!(x989007 == x974007))))) = true then (some false) else (if x989008 = (wrap64 (x974008 + 1500)) then (laws_FnPushed.l0 k x6 x7 x8 (wrap64 (x9 + 1)) x974000 x974001 x974002 x974003 x974004 x974005 x974006 x974007 x974008) else (some false))) else (some false))) else (laws_FnPushed.l0 k x6 x7 x8 (wrap64 (x9 + 1)) x974000 x974001 x974002 x974003 x974004 x974005 x974006 x974007 x974008))
end
def laws_FnPushed.f (k : Nat) (l0 : List Int) (l1 : List Int) : Option (Bool) := (laws_r8Long.f l0 l1).bind fun t963 => (if t963 = true then (some true) else ((spec_R8Machine.f k l0).bind fun bt964 => ((impl_PushRange.f k bt964.1 bt964.2.1 bt964.2.2.1 bt964.2.2.2.1 bt964.2.2.2.2.1 bt964.2.2.2.2.2.1 bt964.2.2.2.2.2.2.1 bt964.2.2.2.2.2.2.2.1 bt964.2.2.2.2.2.2.2.2).bind fun bt974 => (laws_FnPushed.l0 k bt974.1 bt974.2.1 bt974.2.2 (-13) bt964.1 bt964.2.1 bt964.2.2.1 bt964.2.2.2.1 bt964.2.2.2.2.1 bt964.2.2.2.2.2.1 bt964.2.2.2.2.2.2.1 bt964.2.2.2.2.2.2.2.1 bt964.2.2.2.2.2.2.2.2))))
theorem laws_FnPushed.mono_l : ∀ k, (∀ y0 y1 y2 y3 y4 y5 y6 y7 y8 y9 y10 y11 y12, LeO (laws_FnPushed.l0 k y0 y1 y2 y3 y4 y5 y6 y7 y8 y9 y10 y11 y12) (laws_FnPushed.l0 (k + 1) y0 y1 y2 y3 y4 y5 y6 y7 y8 y9 y10 y11 y12)) ∧ (∀ y0 y1 y2 y3 y4 y5 y6 y7 y8 y9 y10 y11 y12 y13 y14 y15 y16 y17 y18 y19 y20 y21 y22 y23, LeO (laws_FnPushed.j1 k y0 y1 y2 y3 y4 y5 y6 y7 y8 y9 y10 y11 y12 y13 y14 y15 y16 y17 y18 y19 y20 y21 y22 y23) (laws_FnPushed.j1 (k + 1) y0 y1 y2 y3 y4 y5 y6 y7 y8 y9 y10 y11 y12 y13 y14 y15 y16 y17 y18 y19 y20 y21 y22 y23))
  | 0 => ⟨fun _ _ _ _ _ _ _ _ _ _ _ _ _ r h => by simp [laws_FnPushed.l0] at h, fun _ _ _ _ _ _ _ _ _ _ _ _ _ _ _ _ _ _ _ _ _ _ _ _ r h => by simp [laws_FnPushed.j1] at h⟩
  | k + 1 => by
    obtain ⟨ih0, ih1⟩ := laws_FnPushed.mono_l k
    refine ⟨?_, ?_⟩
    · intro y0 y1 y2 y3 y4 y5 y6 y7 y8 y9 y10 y11 y12
      unfold laws_FnPushed.l0
      repeat' first
      | (with_reducible exact ih0 _ _ _ _ _ _ _ _ _ _ _ _ _)
      | (with_reducible exact ih1 _ _ _ _ _ _ _ _ _ _ _ _ _ _ _ _ _ _ _ _ _ _ _ _)
      | (with_reducible exact impl_PushMachine.mono _ _ _ _ _ _ _ _ _ _ _ _)
      | (with_reducible exact impl_PushRange.mono _ _ _ _ _ _ _ _ _ _)
      | (with_reducible exact spec_R8Machine.mono _ _)
      | (with_reducible exact LeO.refl _)
      | (with_reducible exact LeO.none _)
      | (with_reducible refine LeO.ite ?_ ?_)
      | (with_reducible refine LeO.bind ?_ (fun _ => ?_))
      | exact ih0 _ _ _ _ _ _ _ _ _ _ _ _ _
      | exact ih1 _ _ _ _ _ _ _ _ _ _ _ _ _ _ _ _ _ _ _ _ _ _ _ _
      | exact impl_PushMachine.mono _ _ _ _ _ _ _ _ _ _ _ _
      | exact impl_PushRange.mono _ _ _ _ _ _ _ _ _ _
      | exact spec_R8Machine.mono _ _
      | exact LeO.none _
      | refine LeO.ite ?_ ?_
      | refine LeO.bind ?_ (fun _ => ?_)
    · intro y0 y1 y2 y3 y4 y5 y6 y7 y8 y9 y10 y11 y12 y13 y14 y15 y16 y17 y18 y19 y20 y21 y22 y23
      unfold laws_FnPushed.j1
      repeat' first
      | (with_reducible exact ih0 _ _ _ _ _ _ _ _ _ _ _ _ _)
      | (with_reducible exact ih1 _ _ _ _ _ _ _ _ _ _ _ _ _ _ _ _ _ _ _ _ _ _ _ _)
      | (with_reducible exact impl_PushMachine.mono _ _ _ _ _ _ _ _ _ _ _ _)
      | (with_reducible exact impl_PushRange.mono _ _ _ _ _ _ _ _ _ _)
      | (with_reducible exact spec_R8Machine.mono _ _)
      | (with_reducible exact LeO.refl _)
      | (with_reducible exact LeO.none _)
      | (with_reducible refine LeO.ite ?_ ?_)
      | (with_reducible refine LeO.bind ?_ (fun _ => ?_))
      | exact ih0 _ _ _ _ _ _ _ _ _ _ _ _ _
      | exact ih1 _ _ _ _ _ _ _ _ _ _ _ _ _ _ _ _ _ _ _ _ _ _ _ _
      | exact impl_PushMachine.mono _ _ _ _ _ _ _ _ _ _ _ _
      | exact impl_PushRange.mono _ _ _ _ _ _ _ _ _ _
      | exact spec_R8Machine.mono _ _
      | exact LeO.none _
      | refine LeO.ite ?_ ?_
      | refine LeO.bind ?_ (fun _ => ?_)
theorem laws_FnPushed.mono : ∀ a0 a1 k, LeO (laws_FnPushed.f k a0 a1) (laws_FnPushed.f (k + 1) a0 a1) := by
  intro a0 a1 k
  obtain ⟨ih0, ih1⟩ := laws_FnPushed.mono_l k
  unfold laws_FnPushed.f
  repeat' first
      | (with_reducible exact ih0 _ _ _ _ _ _ _ _ _ _ _ _ _)
      | (with_reducible exact ih1 _ _ _ _ _ _ _ _ _ _ _ _ _ _ _ _ _ _ _ _ _ _ _ _)
      | (with_reducible exact impl_PushMachine.mono _ _ _ _ _ _ _ _ _ _ _ _)
      | (with_reducible exact impl_PushRange.mono _ _ _ _ _ _ _ _ _ _)
      | (with_reducible exact spec_R8Machine.mono _ _)
      | (with_reducible exact LeO.refl _)
      | (with_reducible exact LeO.none _)
      | (with_reducible refine LeO.ite ?_ ?_)
      | (with_reducible refine LeO.bind ?_ (fun _ => ?_))
      | exact ih0 _ _ _ _ _ _ _ _ _ _ _ _ _
      | exact ih1 _ _ _ _ _ _ _ _ _ _ _ _ _ _ _ _ _ _ _ _ _ _ _ _
      | exact impl_PushMachine.mono _ _ _ _ _ _ _ _ _ _ _ _
      | exact impl_PushRange.mono _ _ _ _ _ _ _ _ _ _
      | exact spec_R8Machine.mono _ _
      | exact LeO.none _
      | refine LeO.ite ?_ ?_
      | refine LeO.bind ?_ (fun _ => ?_)
set_option maxHeartbeats 8000000 in
set_option maxRecDepth 100000 in
theorem laws_FnPushed.calls (k : Nat) (A0 : Option Addr) (c0 : Nat) (l0 : List Int) (A1 : Option Addr) (c1 : Nat) (l1 : List Int) (r : Bool) (w : World) (hr0 : Kd.C (Kd.int .u8) w A0 l0.length l0) (hc0 : l0.length ≤ c0) (hr1 : Kd.C (Kd.int .u8) w A1 l1.length l1) (hc1 : l1.length ≤ c1) (h : laws_FnPushed.f k l0 l1 = some r) :
    Calls Try.prog 16 #[.slice A0 l0.length c0, .slice A1 l1.length c1] w fun e w' => e = .returned (.bool r) ∧ Below w.heap.size w w' := by
  have hu58 := Try.underlying58
  have hu25 := Try.underlying25
  have HR0 := Aside0.mk hr0
  have HC0 := Aside0.mk hc0
  clear hr0 hc0
  have HR1 := Aside0.mk hr1
  have HC1 := Aside0.mk hc1
  clear hr1 hc1
  have HB := Aside0.mk (Below.refl w.heap.size w)
  have H : ((laws_r8Long.f l0 l1).bind fun t963 => (if t963 = true then (some true) else ((spec_R8Machine.f k l0).bind fun bt964 => ((impl_PushRange.f k bt964.1 bt964.2.1 bt964.2.2.1 bt964.2.2.2.1 bt964.2.2.2.2.1 bt964.2.2.2.2.2.1 bt964.2.2.2.2.2.2.1 bt964.2.2.2.2.2.2.2.1 bt964.2.2.2.2.2.2.2.2).bind fun bt974 => (laws_FnPushed.l0 k bt974.1 bt974.2.1 bt974.2.2 (-13) bt964.1 bt964.2.1 bt964.2.2.1 bt964.2.2.2.1 bt964.2.2.2.2.1 bt964.2.2.2.2.2.1 bt964.2.2.2.2.2.2.1 bt964.2.2.2.2.2.2.2.1 bt964.2.2.2.2.2.2.2.2))))) = some r := h
  clear h
  replace H := Option.bind_eq_some_iff.mp H
  obtain ⟨t963, A30, H⟩ := H
  replace H : (if t963 = true then (some true) else ((spec_R8Machine.f k l0).bind fun bt964 => ((impl_PushRange.f k bt964.1 bt964.2.1 bt964.2.2.1 bt964.2.2.2.1 bt964.2.2.2.2.1 bt964.2.2.2.2.2.1 bt964.2.2.2.2.2.2.1 bt964.2.2.2.2.2.2.2.1 bt964.2.2.2.2.2.2.2.2).bind fun bt974 => (laws_FnPushed.l0 k bt974.1 bt974.2.1 bt974.2.2 (-13) bt964.1 bt964.2.1 bt964.2.2.1 bt964.2.2.2.1 bt964.2.2.2.2.1 bt964.2.2.2.2.2.1 bt964.2.2.2.2.2.2.1 bt964.2.2.2.2.2.2.2.1 bt964.2.2.2.2.2.2.2.2)))) = some r := H
  have A3 := Aside0.mk A30
  clear A30
  by_cases c4 : t963 = true
  · subst c4
    have H1 : (some true) = some r := by rw [if_pos rfl] at H; exact H
    clear H
    have H := H1
    clear H1
    obtain rfl := Option.some.inj H
    go_enter Try.func16, Try.ntmps16
    go_wp2_with (first | ((with_reducible refine gate_callee (f := 33) rfl ?_); refine goesL_ (some 14) rfl rfl Try.func33 (by kernel_rfl) rfl #[.slice A0 l0.length c0, .slice A1 l1.length c1] rfl (by (try simp only [List.map_toArray, List.map_cons, List.map_nil]); first | done | rfl | (simp only [List.length_drop, List.length_take]; rfl)) ?_; (with_reducible refine (laws_r8Long.calls _ _ l0 _ _ l1 true _ ?side1 ?side2 ?side3 ?side4 A3.out).mono ?_); (case side1 => repeat (first | exact HR0.out | (with_reducible refine Kd.C_alloc ?_ _) | (with_reducible refine Kd.C_drewN ?_ _) | (with_reducible refine Kd.C_drew ?_))); (case side2 => exact HC0.out); (case side3 => repeat (first | exact HR1.out | (with_reducible refine Kd.C_alloc ?_ _) | (with_reducible refine Kd.C_drewN ?_ _) | (with_reducible refine Kd.C_drew ?_))); (case side4 => exact HC1.out); rintro e w' ⟨rfl, ⟨nd, rfl⟩⟩; refine ⟨_, rfl, ?_⟩))
    go_ret
    exact ⟨by first | rfl | (simp [errW_none, errW_some] <;> rfl) | (simp [*, errW_none, errW_some] <;> rfl), by repeat (first | (with_reducible first | exact HB.out | apply below_alloc | apply pw_below_drewN | apply below_drew1) | exact HB.out)⟩
  · replace c4 := Bool.eq_false_iff.mpr c4
    subst c4
    have H1 : ((spec_R8Machine.f k l0).bind fun bt964 => ((impl_PushRange.f k bt964.1 bt964.2.1 bt964.2.2.1 bt964.2.2.2.1 bt964.2.2.2.2.1 bt964.2.2.2.2.2.1 bt964.2.2.2.2.2.2.1 bt964.2.2.2.2.2.2.2.1 bt964.2.2.2.2.2.2.2.2).bind fun bt974 => (laws_FnPushed.l0 k bt974.1 bt974.2.1 bt974.2.2 (-13) bt964.1 bt964.2.1 bt964.2.2.1 bt964.2.2.2.1 bt964.2.2.2.2.1 bt964.2.2.2.2.2.1 bt964.2.2.2.2.2.2.1 bt964.2.2.2.2.2.2.2.1 bt964.2.2.2.2.2.2.2.2))) = some r := by rw [if_neg (show ¬ (false = true) by decide)] at H; exact H
    clear H
    have H := H1
    clear H1
    replace H := Option.bind_eq_some_iff.mp H
    obtain ⟨⟨t964, t965, t966, t967, t968, t969, t970, t971, t972⟩, A50, H⟩ := H
    replace H : ((impl_PushRange.f k t964 t965 t966 t967 t968 t969 t970 t971 t972).bind fun bt974 => (laws_FnPushed.l0 k bt974.1 bt974.2.1 bt974.2.2 (-13) t964 t965 t966 t967 t968 t969 t970 t971 t972)) = some r := H
    have A5 := Aside0.mk A50
    clear A50
    replace H := Option.bind_eq_some_iff.mp H
    obtain ⟨⟨t974, t975, t976⟩, A60, H⟩ := H
    replace H : (laws_FnPushed.l0 k t974 t975 t976 (-13) t964 t965 t966 t967 t968 t969 t970 t971 t972) = some r := H
    have A6 := Aside0.mk A60
    clear A60
    have H' := Aside0.mk H
    clear H
    go_enter Try.func16, Try.ntmps16
    go_wp2_with (first | ((with_reducible refine gate_callee (f := 33) rfl ?_); refine goesL_ (some 14) rfl rfl Try.func33 (by kernel_rfl) rfl #[.slice A0 l0.length c0, .slice A1 l1.length c1] rfl (by (try simp only [List.map_toArray, List.map_cons, List.map_nil]); first | done | rfl | (simp only [List.length_drop, List.length_take]; rfl)) ?_; (with_reducible refine (laws_r8Long.calls _ _ l0 _ _ l1 false _ ?side1 ?side2 ?side3 ?side4 A3.out).mono ?_); (case side1 => repeat (first | exact HR0.out | (with_reducible refine Kd.C_alloc ?_ _) | (with_reducible refine Kd.C_drewN ?_ _) | (with_reducible refine Kd.C_drew ?_))); (case side2 => exact HC0.out); (case side3 => repeat (first | exact HR1.out | (with_reducible refine Kd.C_alloc ?_ _) | (with_reducible refine Kd.C_drewN ?_ _) | (with_reducible refine Kd.C_drew ?_))); (case side4 => exact HC1.out); rintro e w' ⟨rfl, ⟨nd, rfl⟩⟩; refine ⟨_, rfl, ?_⟩) | ((with_reducible refine gate_callee (f := 56) rfl ?_); refine goesL_ (some 16) rfl rfl Try.func56 (by kernel_rfl) rfl #[.slice A0 l0.length c0] rfl (by (try simp only [List.map_toArray, List.map_cons, List.map_nil]); first | done | rfl | (simp only [List.length_drop, List.length_take]; rfl)) ?_; (with_reducible refine (spec_R8Machine.calls k _ _ l0 t964 t965 t966 t967 t968 t969 t970 t971 t972 _ ?side1 ?side2 A5.out).mono ?_); (case side1 => repeat (first | exact HR0.out | (with_reducible refine Kd.C_alloc ?_ _) | (with_reducible refine Kd.C_drewN ?_ _) | (with_reducible refine Kd.C_drew ?_))); (case side2 => exact HC0.out); rintro e w7 ⟨rfl, hb⟩; refine ⟨_, rfl, ?_⟩; have n0_ := Aside0.mk (below_step (by repeat (first | (with_reducible first | exact HB.out | apply below_alloc | apply pw_below_drewN | apply below_drew1) | exact HB.out)) hb); clear HB; have HB := n0_; clear n0_; (try clear hb); (try clear hb2); (try clear hk); (try clear hi)) | ((with_reducible refine gate_dst (N := 5) rfl ?_); refine box_event ?hg (N := 5) ?hd (cs := #[.int .i64 0, .int .i64 0, .int .i64 0, .int .i64 0, .int .i64 0, .int .i64 0, .int .i64 0, .int .i64 0, .int .i64 0]) (t := 58) ?hr ?_; (case hd => rfl); (case hg => rfl); (case hr => first | (go_simp; done) | (go_simp; rfl)); intro gb973 hg w8 hbox hb; have n0_ := Aside0.mk (below_step (by repeat (first | (with_reducible first | exact HB.out | apply below_alloc | apply pw_below_drewN | apply below_drew1) | exact HB.out)) hb); have n1_ := Aside0.mk (hbox); have n2_ := Aside0.mk ((by rw [hg]; exact (below_size (by repeat (first | (with_reducible first | exact HB.out | apply below_alloc | apply pw_below_drewN | apply below_drew1) | exact HB.out))) : w.heap.size ≤ gb973)); have n3_ := Aside0.mk ((by rw [hg]; exact (below_size (by repeat (first | (with_reducible first | exact HB.out | apply below_alloc | apply pw_below_drewN | apply below_drew1) | exact HB.out))) : w.heap.size ≤ gb973)); clear HB; have HB := n0_; have BK973 := n1_; have GW973 := n2_; have GE973 := n3_; clear n0_ n1_ n2_ n3_; clear hb hbox hg; have hcz9_0 : w8.cell? ⟨gb973, 0, none⟩ = some (.int .i64 0) := (blk_cell BK973.out 0).trans rfl; have hcz9_1 : w8.cell? ⟨gb973, 1, none⟩ = some (.int .i64 0) := (blk_cell BK973.out 1).trans rfl; have hcz9_2 : w8.cell? ⟨gb973, 2, none⟩ = some (.int .i64 0) := (blk_cell BK973.out 2).trans rfl; have hcz9_3 : w8.cell? ⟨gb973, 3, none⟩ = some (.int .i64 0) := (blk_cell BK973.out 3).trans rfl; have hcz9_4 : w8.cell? ⟨gb973, 4, none⟩ = some (.int .i64 0) := (blk_cell BK973.out 4).trans rfl; have hcz9_5 : w8.cell? ⟨gb973, 5, none⟩ = some (.int .i64 0) := (blk_cell BK973.out 5).trans rfl; have hcz9_6 : w8.cell? ⟨gb973, 6, none⟩ = some (.int .i64 0) := (blk_cell BK973.out 6).trans rfl; have hcz9_7 : w8.cell? ⟨gb973, 7, none⟩ = some (.int .i64 0) := (blk_cell BK973.out 7).trans rfl; have hcz9_8 : w8.cell? ⟨gb973, 8, none⟩ = some (.int .i64 0) := (blk_cell BK973.out 8).trans rfl; have hfz9_0 := blk_frozen BK973.out 0; have hfz9_1 := blk_frozen BK973.out 1; have hfz9_2 := blk_frozen BK973.out 2; have hfz9_3 := blk_frozen BK973.out 3; have hfz9_4 := blk_frozen BK973.out 4; have hfz9_5 := blk_frozen BK973.out 5; have hfz9_6 := blk_frozen BK973.out 6; have hfz9_7 := blk_frozen BK973.out 7; have hfz9_8 := blk_frozen BK973.out 8) | ((with_reducible refine gate_callee (f := 53) rfl ?_); refine goesL_ (some 19) rfl rfl Try.func53 (by kernel_rfl) rfl #[.agg #[.int .i64 t964, .int .i64 t965, .int .i64 t966, .int .i64 t967, .int .i64 t968, .int .i64 t969, .int .i64 t970, .int .i64 t971, .int .i64 t972]] rfl (by (try simp only [List.map_toArray, List.map_cons, List.map_nil]); first | done | rfl | (simp only [List.length_drop, List.length_take]; rfl)) ?_; (with_reducible refine (impl_PushRange.calls k t964 t965 t966 t967 t968 t969 t970 t971 t972 t974 t975 t976 _ A6.out).mono ?_); rintro e w10 ⟨rfl, hb⟩; refine ⟨_, rfl, ?_⟩; have n0_ := Aside0.mk (blk_below (g := gb973) (o := .cells #[.int .i64 t964, .int .i64 t965, .int .i64 t966, .int .i64 t967, .int .i64 t968, .int .i64 t969, .int .i64 t970, .int .i64 t971, .int .i64 t972] 58 (0, 0)) (by (with_reducible repeat (first | refine blk_drewN ?_ _ | refine blk_drew ?_ | refine blk_alloc ?_ _)); refine blk_put (cs := #[.int .i64 t964, .int .i64 t965, .int .i64 t966, .int .i64 t967, .int .i64 t968, .int .i64 t969, .int .i64 t970, .int .i64 t971, .int .i64 0]) ?_ 8 _ rfl; (with_reducible repeat (first | refine blk_drewN ?_ _ | refine blk_drew ?_ | refine blk_alloc ?_ _)); refine blk_put (cs := #[.int .i64 t964, .int .i64 t965, .int .i64 t966, .int .i64 t967, .int .i64 t968, .int .i64 t969, .int .i64 t970, .int .i64 0, .int .i64 0]) ?_ 7 _ rfl; (with_reducible repeat (first | refine blk_drewN ?_ _ | refine blk_drew ?_ | refine blk_alloc ?_ _)); refine blk_put (cs := #[.int .i64 t964, .int .i64 t965, .int .i64 t966, .int .i64 t967, .int .i64 t968, .int .i64 t969, .int .i64 0, .int .i64 0, .int .i64 0]) ?_ 6 _ rfl; (with_reducible repeat (first | refine blk_drewN ?_ _ | refine blk_drew ?_ | refine blk_alloc ?_ _)); refine blk_put (cs := #[.int .i64 t964, .int .i64 t965, .int .i64 t966, .int .i64 t967, .int .i64 t968, .int .i64 0, .int .i64 0, .int .i64 0, .int .i64 0]) ?_ 5 _ rfl; (with_reducible repeat (first | refine blk_drewN ?_ _ | refine blk_drew ?_ | refine blk_alloc ?_ _)); refine blk_put (cs := #[.int .i64 t964, .int .i64 t965, .int .i64 t966, .int .i64 t967, .int .i64 0, .int .i64 0, .int .i64 0, .int .i64 0, .int .i64 0]) ?_ 4 _ rfl; (with_reducible repeat (first | refine blk_drewN ?_ _ | refine blk_drew ?_ | refine blk_alloc ?_ _)); refine blk_put (cs := #[.int .i64 t964, .int .i64 t965, .int .i64 t966, .int .i64 0, .int .i64 0, .int .i64 0, .int .i64 0, .int .i64 0, .int .i64 0]) ?_ 3 _ rfl; (with_reducible repeat (first | refine blk_drewN ?_ _ | refine blk_drew ?_ | refine blk_alloc ?_ _)); refine blk_put (cs := #[.int .i64 t964, .int .i64 t965, .int .i64 0, .int .i64 0, .int .i64 0, .int .i64 0, .int .i64 0, .int .i64 0, .int .i64 0]) ?_ 2 _ rfl; (with_reducible repeat (first | refine blk_drewN ?_ _ | refine blk_drew ?_ | refine blk_alloc ?_ _)); refine blk_put (cs := #[.int .i64 t964, .int .i64 0, .int .i64 0, .int .i64 0, .int .i64 0, .int .i64 0, .int .i64 0, .int .i64 0, .int .i64 0]) ?_ 1 _ rfl; (with_reducible repeat (first | refine blk_drewN ?_ _ | refine blk_drew ?_ | refine blk_alloc ?_ _)); refine blk_put (cs := #[.int .i64 0, .int .i64 0, .int .i64 0, .int .i64 0, .int .i64 0, .int .i64 0, .int .i64 0, .int .i64 0, .int .i64 0]) ?_ 0 _ rfl; (with_reducible repeat (first | refine blk_drewN ?_ _ | refine blk_drew ?_ | refine blk_alloc ?_ _)); exact BK973.out) hb); have n1_ := Aside0.mk (below_step (by repeat (first | (with_reducible first | exact HB.out | apply below_alloc | apply pw_below_drewN | apply below_drew1 | refine below_set ?_ GE973.out) | exact HB.out)) hb); clear BK973; clear HB; have BK973 := n0_; have HB := n1_; clear n0_ n1_; (try clear hb); (try clear hb2); (try clear hk); (try clear hi)))
    go_loopg [9] k (fun kq v9 w' => ∃ (x9_1 : Int), v9 = .int .i64 x9_1 ∧ Aside0 (laws_FnPushed.l0 kq t974 t975 t976 x9_1 t964 t965 t966 t967 t968 t969 t970 t971 t972 = some r) ∧ Aside0 (kq ≤ k) ∧ Aside0 (w'.heap[gb973]? = some (.cells #[.int .i64 t964, .int .i64 t965, .int .i64 t966, .int .i64 t967, .int .i64 t968, .int .i64 t969, .int .i64 t970, .int .i64 t971, .int .i64 t972] 58 (0, 0))) ∧ Aside0 (Below w.heap.size w w'))
    case atStart => exact ⟨((-13)), (by first | rfl | (simp; done) | (simp [*]; done)), H', ⟨Nat.le_refl _⟩, ⟨by (with_reducible repeat (first | refine blk_drewN ?_ _ | refine blk_drew ?_ | refine blk_alloc ?_ _)); exact BK973.out⟩, ⟨by repeat (first | (with_reducible first | exact HB.out | apply below_alloc | apply pw_below_drewN | apply below_drew1 | refine below_set ?_ GE973.out) | exact HB.out)⟩⟩
    case round =>
      clear H'
      try clear c1
      try clear p2
      try clear c3
      try clear c4
      try clear c5
      try clear hcz9_0
      try clear hcz9_1
      try clear hcz9_2
      try clear hcz9_3
      try clear hcz9_4
      try clear hcz9_5
      try clear hcz9_6
      try clear hcz9_7
      try clear hcz9_8
      try clear hfz9_0
      try clear hfz9_1
      try clear hfz9_2
      try clear hfz9_3
      try clear hfz9_4
      try clear hfz9_5
      try clear hfz9_6
      try clear hfz9_7
      try clear hfz9_8
      obtain ⟨x9_1, rfl, HA, HK1, BK973, HB⟩ := hrel
      cases gk with
      | zero => exact absurd HA.out (by simp [laws_FnPushed.l0])
      | succ k1 =>
        have H := HA.out
        clear HA
        simp only [laws_FnPushed.l0] at H
        by_cases c11 : x9_1 ≤ 13
        · rw [if_pos c11] at H
          have c11b0 : decide (x9_1 ≤ 13) = true := decide_eq_true c11
          clear c11
          replace H := Option.bind_eq_some_iff.mp H
          obtain ⟨⟨t978, t979, t980, t981, t982, t983, t984, t985, t986, t987⟩, A120, H⟩ := H
          replace H : (if t976 = true then (if t974 ≤ x9_1 then (laws_FnPushed.j1 k1 t974 t975 t976 x9_1 t987 (t987 != (decide (x9_1 ≤ t975))) t964 t965 t966 t967 t968 t969 t970 t971 t972 t978 t979 t980 t981 t982 t983 t984 t985 t986) else (laws_FnPushed.j1 k1 t974 t975 t976 x9_1 t987 (t987 != false) t964 t965 t966 t967 t968 t969 t970 t971 t972 t978 t979 t980 t981 t982 t983 t984 t985 t986)) else (laws_FnPushed.j1 k1 t974 t975 t976 x9_1 t987 (t987 != false) t964 t965 t966 t967 t968 t969 t970 t971 t972 t978 t979 t980 t981 t982 t983 t984 t985 t986)) = some r := H
          have A12 := Aside0.mk A120
          clear A120
          have HC13 := Aside0.mk H
          clear H
          have hcz14_0 : wr.cell? ⟨gb973, 0, none⟩ = some (.int .i64 t964) := (blk_cell BK973.out 0).trans rfl
          have hcz14_1 : wr.cell? ⟨gb973, 1, none⟩ = some (.int .i64 t965) := (blk_cell BK973.out 1).trans rfl
          have hcz14_2 : wr.cell? ⟨gb973, 2, none⟩ = some (.int .i64 t966) := (blk_cell BK973.out 2).trans rfl
          have hcz14_3 : wr.cell? ⟨gb973, 3, none⟩ = some (.int .i64 t967) := (blk_cell BK973.out 3).trans rfl
          have hcz14_4 : wr.cell? ⟨gb973, 4, none⟩ = some (.int .i64 t968) := (blk_cell BK973.out 4).trans rfl
          have hcz14_5 : wr.cell? ⟨gb973, 5, none⟩ = some (.int .i64 t969) := (blk_cell BK973.out 5).trans rfl
          have hcz14_6 : wr.cell? ⟨gb973, 6, none⟩ = some (.int .i64 t970) := (blk_cell BK973.out 6).trans rfl
          have hcz14_7 : wr.cell? ⟨gb973, 7, none⟩ = some (.int .i64 t971) := (blk_cell BK973.out 7).trans rfl
          have hcz14_8 : wr.cell? ⟨gb973, 8, none⟩ = some (.int .i64 t972) := (blk_cell BK973.out 8).trans rfl
          have hfz14_0 := blk_frozen BK973.out 0
          have hfz14_1 := blk_frozen BK973.out 1
          have hfz14_2 := blk_frozen BK973.out 2
          have hfz14_3 := blk_frozen BK973.out 3
          have hfz14_4 := blk_frozen BK973.out 4
          have hfz14_5 := blk_frozen BK973.out 5
          have hfz14_6 := blk_frozen BK973.out 6
          have hfz14_7 := blk_frozen BK973.out 7
          have hfz14_8 := blk_frozen BK973.out 8
          go_upto_region 9 with (first | ((with_reducible refine gate_callee (f := 55) rfl ?_); refine goesL_ (some 30) rfl rfl Try.func55 (by kernel_rfl) rfl #[.agg #[.int .i64 t964, .int .i64 t965, .int .i64 t966, .int .i64 t967, .int .i64 t968, .int .i64 t969, .int .i64 t970, .int .i64 t971, .int .i64 t972], .int .i64 x9_1, .int .i64 0] rfl (by (try simp only [List.map_toArray, List.map_cons, List.map_nil]); first | done | rfl | (simp only [List.length_drop, List.length_take]; rfl)) ?_; (with_reducible refine (impl_PushMachine.calls k1 t964 t965 t966 t967 t968 t969 t970 t971 t972 x9_1 0 t978 t979 t980 t981 t982 t983 t984 t985 t986 t987 _ A12.out).mono ?_); rintro e w15 ⟨rfl, hb⟩; refine ⟨_, rfl, ?_⟩; have n0_ := Aside0.mk (blk_below (g := gb973) (o := .cells #[.int .i64 t964, .int .i64 t965, .int .i64 t966, .int .i64 t967, .int .i64 t968, .int .i64 t969, .int .i64 t970, .int .i64 t971, .int .i64 t972] 58 (0, 0)) (by (with_reducible repeat (first | refine blk_drewN ?_ _ | refine blk_drew ?_ | refine blk_alloc ?_ _)); exact BK973.out) hb); have n1_ := Aside0.mk (below_step (by repeat (first | (with_reducible first | exact HB.out | apply below_alloc | apply pw_below_drewN | apply below_drew1 | refine below_set ?_ GE973.out) | exact HB.out)) hb); clear BK973; clear HB; have BK973 := n0_; have HB := n1_; clear n0_ n1_; (try clear hb); (try clear hb2); (try clear hk); (try clear hi)) | ((with_reducible refine gate_dst (N := 10) rfl ?_); refine box_event ?hg (N := 10) ?hd (cs := #[.int .i64 0, .int .i64 0, .int .i64 0, .int .i64 0, .int .i64 0, .int .i64 0, .int .i64 0, .int .i64 0, .int .i64 0]) (t := 58) ?hr ?_; (case hd => rfl); (case hg => rfl); (case hr => first | (go_simp; done) | (go_simp; rfl)); intro gb988 hg w16 hbox hb; have n0_ := Aside0.mk (blk_below (g := gb973) (o := .cells #[.int .i64 t964, .int .i64 t965, .int .i64 t966, .int .i64 t967, .int .i64 t968, .int .i64 t969, .int .i64 t970, .int .i64 t971, .int .i64 t972] 58 (0, 0)) (by (with_reducible repeat (first | refine blk_drewN ?_ _ | refine blk_drew ?_ | refine blk_alloc ?_ _)); exact BK973.out) hb); have n1_ := Aside0.mk (below_step (by repeat (first | (with_reducible first | exact HB.out | apply below_alloc | apply pw_below_drewN | apply below_drew1 | refine below_set ?_ GE973.out) | exact HB.out)) hb); have n2_ := Aside0.mk (hbox); have n3_ := Aside0.mk ((by rw [hg]; exact (below_size (by repeat (first | (with_reducible first | exact HB.out | apply below_alloc | apply pw_below_drewN | apply below_drew1 | refine below_set ?_ GE973.out) | exact HB.out))) : w.heap.size ≤ gb988)); have n4_ := Aside0.mk ((by rw [hg]; exact (below_size (by repeat (first | (with_reducible first | exact HB.out | apply below_alloc | apply pw_below_drewN | apply below_drew1 | refine below_set ?_ GE973.out) | exact HB.out))) : w.heap.size ≤ gb988)); have n5_ := Aside0.mk ((by rw [hg]; exact Nat.ne_of_lt (blk_lt (g := gb973) (o := .cells #[.int .i64 t964, .int .i64 t965, .int .i64 t966, .int .i64 t967, .int .i64 t968, .int .i64 t969, .int .i64 t970, .int .i64 t971, .int .i64 t972] 58 (0, 0)) (by (with_reducible repeat (first | refine blk_drewN ?_ _ | refine blk_drew ?_ | refine blk_alloc ?_ _)); exact BK973.out)) : gb973 ≠ gb988)); have n6_ := Aside0.mk ((by rw [hg]; exact Nat.ne_of_gt (blk_lt (g := gb973) (o := .cells #[.int .i64 t964, .int .i64 t965, .int .i64 t966, .int .i64 t967, .int .i64 t968, .int .i64 t969, .int .i64 t970, .int .i64 t971, .int .i64 t972] 58 (0, 0)) (by (with_reducible repeat (first | refine blk_drewN ?_ _ | refine blk_drew ?_ | refine blk_alloc ?_ _)); exact BK973.out)) : gb988 ≠ gb973)); clear BK973; clear HB; have BK973 := n0_; have HB := n1_; have BK988 := n2_; have GW988 := n3_; have GE988 := n4_; have NB973_988 := n5_; have NB988_973 := n6_; clear n0_ n1_ n2_ n3_ n4_ n5_ n6_; clear hb hbox hg; have hnb17 := NB988_973.out; have hnc17 := NB973_988.out; have hcz18_0 : w16.cell? ⟨gb988, 0, none⟩ = some (.int .i64 0) := (blk_cell BK988.out 0).trans rfl; have hcz18_1 : w16.cell? ⟨gb988, 1, none⟩ = some (.int .i64 0) := (blk_cell BK988.out 1).trans rfl; have hcz18_2 : w16.cell? ⟨gb988, 2, none⟩ = some (.int .i64 0) := (blk_cell BK988.out 2).trans rfl; have hcz18_3 : w16.cell? ⟨gb988, 3, none⟩ = some (.int .i64 0) := (blk_cell BK988.out 3).trans rfl; have hcz18_4 : w16.cell? ⟨gb988, 4, none⟩ = some (.int .i64 0) := (blk_cell BK988.out 4).trans rfl; have hcz18_5 : w16.cell? ⟨gb988, 5, none⟩ = some (.int .i64 0) := (blk_cell BK988.out 5).trans rfl; have hcz18_6 : w16.cell? ⟨gb988, 6, none⟩ = some (.int .i64 0) := (blk_cell BK988.out 6).trans rfl; have hcz18_7 : w16.cell? ⟨gb988, 7, none⟩ = some (.int .i64 0) := (blk_cell BK988.out 7).trans rfl; have hcz18_8 : w16.cell? ⟨gb988, 8, none⟩ = some (.int .i64 0) := (blk_cell BK988.out 8).trans rfl; have hfz18_0 := blk_frozen BK988.out 0; have hfz18_1 := blk_frozen BK988.out 1; have hfz18_2 := blk_frozen BK988.out 2; have hfz18_3 := blk_frozen BK988.out 3; have hfz18_4 := blk_frozen BK988.out 4; have hfz18_5 := blk_frozen BK988.out 5; have hfz18_6 := blk_frozen BK988.out 6; have hfz18_7 := blk_frozen BK988.out 7; have hfz18_8 := blk_frozen BK988.out 8))
          (try simp only [Act.put, List.setIfInBounds_toArray, List.set_cons_zero, List.set_cons_succ])
          go_cut [45] (fun v45 wc => ∃ (kq : Nat) (x45_12 : Bool), v45 = .bool x45_12 ∧ Aside0 (laws_FnPushed.j1 kq t974 t975 t976 x9_1 t987 x45_12 t964 t965 t966 t967 t968 t969 t970 t971 t972 t978 t979 t980 t981 t982 t983 t984 t985 t986 = some r) ∧ Aside0 (kq ≤ k1) ∧ Aside0 (wc.heap[gb973]? = some (.cells #[.int .i64 t964, .int .i64 t965, .int .i64 t966, .int .i64 t967, .int .i64 t968, .int .i64 t969, .int .i64 t970, .int .i64 t971, .int .i64 t972] 58 (0, 0))) ∧ Aside0 (wc.heap[gb988]? = some (.cells #[.int .i64 t978, .int .i64 t979, .int .i64 t980, .int .i64 t981, .int .i64 t982, .int .i64 t983, .int .i64 t984, .int .i64 t985, .int .i64 t986] 58 (0, 0))) ∧ Aside0 (Below w.heap.size w wc))
          case first =>
            have H := HC13.out
            clear HC13
            by_cases c19 : t976 = true
            · subst c19
              have H1 : (if t974 ≤ x9_1 then (laws_FnPushed.j1 k1 t974 t975 true x9_1 t987 (t987 != (decide (x9_1 ≤ t975))) t964 t965 t966 t967 t968 t969 t970 t971 t972 t978 t979 t980 t981 t982 t983 t984 t985 t986) else (laws_FnPushed.j1 k1 t974 t975 true x9_1 t987 (t987 != false) t964 t965 t966 t967 t968 t969 t970 t971 t972 t978 t979 t980 t981 t982 t983 t984 t985 t986)) = some r := by rw [if_pos rfl] at H; exact H
              clear H
              have H := H1
              clear H1
              by_cases c20 : t974 ≤ x9_1
              · rw [if_pos c20] at H
                have c20b0 : decide (t974 ≤ x9_1) = true := decide_eq_true c20
                clear c20
                (first | rw [c20b0] | (simp only [i64_w, i32_w]; rw [c20b0]) | skip)
                have H' := Aside0.mk H
                clear H
                go_wp2
                go_meet
                case rel => exact ⟨_, ((t987 != (decide (x9_1 ≤ t975)))), (by first | rfl | (simp; done) | (simp [*]; done)), H', ⟨by have := HK1.out; first | omega | exact Nat.le_refl _⟩, ⟨by (with_reducible repeat (first | refine blk_drewN ?_ _ | refine blk_drew ?_ | refine blk_alloc ?_ _)); refine blk_far ?_ NB973_988.out _; (with_reducible repeat (first | refine blk_drewN ?_ _ | refine blk_drew ?_ | refine blk_alloc ?_ _)); refine blk_far ?_ NB973_988.out _; (with_reducible repeat (first | refine blk_drewN ?_ _ | refine blk_drew ?_ | refine blk_alloc ?_ _)); refine blk_far ?_ NB973_988.out _; (with_reducible repeat (first | refine blk_drewN ?_ _ | refine blk_drew ?_ | refine blk_alloc ?_ _)); refine blk_far ?_ NB973_988.out _; (with_reducible repeat (first | refine blk_drewN ?_ _ | refine blk_drew ?_ | refine blk_alloc ?_ _)); refine blk_far ?_ NB973_988.out _; (with_reducible repeat (first | refine blk_drewN ?_ _ | refine blk_drew ?_ | refine blk_alloc ?_ _)); refine blk_far ?_ NB973_988.out _; (with_reducible repeat (first | refine blk_drewN ?_ _ | refine blk_drew ?_ | refine blk_alloc ?_ _)); refine blk_far ?_ NB973_988.out _; (with_reducible repeat (first | refine blk_drewN ?_ _ | refine blk_drew ?_ | refine blk_alloc ?_ _)); refine blk_far ?_ NB973_988.out _; (with_reducible repeat (first | refine blk_drewN ?_ _ | refine blk_drew ?_ | refine blk_alloc ?_ _)); refine blk_far ?_ NB973_988.out _; (with_reducible repeat (first | refine blk_drewN ?_ _ | refine blk_drew ?_ | refine blk_alloc ?_ _)); exact BK973.out⟩, ⟨by (with_reducible repeat (first | refine blk_drewN ?_ _ | refine blk_drew ?_ | refine blk_alloc ?_ _)); refine blk_put (cs := #[.int .i64 t978, .int .i64 t979, .int .i64 t980, .int .i64 t981, .int .i64 t982, .int .i64 t983, .int .i64 t984, .int .i64 t985, .int .i64 0]) ?_ 8 _ rfl; (with_reducible repeat (first | refine blk_drewN ?_ _ | refine blk_drew ?_ | refine blk_alloc ?_ _)); refine blk_put (cs := #[.int .i64 t978, .int .i64 t979, .int .i64 t980, .int .i64 t981, .int .i64 t982, .int .i64 t983, .int .i64 t984, .int .i64 0, .int .i64 0]) ?_ 7 _ rfl; (with_reducible repeat (first | refine blk_drewN ?_ _ | refine blk_drew ?_ | refine blk_alloc ?_ _)); refine blk_put (cs := #[.int .i64 t978, .int .i64 t979, .int .i64 t980, .int .i64 t981, .int .i64 t982, .int .i64 t983, .int .i64 0, .int .i64 0, .int .i64 0]) ?_ 6 _ rfl; (with_reducible repeat (first | refine blk_drewN ?_ _ | refine blk_drew ?_ | refine blk_alloc ?_ _)); refine blk_put (cs := #[.int .i64 t978, .int .i64 t979, .int .i64 t980, .int .i64 t981, .int .i64 t982, .int .i64 0, .int .i64 0, .int .i64 0, .int .i64 0]) ?_ 5 _ rfl; (with_reducible repeat (first | refine blk_drewN ?_ _ | refine blk_drew ?_ | refine blk_alloc ?_ _)); refine blk_put (cs := #[.int .i64 t978, .int .i64 t979, .int .i64 t980, .int .i64 t981, .int .i64 0, .int .i64 0, .int .i64 0, .int .i64 0, .int .i64 0]) ?_ 4 _ rfl; (with_reducible repeat (first | refine blk_drewN ?_ _ | refine blk_drew ?_ | refine blk_alloc ?_ _)); refine blk_put (cs := #[.int .i64 t978, .int .i64 t979, .int .i64 t980, .int .i64 0, .int .i64 0, .int .i64 0, .int .i64 0, .int .i64 0, .int .i64 0]) ?_ 3 _ rfl; (with_reducible repeat (first | refine blk_drewN ?_ _ | refine blk_drew ?_ | refine blk_alloc ?_ _)); refine blk_put (cs := #[.int .i64 t978, .int .i64 t979, .int .i64 0, .int .i64 0, .int .i64 0, .int .i64 0, .int .i64 0, .int .i64 0, .int .i64 0]) ?_ 2 _ rfl; (with_reducible repeat (first | refine blk_drewN ?_ _ | refine blk_drew ?_ | refine blk_alloc ?_ _)); refine blk_put (cs := #[.int .i64 t978, .int .i64 0, .int .i64 0, .int .i64 0, .int .i64 0, .int .i64 0, .int .i64 0, .int .i64 0, .int .i64 0]) ?_ 1 _ rfl; (with_reducible repeat (first | refine blk_drewN ?_ _ | refine blk_drew ?_ | refine blk_alloc ?_ _)); refine blk_put (cs := #[.int .i64 0, .int .i64 0, .int .i64 0, .int .i64 0, .int .i64 0, .int .i64 0, .int .i64 0, .int .i64 0, .int .i64 0]) ?_ 0 _ rfl; (with_reducible repeat (first | refine blk_drewN ?_ _ | refine blk_drew ?_ | refine blk_alloc ?_ _)); exact BK988.out⟩, ⟨by repeat (first | (with_reducible first | exact HB.out | apply below_alloc | apply pw_below_drewN | apply below_drew1 | refine below_set ?_ GE973.out | refine below_set ?_ GE988.out) | exact HB.out)⟩⟩
              · rw [if_neg c20] at H
                have c20b0 : decide (t974 ≤ x9_1) = false := decide_eq_false c20
                clear c20
                (first | rw [c20b0] | (simp only [i64_w, i32_w]; rw [c20b0]) | skip)
                have H' := Aside0.mk H
                clear H
                go_wp2
                go_meet
                case rel => exact ⟨_, ((t987 != false)), (by first | rfl | (simp; done) | (simp [*]; done)), H', ⟨by have := HK1.out; first | omega | exact Nat.le_refl _⟩, ⟨by (with_reducible repeat (first | refine blk_drewN ?_ _ | refine blk_drew ?_ | refine blk_alloc ?_ _)); refine blk_far ?_ NB973_988.out _; (with_reducible repeat (first | refine blk_drewN ?_ _ | refine blk_drew ?_ | refine blk_alloc ?_ _)); refine blk_far ?_ NB973_988.out _; (with_reducible repeat (first | refine blk_drewN ?_ _ | refine blk_drew ?_ | refine blk_alloc ?_ _)); refine blk_far ?_ NB973_988.out _; (with_reducible repeat (first | refine blk_drewN ?_ _ | refine blk_drew ?_ | refine blk_alloc ?_ _)); refine blk_far ?_ NB973_988.out _; (with_reducible repeat (first | refine blk_drewN ?_ _ | refine blk_drew ?_ | refine blk_alloc ?_ _)); refine blk_far ?_ NB973_988.out _; (with_reducible repeat (first | refine blk_drewN ?_ _ | refine blk_drew ?_ | refine blk_alloc ?_ _)); refine blk_far ?_ NB973_988.out _; (with_reducible repeat (first | refine blk_drewN ?_ _ | refine blk_drew ?_ | refine blk_alloc ?_ _)); refine blk_far ?_ NB973_988.out _; (with_reducible repeat (first | refine blk_drewN ?_ _ | refine blk_drew ?_ | refine blk_alloc ?_ _)); refine blk_far ?_ NB973_988.out _; (with_reducible repeat (first | refine blk_drewN ?_ _ | refine blk_drew ?_ | refine blk_alloc ?_ _)); refine blk_far ?_ NB973_988.out _; (with_reducible repeat (first | refine blk_drewN ?_ _ | refine blk_drew ?_ | refine blk_alloc ?_ _)); exact BK973.out⟩, ⟨by (with_reducible repeat (first | refine blk_drewN ?_ _ | refine blk_drew ?_ | refine blk_alloc ?_ _)); refine blk_put (cs := #[.int .i64 t978, .int .i64 t979, .int .i64 t980, .int .i64 t981, .int .i64 t982, .int .i64 t983, .int .i64 t984, .int .i64 t985, .int .i64 0]) ?_ 8 _ rfl; (with_reducible repeat (first | refine blk_drewN ?_ _ | refine blk_drew ?_ | refine blk_alloc ?_ _)); refine blk_put (cs := #[.int .i64 t978, .int .i64 t979, .int .i64 t980, .int .i64 t981, .int .i64 t982, .int .i64 t983, .int .i64 t984, .int .i64 0, .int .i64 0]) ?_ 7 _ rfl; (with_reducible repeat (first | refine blk_drewN ?_ _ | refine blk_drew ?_ | refine blk_alloc ?_ _)); refine blk_put (cs := #[.int .i64 t978, .int .i64 t979, .int .i64 t980, .int .i64 t981, .int .i64 t982, .int .i64 t983, .int .i64 0, .int .i64 0, .int .i64 0]) ?_ 6 _ rfl; (with_reducible repeat (first | refine blk_drewN ?_ _ | refine blk_drew ?_ | refine blk_alloc ?_ _)); refine blk_put (cs := #[.int .i64 t978, .int .i64 t979, .int .i64 t980, .int .i64 t981, .int .i64 t982, .int .i64 0, .int .i64 0, .int .i64 0, .int .i64 0]) ?_ 5 _ rfl; (with_reducible repeat (first | refine blk_drewN ?_ _ | refine blk_drew ?_ | refine blk_alloc ?_ _)); refine blk_put (cs := #[.int .i64 t978, .int .i64 t979, .int .i64 t980, .int .i64 t981, .int .i64 0, .int .i64 0, .int .i64 0, .int .i64 0, .int .i64 0]) ?_ 4 _ rfl; (with_reducible repeat (first | refine blk_drewN ?_ _ | refine blk_drew ?_ | refine blk_alloc ?_ _)); refine blk_put (cs := #[.int .i64 t978, .int .i64 t979, .int .i64 t980, .int .i64 0, .int .i64 0, .int .i64 0, .int .i64 0, .int .i64 0, .int .i64 0]) ?_ 3 _ rfl; (with_reducible repeat (first | refine blk_drewN ?_ _ | refine blk_drew ?_ | refine blk_alloc ?_ _)); refine blk_put (cs := #[.int .i64 t978, .int .i64 t979, .int .i64 0, .int .i64 0, .int .i64 0, .int .i64 0, .int .i64 0, .int .i64 0, .int .i64 0]) ?_ 2 _ rfl; (with_reducible repeat (first | refine blk_drewN ?_ _ | refine blk_drew ?_ | refine blk_alloc ?_ _)); refine blk_put (cs := #[.int .i64 t978, .int .i64 0, .int .i64 0, .int .i64 0, .int .i64 0, .int .i64 0, .int .i64 0, .int .i64 0, .int .i64 0]) ?_ 1 _ rfl; (with_reducible repeat (first | refine blk_drewN ?_ _ | refine blk_drew ?_ | refine blk_alloc ?_ _)); refine blk_put (cs := #[.int .i64 0, .int .i64 0, .int .i64 0, .int .i64 0, .int .i64 0, .int .i64 0, .int .i64 0, .int .i64 0, .int .i64 0]) ?_ 0 _ rfl; (with_reducible repeat (first | refine blk_drewN ?_ _ | refine blk_drew ?_ | refine blk_alloc ?_ _)); exact BK988.out⟩, ⟨by repeat (first | (with_reducible first | exact HB.out | apply below_alloc | apply pw_below_drewN | apply below_drew1 | refine below_set ?_ GE973.out | refine below_set ?_ GE988.out) | exact HB.out)⟩⟩
            · replace c19 := Bool.eq_false_iff.mpr c19
              subst c19
              have H1 : (laws_FnPushed.j1 k1 t974 t975 false x9_1 t987 (t987 != false) t964 t965 t966 t967 t968 t969 t970 t971 t972 t978 t979 t980 t981 t982 t983 t984 t985 t986) = some r := by rw [if_neg (show ¬ (false = true) by decide)] at H; exact H
              clear H
              have H := H1
              clear H1
              have H' := Aside0.mk H
              clear H
              go_wp2
              go_meet
              case rel => exact ⟨_, ((t987 != false)), (by first | rfl | (simp; done) | (simp [*]; done)), H', ⟨by have := HK1.out; first | omega | exact Nat.le_refl _⟩, ⟨by (with_reducible repeat (first | refine blk_drewN ?_ _ | refine blk_drew ?_ | refine blk_alloc ?_ _)); refine blk_far ?_ NB973_988.out _; (with_reducible repeat (first | refine blk_drewN ?_ _ | refine blk_drew ?_ | refine blk_alloc ?_ _)); refine blk_far ?_ NB973_988.out _; (with_reducible repeat (first | refine blk_drewN ?_ _ | refine blk_drew ?_ | refine blk_alloc ?_ _)); refine blk_far ?_ NB973_988.out _; (with_reducible repeat (first | refine blk_drewN ?_ _ | refine blk_drew ?_ | refine blk_alloc ?_ _)); refine blk_far ?_ NB973_988.out _; (with_reducible repeat (first | refine blk_drewN ?_ _ | refine blk_drew ?_ | refine blk_alloc ?_ _)); refine blk_far ?_ NB973_988.out _; (with_reducible repeat (first | refine blk_drewN ?_ _ | refine blk_drew ?_ | refine blk_alloc ?_ _)); refine blk_far ?_ NB973_988.out _; (with_reducible repeat (first | refine blk_drewN ?_ _ | refine blk_drew ?_ | refine blk_alloc ?_ _)); refine blk_far ?_ NB973_988.out _; (with_reducible repeat (first | refine blk_drewN ?_ _ | refine blk_drew ?_ | refine blk_alloc ?_ _)); refine blk_far ?_ NB973_988.out _; (with_reducible repeat (first | refine blk_drewN ?_ _ | refine blk_drew ?_ | refine blk_alloc ?_ _)); refine blk_far ?_ NB973_988.out _; (with_reducible repeat (first | refine blk_drewN ?_ _ | refine blk_drew ?_ | refine blk_alloc ?_ _)); exact BK973.out⟩, ⟨by (with_reducible repeat (first | refine blk_drewN ?_ _ | refine blk_drew ?_ | refine blk_alloc ?_ _)); refine blk_put (cs := #[.int .i64 t978, .int .i64 t979, .int .i64 t980, .int .i64 t981, .int .i64 t982, .int .i64 t983, .int .i64 t984, .int .i64 t985, .int .i64 0]) ?_ 8 _ rfl; (with_reducible repeat (first | refine blk_drewN ?_ _ | refine blk_drew ?_ | refine blk_alloc ?_ _)); refine blk_put (cs := #[.int .i64 t978, .int .i64 t979, .int .i64 t980, .int .i64 t981, .int .i64 t982, .int .i64 t983, .int .i64 t984, .int .i64 0, .int .i64 0]) ?_ 7 _ rfl; (with_reducible repeat (first | refine blk_drewN ?_ _ | refine blk_drew ?_ | refine blk_alloc ?_ _)); refine blk_put (cs := #[.int .i64 t978, .int .i64 t979, .int .i64 t980, .int .i64 t981, .int .i64 t982, .int .i64 t983, .int .i64 0, .int .i64 0, .int .i64 0]) ?_ 6 _ rfl; (with_reducible repeat (first | refine blk_drewN ?_ _ | refine blk_drew ?_ | refine blk_alloc ?_ _)); refine blk_put (cs := #[.int .i64 t978, .int .i64 t979, .int .i64 t980, .int .i64 t981, .int .i64 t982, .int .i64 0, .int .i64 0, .int .i64 0, .int .i64 0]) ?_ 5 _ rfl; (with_reducible repeat (first | refine blk_drewN ?_ _ | refine blk_drew ?_ | refine blk_alloc ?_ _)); refine blk_put (cs := #[.int .i64 t978, .int .i64 t979, .int .i64 t980, .int .i64 t981, .int .i64 0, .int .i64 0, .int .i64 0, .int .i64 0, .int .i64 0]) ?_ 4 _ rfl; (with_reducible repeat (first | refine blk_drewN ?_ _ | refine blk_drew ?_ | refine blk_alloc ?_ _)); refine blk_put (cs := #[.int .i64 t978, .int .i64 t979, .int .i64 t980, .int .i64 0, .int .i64 0, .int .i64 0, .int .i64 0, .int .i64 0, .int .i64 0]) ?_ 3 _ rfl; (with_reducible repeat (first | refine blk_drewN ?_ _ | refine blk_drew ?_ | refine blk_alloc ?_ _)); refine blk_put (cs := #[.int .i64 t978, .int .i64 t979, .int .i64 0, .int .i64 0, .int .i64 0, .int .i64 0, .int .i64 0, .int .i64 0, .int .i64 0]) ?_ 2 _ rfl; (with_reducible repeat (first | refine blk_drewN ?_ _ | refine blk_drew ?_ | refine blk_alloc ?_ _)); refine blk_put (cs := #[.int .i64 t978, .int .i64 0, .int .i64 0, .int .i64 0, .int .i64 0, .int .i64 0, .int .i64 0, .int .i64 0, .int .i64 0]) ?_ 1 _ rfl; (with_reducible repeat (first | refine blk_drewN ?_ _ | refine blk_drew ?_ | refine blk_alloc ?_ _)); refine blk_put (cs := #[.int .i64 0, .int .i64 0, .int .i64 0, .int .i64 0, .int .i64 0, .int .i64 0, .int .i64 0, .int .i64 0, .int .i64 0]) ?_ 0 _ rfl; (with_reducible repeat (first | refine blk_drewN ?_ _ | refine blk_drew ?_ | refine blk_alloc ?_ _)); exact BK988.out⟩, ⟨by repeat (first | (with_reducible first | exact HB.out | apply below_alloc | apply pw_below_drewN | apply below_drew1 | refine below_set ?_ GE973.out | refine below_set ?_ GE988.out) | exact HB.out)⟩⟩
          case rest =>
            clear HC13
            try clear c1
            try clear c2
            try clear p2
            try clear c3
            try clear c4
            try clear c5
            try clear c11
            try clear c11b0
            try clear c16
            try clear c17
            try clear c19
            try clear c20
            try clear c20b0
            try clear hcz14_0
            try clear hcz14_1
            try clear hcz14_2
            try clear hcz14_3
            try clear hcz14_4
            try clear hcz14_5
            try clear hcz14_6
            try clear hcz14_7
            try clear hcz14_8
            try clear hcz18_0
            try clear hcz18_1
            try clear hcz18_2
            try clear hcz18_3
            try clear hcz18_4
            try clear hcz18_5
            try clear hcz18_6
            try clear hcz18_7
            try clear hcz18_8
            try clear hcz9_0
            try clear hcz9_1
            try clear hcz9_2
            try clear hcz9_3
            try clear hcz9_4
            try clear hcz9_5
            try clear hcz9_6
            try clear hcz9_7
            try clear hcz9_8
            try clear hfz14_0
            try clear hfz14_1
            try clear hfz14_2
            try clear hfz14_3
            try clear hfz14_4
            try clear hfz14_5
            try clear hfz14_6
            try clear hfz14_7
            try clear hfz14_8
            try clear hfz18_0
            try clear hfz18_1
            try clear hfz18_2
            try clear hfz18_3
            try clear hfz18_4
            try clear hfz18_5
            try clear hfz18_6
            try clear hfz18_7
            try clear hfz18_8
            try clear hfz9_0
            try clear hfz9_1
            try clear hfz9_2
            try clear hfz9_3
            try clear hfz9_4
            try clear hfz9_5
            try clear hfz9_6
            try clear hfz9_7
            try clear hfz9_8
            try clear p2
            obtain ⟨kq, x45_12, rfl, HA, HJ12, BK973, BK988, HB⟩ := hcut
            cases kq with
            | zero => exact absurd HA.out (by simp [laws_FnPushed.j1])
            | succ kj12 =>
              have H := HA.out
              clear HA
              simp only [laws_FnPushed.j1] at H
              by_cases c21 : x45_12 = true
              · subst c21
                have H1 : (some false) = some r := by rw [if_pos rfl] at H; exact H
                clear H
                have H := H1
                clear H1
                obtain rfl := Option.some.inj H
                go_wp2
                go_ret
                exact ⟨by first | rfl | (simp [errW_none, errW_some] <;> rfl) | (simp [*, errW_none, errW_some] <;> rfl), by repeat (first | (with_reducible first | exact HB.out | apply below_alloc | apply pw_below_drewN | apply below_drew1 | refine below_set ?_ GE973.out | refine below_set ?_ GE988.out) | exact HB.out)⟩
              · replace c21 := Bool.eq_false_iff.mpr c21
                subst c21
                have H1 : (if t987 = true then ((impl_ValidMachine.f t978 t979 t980 t981 t982 t983 t984 t985 t986).bind fun t989 => (if t989 = true then (if (!(t982 == t968) || (!(t983 == t969) || (!(t984 == t970) || (!(t985 == t971))))) = true then (some false) else (if t986 = (wrap64 (t972 + 1500)) then (laws_FnPushed.l0 kj12 t974 t975 t976 (wrap64 (x9_1 + 1)) t964 t965 t966 t967 t968 t969 t970 t971 t972) else (some false))) else (some false))) else (laws_FnPushed.l0 kj12 t974 t975 t976 (wrap64 (x9_1 + 1)) t964 t965 t966 t967 t968 t969 t970 t971 t972)) = some r := by rw [if_neg (show ¬ (false = true) by decide)] at H; exact H
                clear H
                have H := H1
                clear H1
                by_cases c22 : t987 = true
                · subst c22
                  have H1 : ((impl_ValidMachine.f t978 t979 t980 t981 t982 t983 t984 t985 t986).bind fun t989 => (if t989 = true then (if (!(t982 == t968) || (!(t983 == t969) || (!(t984 == t970) || (!(t985 == t971))))) = true then (some false) else (if t986 = (wrap64 (t972 + 1500)) then (laws_FnPushed.l0 kj12 t974 t975 t976 (wrap64 (x9_1 + 1)) t964 t965 t966 t967 t968 t969 t970 t971 t972) else (some false))) else (some false))) = some r := by rw [if_pos rfl] at H; exact H
                  clear H
                  have H := H1
                  clear H1
                  replace H := Option.bind_eq_some_iff.mp H
                  obtain ⟨t989, A230, H⟩ := H
                  replace H : (if t989 = true then (if (!(t982 == t968) || (!(t983 == t969) || (!(t984 == t970) || (!(t985 == t971))))) = true then (some false) else (if t986 = (wrap64 (t972 + 1500)) then (laws_FnPushed.l0 kj12 t974 t975 t976 (wrap64 (x9_1 + 1)) t964 t965 t966 t967 t968 t969 t970 t971 t972) else (some false))) else (some false)) = some r := H
                  have A23 := Aside0.mk A230
                  clear A230
                  by_cases c24 : t989 = true
                  · subst c24
                    have H1 : (if (!(t982 == t968) || (!(t983 == t969) || (!(t984 == t970) || (!(t985 == t971))))) = true then (some false) else (if t986 = (wrap64 (t972 + 1500)) then (laws_FnPushed.l0 kj12 t974 t975 t976 (wrap64 (x9_1 + 1)) t964 t965 t966 t967 t968 t969 t970 t971 t972) else (some false))) = some r := by rw [if_pos rfl] at H; exact H
                    clear H
                    have H := H1
                    clear H1
                    by_cases c25 : (!(t982 == t968) || (!(t983 == t969) || (!(t984 == t970) || (!(t985 == t971))))) = true
                    · rw [if_pos c25] at H
                      have c25b0 : (!(t982 == t968) || (!(t983 == t969) || (!(t984 == t970) || (!(t985 == t971))))) = true := c25
                      clear c25
                      obtain rfl := Option.some.inj H
                      have hnb26 := NB988_973.out
                      have hnc26 := NB973_988.out
                      have hcz27_0 : wc.cell? ⟨gb988, 0, none⟩ = some (.int .i64 t978) := (blk_cell BK988.out 0).trans rfl
                      have hcz27_1 : wc.cell? ⟨gb988, 1, none⟩ = some (.int .i64 t979) := (blk_cell BK988.out 1).trans rfl
                      have hcz27_2 : wc.cell? ⟨gb988, 2, none⟩ = some (.int .i64 t980) := (blk_cell BK988.out 2).trans rfl
                      have hcz27_3 : wc.cell? ⟨gb988, 3, none⟩ = some (.int .i64 t981) := (blk_cell BK988.out 3).trans rfl
                      have hcz27_4 : wc.cell? ⟨gb988, 4, none⟩ = some (.int .i64 t982) := (blk_cell BK988.out 4).trans rfl
                      have hcz27_5 : wc.cell? ⟨gb988, 5, none⟩ = some (.int .i64 t983) := (blk_cell BK988.out 5).trans rfl
                      have hcz27_6 : wc.cell? ⟨gb988, 6, none⟩ = some (.int .i64 t984) := (blk_cell BK988.out 6).trans rfl
                      have hcz27_7 : wc.cell? ⟨gb988, 7, none⟩ = some (.int .i64 t985) := (blk_cell BK988.out 7).trans rfl
                      have hcz27_8 : wc.cell? ⟨gb988, 8, none⟩ = some (.int .i64 t986) := (blk_cell BK988.out 8).trans rfl
                      have hfz27_0 := blk_frozen BK988.out 0
                      have hfz27_1 := blk_frozen BK988.out 1
                      have hfz27_2 := blk_frozen BK988.out 2
                      have hfz27_3 := blk_frozen BK988.out 3
                      have hfz27_4 := blk_frozen BK988.out 4
                      have hfz27_5 := blk_frozen BK988.out 5
                      have hfz27_6 := blk_frozen BK988.out 6
                      have hfz27_7 := blk_frozen BK988.out 7
                      have hfz27_8 := blk_frozen BK988.out 8
                      go_wp2_with (first | (go_at_call 39; (with_reducible refine (impl_ValidMachine.calls t978 t979 t980 t981 t982 t983 t984 t985 t986 true _ A23.out).mono ?_); rintro e w28 ⟨rfl, hb⟩; have n0_ := Aside0.mk (blk_below (g := gb973) (o := .cells #[.int .i64 t964, .int .i64 t965, .int .i64 t966, .int .i64 t967, .int .i64 t968, .int .i64 t969, .int .i64 t970, .int .i64 t971, .int .i64 t972] 58 (0, 0)) (by (with_reducible repeat (first | refine blk_drewN ?_ _ | refine blk_drew ?_ | refine blk_alloc ?_ _)); exact BK973.out) hb); have n1_ := Aside0.mk (blk_below (g := gb988) (o := .cells #[.int .i64 t978, .int .i64 t979, .int .i64 t980, .int .i64 t981, .int .i64 t982, .int .i64 t983, .int .i64 t984, .int .i64 t985, .int .i64 t986] 58 (0, 0)) (by (with_reducible repeat (first | refine blk_drewN ?_ _ | refine blk_drew ?_ | refine blk_alloc ?_ _)); exact BK988.out) hb); have n2_ := Aside0.mk (below_step (by repeat (first | (with_reducible first | exact HB.out | apply below_alloc | apply pw_below_drewN | apply below_drew1 | refine below_set ?_ GE973.out | refine below_set ?_ GE988.out) | exact HB.out)) hb); clear BK973; clear BK988; clear HB; have BK973 := n0_; have BK988 := n1_; have HB := n2_; clear n0_ n1_ n2_; (try clear hb); (try clear hb2); (try clear hk); (try clear hi); have hcz29_0 : w28.cell? ⟨gb988, 0, none⟩ = some (.int .i64 t978) := (blk_cell BK988.out 0).trans rfl; have hcz29_1 : w28.cell? ⟨gb988, 1, none⟩ = some (.int .i64 t979) := (blk_cell BK988.out 1).trans rfl; have hcz29_2 : w28.cell? ⟨gb988, 2, none⟩ = some (.int .i64 t980) := (blk_cell BK988.out 2).trans rfl; have hcz29_3 : w28.cell? ⟨gb988, 3, none⟩ = some (.int .i64 t981) := (blk_cell BK988.out 3).trans rfl; have hcz29_4 : w28.cell? ⟨gb988, 4, none⟩ = some (.int .i64 t982) := (blk_cell BK988.out 4).trans rfl; have hcz29_5 : w28.cell? ⟨gb988, 5, none⟩ = some (.int .i64 t983) := (blk_cell BK988.out 5).trans rfl; have hcz29_6 : w28.cell? ⟨gb988, 6, none⟩ = some (.int .i64 t984) := (blk_cell BK988.out 6).trans rfl; have hcz29_7 : w28.cell? ⟨gb988, 7, none⟩ = some (.int .i64 t985) := (blk_cell BK988.out 7).trans rfl; have hcz29_8 : w28.cell? ⟨gb988, 8, none⟩ = some (.int .i64 t986) := (blk_cell BK988.out 8).trans rfl; have hfz29_0 := blk_frozen BK988.out 0; have hfz29_1 := blk_frozen BK988.out 1; have hfz29_2 := blk_frozen BK988.out 2; have hfz29_3 := blk_frozen BK988.out 3; have hfz29_4 := blk_frozen BK988.out 4; have hfz29_5 := blk_frozen BK988.out 5; have hfz29_6 := blk_frozen BK988.out 6; have hfz29_7 := blk_frozen BK988.out 7; have hfz29_8 := blk_frozen BK988.out 8; have hcz30_0 : w28.cell? ⟨gb973, 0, none⟩ = some (.int .i64 t964) := (blk_cell BK973.out 0).trans rfl; have hcz30_1 : w28.cell? ⟨gb973, 1, none⟩ = some (.int .i64 t965) := (blk_cell BK973.out 1).trans rfl; have hcz30_2 : w28.cell? ⟨gb973, 2, none⟩ = some (.int .i64 t966) := (blk_cell BK973.out 2).trans rfl; have hcz30_3 : w28.cell? ⟨gb973, 3, none⟩ = some (.int .i64 t967) := (blk_cell BK973.out 3).trans rfl; have hcz30_4 : w28.cell? ⟨gb973, 4, none⟩ = some (.int .i64 t968) := (blk_cell BK973.out 4).trans rfl; have hcz30_5 : w28.cell? ⟨gb973, 5, none⟩ = some (.int .i64 t969) := (blk_cell BK973.out 5).trans rfl; have hcz30_6 : w28.cell? ⟨gb973, 6, none⟩ = some (.int .i64 t970) := (blk_cell BK973.out 6).trans rfl; have hcz30_7 : w28.cell? ⟨gb973, 7, none⟩ = some (.int .i64 t971) := (blk_cell BK973.out 7).trans rfl; have hcz30_8 : w28.cell? ⟨gb973, 8, none⟩ = some (.int .i64 t972) := (blk_cell BK973.out 8).trans rfl; have hfz30_0 := blk_frozen BK973.out 0; have hfz30_1 := blk_frozen BK973.out 1; have hfz30_2 := blk_frozen BK973.out 2; have hfz30_3 := blk_frozen BK973.out 3; have hfz30_4 := blk_frozen BK973.out 4; have hfz30_5 := blk_frozen BK973.out 5; have hfz30_6 := blk_frozen BK973.out 6; have hfz30_7 := blk_frozen BK973.out 7; have hfz30_8 := blk_frozen BK973.out 8))
                      go_ret
                      exact ⟨by first | rfl | (simp [errW_none, errW_some] <;> rfl) | (simp [*, errW_none, errW_some] <;> rfl), by repeat (first | (with_reducible first | exact HB.out | apply below_alloc | apply pw_below_drewN | apply below_drew1 | refine below_set ?_ GE973.out | refine below_set ?_ GE988.out) | exact HB.out)⟩
                    · rw [if_neg c25] at H
                      have c25b0 : (!(t982 == t968) || (!(t983 == t969) || (!(t984 == t970) || (!(t985 == t971))))) = false := by simpa using c25
                      clear c25
                      by_cases c31 : t986 = (wrap64 (t972 + 1500))
                      · rw [if_pos c31] at H
                        have c31b0 : (t986 == (wrap64 (t972 + 1500))) = true := beq_iff_eq.mpr c31
                        have c31b1 : (t986 != (wrap64 (t972 + 1500))) = false := bne_eq_false_iff_eq.mpr c31
                        clear c31
                        have H' := Aside0.mk H
                        clear H
                        have hnb32 := NB988_973.out
                        have hnc32 := NB973_988.out
                        have hcz33_0 : wc.cell? ⟨gb988, 0, none⟩ = some (.int .i64 t978) := (blk_cell BK988.out 0).trans rfl
                        have hcz33_1 : wc.cell? ⟨gb988, 1, none⟩ = some (.int .i64 t979) := (blk_cell BK988.out 1).trans rfl
                        have hcz33_2 : wc.cell? ⟨gb988, 2, none⟩ = some (.int .i64 t980) := (blk_cell BK988.out 2).trans rfl
                        have hcz33_3 : wc.cell? ⟨gb988, 3, none⟩ = some (.int .i64 t981) := (blk_cell BK988.out 3).trans rfl
                        have hcz33_4 : wc.cell? ⟨gb988, 4, none⟩ = some (.int .i64 t982) := (blk_cell BK988.out 4).trans rfl
                        have hcz33_5 : wc.cell? ⟨gb988, 5, none⟩ = some (.int .i64 t983) := (blk_cell BK988.out 5).trans rfl
                        have hcz33_6 : wc.cell? ⟨gb988, 6, none⟩ = some (.int .i64 t984) := (blk_cell BK988.out 6).trans rfl
                        have hcz33_7 : wc.cell? ⟨gb988, 7, none⟩ = some (.int .i64 t985) := (blk_cell BK988.out 7).trans rfl
                        have hcz33_8 : wc.cell? ⟨gb988, 8, none⟩ = some (.int .i64 t986) := (blk_cell BK988.out 8).trans rfl
                        have hfz33_0 := blk_frozen BK988.out 0
                        have hfz33_1 := blk_frozen BK988.out 1
                        have hfz33_2 := blk_frozen BK988.out 2
                        have hfz33_3 := blk_frozen BK988.out 3
                        have hfz33_4 := blk_frozen BK988.out 4
                        have hfz33_5 := blk_frozen BK988.out 5
                        have hfz33_6 := blk_frozen BK988.out 6
                        have hfz33_7 := blk_frozen BK988.out 7
                        have hfz33_8 := blk_frozen BK988.out 8
                        go_wp2_with (first | (go_at_call 39; (with_reducible refine (impl_ValidMachine.calls t978 t979 t980 t981 t982 t983 t984 t985 t986 true _ A23.out).mono ?_); rintro e w34 ⟨rfl, hb⟩; have n0_ := Aside0.mk (blk_below (g := gb973) (o := .cells #[.int .i64 t964, .int .i64 t965, .int .i64 t966, .int .i64 t967, .int .i64 t968, .int .i64 t969, .int .i64 t970, .int .i64 t971, .int .i64 t972] 58 (0, 0)) (by (with_reducible repeat (first | refine blk_drewN ?_ _ | refine blk_drew ?_ | refine blk_alloc ?_ _)); exact BK973.out) hb); have n1_ := Aside0.mk (blk_below (g := gb988) (o := .cells #[.int .i64 t978, .int .i64 t979, .int .i64 t980, .int .i64 t981, .int .i64 t982, .int .i64 t983, .int .i64 t984, .int .i64 t985, .int .i64 t986] 58 (0, 0)) (by (with_reducible repeat (first | refine blk_drewN ?_ _ | refine blk_drew ?_ | refine blk_alloc ?_ _)); exact BK988.out) hb); have n2_ := Aside0.mk (below_step (by repeat (first | (with_reducible first | exact HB.out | apply below_alloc | apply pw_below_drewN | apply below_drew1 | refine below_set ?_ GE973.out | refine below_set ?_ GE988.out) | exact HB.out)) hb); clear BK973; clear BK988; clear HB; have BK973 := n0_; have BK988 := n1_; have HB := n2_; clear n0_ n1_ n2_; (try clear hb); (try clear hb2); (try clear hk); (try clear hi); have hcz35_0 : w34.cell? ⟨gb988, 0, none⟩ = some (.int .i64 t978) := (blk_cell BK988.out 0).trans rfl; have hcz35_1 : w34.cell? ⟨gb988, 1, none⟩ = some (.int .i64 t979) := (blk_cell BK988.out 1).trans rfl; have hcz35_2 : w34.cell? ⟨gb988, 2, none⟩ = some (.int .i64 t980) := (blk_cell BK988.out 2).trans rfl; have hcz35_3 : w34.cell? ⟨gb988, 3, none⟩ = some (.int .i64 t981) := (blk_cell BK988.out 3).trans rfl; have hcz35_4 : w34.cell? ⟨gb988, 4, none⟩ = some (.int .i64 t982) := (blk_cell BK988.out 4).trans rfl; have hcz35_5 : w34.cell? ⟨gb988, 5, none⟩ = some (.int .i64 t983) := (blk_cell BK988.out 5).trans rfl; have hcz35_6 : w34.cell? ⟨gb988, 6, none⟩ = some (.int .i64 t984) := (blk_cell BK988.out 6).trans rfl; have hcz35_7 : w34.cell? ⟨gb988, 7, none⟩ = some (.int .i64 t985) := (blk_cell BK988.out 7).trans rfl; have hcz35_8 : w34.cell? ⟨gb988, 8, none⟩ = some (.int .i64 t986) := (blk_cell BK988.out 8).trans rfl; have hfz35_0 := blk_frozen BK988.out 0; have hfz35_1 := blk_frozen BK988.out 1; have hfz35_2 := blk_frozen BK988.out 2; have hfz35_3 := blk_frozen BK988.out 3; have hfz35_4 := blk_frozen BK988.out 4; have hfz35_5 := blk_frozen BK988.out 5; have hfz35_6 := blk_frozen BK988.out 6; have hfz35_7 := blk_frozen BK988.out 7; have hfz35_8 := blk_frozen BK988.out 8; have hcz36_0 : w34.cell? ⟨gb973, 0, none⟩ = some (.int .i64 t964) := (blk_cell BK973.out 0).trans rfl; have hcz36_1 : w34.cell? ⟨gb973, 1, none⟩ = some (.int .i64 t965) := (blk_cell BK973.out 1).trans rfl; have hcz36_2 : w34.cell? ⟨gb973, 2, none⟩ = some (.int .i64 t966) := (blk_cell BK973.out 2).trans rfl; have hcz36_3 : w34.cell? ⟨gb973, 3, none⟩ = some (.int .i64 t967) := (blk_cell BK973.out 3).trans rfl; have hcz36_4 : w34.cell? ⟨gb973, 4, none⟩ = some (.int .i64 t968) := (blk_cell BK973.out 4).trans rfl; have hcz36_5 : w34.cell? ⟨gb973, 5, none⟩ = some (.int .i64 t969) := (blk_cell BK973.out 5).trans rfl; have hcz36_6 : w34.cell? ⟨gb973, 6, none⟩ = some (.int .i64 t970) := (blk_cell BK973.out 6).trans rfl; have hcz36_7 : w34.cell? ⟨gb973, 7, none⟩ = some (.int .i64 t971) := (blk_cell BK973.out 7).trans rfl; have hcz36_8 : w34.cell? ⟨gb973, 8, none⟩ = some (.int .i64 t972) := (blk_cell BK973.out 8).trans rfl; have hfz36_0 := blk_frozen BK973.out 0; have hfz36_1 := blk_frozen BK973.out 1; have hfz36_2 := blk_frozen BK973.out 2; have hfz36_3 := blk_frozen BK973.out 3; have hfz36_4 := blk_frozen BK973.out 4; have hfz36_5 := blk_frozen BK973.out 5; have hfz36_6 := blk_frozen BK973.out 6; have hfz36_7 := blk_frozen BK973.out 7; have hfz36_8 := blk_frozen BK973.out 8))
                        go_roundg kj12
                        case measure => have := HK1.out; have := HJ12.out; omega
                        case rel => exact ⟨(wrap64 (x9_1 + 1)), (by first | rfl | (simp; done) | (simp [*]; done)), H', ⟨by have := HK1.out; have := HJ12.out; omega⟩, ⟨by (with_reducible repeat (first | refine blk_drewN ?_ _ | refine blk_drew ?_ | refine blk_alloc ?_ _)); exact BK973.out⟩, ⟨by repeat (first | (with_reducible first | exact HB.out | apply below_alloc | apply pw_below_drewN | apply below_drew1 | refine below_set ?_ GE973.out | refine below_set ?_ GE988.out) | exact HB.out)⟩⟩
                      · rw [if_neg c31] at H
                        have c31b0 : (t986 == (wrap64 (t972 + 1500))) = false := beq_eq_false_iff_ne.mpr c31
                        have c31b1 : (t986 != (wrap64 (t972 + 1500))) = true := bne_iff_ne.mpr c31
                        obtain rfl := Option.some.inj H
                        have hnb37 := NB988_973.out
                        have hnc37 := NB973_988.out
                        have hcz38_0 : wc.cell? ⟨gb988, 0, none⟩ = some (.int .i64 t978) := (blk_cell BK988.out 0).trans rfl
                        have hcz38_1 : wc.cell? ⟨gb988, 1, none⟩ = some (.int .i64 t979) := (blk_cell BK988.out 1).trans rfl
                        have hcz38_2 : wc.cell? ⟨gb988, 2, none⟩ = some (.int .i64 t980) := (blk_cell BK988.out 2).trans rfl
                        have hcz38_3 : wc.cell? ⟨gb988, 3, none⟩ = some (.int .i64 t981) := (blk_cell BK988.out 3).trans rfl
                        have hcz38_4 : wc.cell? ⟨gb988, 4, none⟩ = some (.int .i64 t982) := (blk_cell BK988.out 4).trans rfl
                        have hcz38_5 : wc.cell? ⟨gb988, 5, none⟩ = some (.int .i64 t983) := (blk_cell BK988.out 5).trans rfl
                        have hcz38_6 : wc.cell? ⟨gb988, 6, none⟩ = some (.int .i64 t984) := (blk_cell BK988.out 6).trans rfl
                        have hcz38_7 : wc.cell? ⟨gb988, 7, none⟩ = some (.int .i64 t985) := (blk_cell BK988.out 7).trans rfl
                        have hcz38_8 : wc.cell? ⟨gb988, 8, none⟩ = some (.int .i64 t986) := (blk_cell BK988.out 8).trans rfl
                        have hfz38_0 := blk_frozen BK988.out 0
                        have hfz38_1 := blk_frozen BK988.out 1
                        have hfz38_2 := blk_frozen BK988.out 2
                        have hfz38_3 := blk_frozen BK988.out 3
                        have hfz38_4 := blk_frozen BK988.out 4
                        have hfz38_5 := blk_frozen BK988.out 5
                        have hfz38_6 := blk_frozen BK988.out 6
                        have hfz38_7 := blk_frozen BK988.out 7
                        have hfz38_8 := blk_frozen BK988.out 8
                        go_wp2_with (first | (go_at_call 39; (with_reducible refine (impl_ValidMachine.calls t978 t979 t980 t981 t982 t983 t984 t985 t986 true _ A23.out).mono ?_); rintro e w39 ⟨rfl, hb⟩; have n0_ := Aside0.mk (blk_below (g := gb973) (o := .cells #[.int .i64 t964, .int .i64 t965, .int .i64 t966, .int .i64 t967, .int .i64 t968, .int .i64 t969, .int .i64 t970, .int .i64 t971, .int .i64 t972] 58 (0, 0)) (by (with_reducible repeat (first | refine blk_drewN ?_ _ | refine blk_drew ?_ | refine blk_alloc ?_ _)); exact BK973.out) hb); have n1_ := Aside0.mk (blk_below (g := gb988) (o := .cells #[.int .i64 t978, .int .i64 t979, .int .i64 t980, .int .i64 t981, .int .i64 t982, .int .i64 t983, .int .i64 t984, .int .i64 t985, .int .i64 t986] 58 (0, 0)) (by (with_reducible repeat (first | refine blk_drewN ?_ _ | refine blk_drew ?_ | refine blk_alloc ?_ _)); exact BK988.out) hb); have n2_ := Aside0.mk (below_step (by repeat (first | (with_reducible first | exact HB.out | apply below_alloc | apply pw_below_drewN | apply below_drew1 | refine below_set ?_ GE973.out | refine below_set ?_ GE988.out) | exact HB.out)) hb); clear BK973; clear BK988; clear HB; have BK973 := n0_; have BK988 := n1_; have HB := n2_; clear n0_ n1_ n2_; (try clear hb); (try clear hb2); (try clear hk); (try clear hi); have hcz40_0 : w39.cell? ⟨gb988, 0, none⟩ = some (.int .i64 t978) := (blk_cell BK988.out 0).trans rfl; have hcz40_1 : w39.cell? ⟨gb988, 1, none⟩ = some (.int .i64 t979) := (blk_cell BK988.out 1).trans rfl; have hcz40_2 : w39.cell? ⟨gb988, 2, none⟩ = some (.int .i64 t980) := (blk_cell BK988.out 2).trans rfl; have hcz40_3 : w39.cell? ⟨gb988, 3, none⟩ = some (.int .i64 t981) := (blk_cell BK988.out 3).trans rfl; have hcz40_4 : w39.cell? ⟨gb988, 4, none⟩ = some (.int .i64 t982) := (blk_cell BK988.out 4).trans rfl; have hcz40_5 : w39.cell? ⟨gb988, 5, none⟩ = some (.int .i64 t983) := (blk_cell BK988.out 5).trans rfl; have hcz40_6 : w39.cell? ⟨gb988, 6, none⟩ = some (.int .i64 t984) := (blk_cell BK988.out 6).trans rfl; have hcz40_7 : w39.cell? ⟨gb988, 7, none⟩ = some (.int .i64 t985) := (blk_cell BK988.out 7).trans rfl; have hcz40_8 : w39.cell? ⟨gb988, 8, none⟩ = some (.int .i64 t986) := (blk_cell BK988.out 8).trans rfl; have hfz40_0 := blk_frozen BK988.out 0; have hfz40_1 := blk_frozen BK988.out 1; have hfz40_2 := blk_frozen BK988.out 2; have hfz40_3 := blk_frozen BK988.out 3; have hfz40_4 := blk_frozen BK988.out 4; have hfz40_5 := blk_frozen BK988.out 5; have hfz40_6 := blk_frozen BK988.out 6; have hfz40_7 := blk_frozen BK988.out 7; have hfz40_8 := blk_frozen BK988.out 8; have hcz41_0 : w39.cell? ⟨gb973, 0, none⟩ = some (.int .i64 t964) := (blk_cell BK973.out 0).trans rfl; have hcz41_1 : w39.cell? ⟨gb973, 1, none⟩ = some (.int .i64 t965) := (blk_cell BK973.out 1).trans rfl; have hcz41_2 : w39.cell? ⟨gb973, 2, none⟩ = some (.int .i64 t966) := (blk_cell BK973.out 2).trans rfl; have hcz41_3 : w39.cell? ⟨gb973, 3, none⟩ = some (.int .i64 t967) := (blk_cell BK973.out 3).trans rfl; have hcz41_4 : w39.cell? ⟨gb973, 4, none⟩ = some (.int .i64 t968) := (blk_cell BK973.out 4).trans rfl; have hcz41_5 : w39.cell? ⟨gb973, 5, none⟩ = some (.int .i64 t969) := (blk_cell BK973.out 5).trans rfl; have hcz41_6 : w39.cell? ⟨gb973, 6, none⟩ = some (.int .i64 t970) := (blk_cell BK973.out 6).trans rfl; have hcz41_7 : w39.cell? ⟨gb973, 7, none⟩ = some (.int .i64 t971) := (blk_cell BK973.out 7).trans rfl; have hcz41_8 : w39.cell? ⟨gb973, 8, none⟩ = some (.int .i64 t972) := (blk_cell BK973.out 8).trans rfl; have hfz41_0 := blk_frozen BK973.out 0; have hfz41_1 := blk_frozen BK973.out 1; have hfz41_2 := blk_frozen BK973.out 2; have hfz41_3 := blk_frozen BK973.out 3; have hfz41_4 := blk_frozen BK973.out 4; have hfz41_5 := blk_frozen BK973.out 5; have hfz41_6 := blk_frozen BK973.out 6; have hfz41_7 := blk_frozen BK973.out 7; have hfz41_8 := blk_frozen BK973.out 8))
                        go_ret
                        exact ⟨by first | rfl | (simp [errW_none, errW_some] <;> rfl) | (simp [*, errW_none, errW_some] <;> rfl), by repeat (first | (with_reducible first | exact HB.out | apply below_alloc | apply pw_below_drewN | apply below_drew1 | refine below_set ?_ GE973.out | refine below_set ?_ GE988.out) | exact HB.out)⟩
                  · replace c24 := Bool.eq_false_iff.mpr c24
                    subst c24
                    have H1 : (some false) = some r := by rw [if_neg (show ¬ (false = true) by decide)] at H; exact H
                    clear H
                    have H := H1
                    clear H1
                    obtain rfl := Option.some.inj H
                    have hnb42 := NB988_973.out
                    have hnc42 := NB973_988.out
                    have hcz43_0 : wc.cell? ⟨gb988, 0, none⟩ = some (.int .i64 t978) := (blk_cell BK988.out 0).trans rfl
                    have hcz43_1 : wc.cell? ⟨gb988, 1, none⟩ = some (.int .i64 t979) := (blk_cell BK988.out 1).trans rfl
                    have hcz43_2 : wc.cell? ⟨gb988, 2, none⟩ = some (.int .i64 t980) := (blk_cell BK988.out 2).trans rfl
                    have hcz43_3 : wc.cell? ⟨gb988, 3, none⟩ = some (.int .i64 t981) := (blk_cell BK988.out 3).trans rfl
                    have hcz43_4 : wc.cell? ⟨gb988, 4, none⟩ = some (.int .i64 t982) := (blk_cell BK988.out 4).trans rfl
                    have hcz43_5 : wc.cell? ⟨gb988, 5, none⟩ = some (.int .i64 t983) := (blk_cell BK988.out 5).trans rfl
                    have hcz43_6 : wc.cell? ⟨gb988, 6, none⟩ = some (.int .i64 t984) := (blk_cell BK988.out 6).trans rfl
                    have hcz43_7 : wc.cell? ⟨gb988, 7, none⟩ = some (.int .i64 t985) := (blk_cell BK988.out 7).trans rfl
                    have hcz43_8 : wc.cell? ⟨gb988, 8, none⟩ = some (.int .i64 t986) := (blk_cell BK988.out 8).trans rfl
                    have hfz43_0 := blk_frozen BK988.out 0
                    have hfz43_1 := blk_frozen BK988.out 1
                    have hfz43_2 := blk_frozen BK988.out 2
                    have hfz43_3 := blk_frozen BK988.out 3
                    have hfz43_4 := blk_frozen BK988.out 4
                    have hfz43_5 := blk_frozen BK988.out 5
                    have hfz43_6 := blk_frozen BK988.out 6
                    have hfz43_7 := blk_frozen BK988.out 7
                    have hfz43_8 := blk_frozen BK988.out 8
                    go_wp2_with (first | (go_at_call 39; (with_reducible refine (impl_ValidMachine.calls t978 t979 t980 t981 t982 t983 t984 t985 t986 false _ A23.out).mono ?_); rintro e w44 ⟨rfl, hb⟩; have n0_ := Aside0.mk (blk_below (g := gb973) (o := .cells #[.int .i64 t964, .int .i64 t965, .int .i64 t966, .int .i64 t967, .int .i64 t968, .int .i64 t969, .int .i64 t970, .int .i64 t971, .int .i64 t972] 58 (0, 0)) (by (with_reducible repeat (first | refine blk_drewN ?_ _ | refine blk_drew ?_ | refine blk_alloc ?_ _)); exact BK973.out) hb); have n1_ := Aside0.mk (blk_below (g := gb988) (o := .cells #[.int .i64 t978, .int .i64 t979, .int .i64 t980, .int .i64 t981, .int .i64 t982, .int .i64 t983, .int .i64 t984, .int .i64 t985, .int .i64 t986] 58 (0, 0)) (by (with_reducible repeat (first | refine blk_drewN ?_ _ | refine blk_drew ?_ | refine blk_alloc ?_ _)); exact BK988.out) hb); have n2_ := Aside0.mk (below_step (by repeat (first | (with_reducible first | exact HB.out | apply below_alloc | apply pw_below_drewN | apply below_drew1 | refine below_set ?_ GE973.out | refine below_set ?_ GE988.out) | exact HB.out)) hb); clear BK973; clear BK988; clear HB; have BK973 := n0_; have BK988 := n1_; have HB := n2_; clear n0_ n1_ n2_; (try clear hb); (try clear hb2); (try clear hk); (try clear hi)))
                    go_ret
                    exact ⟨by first | rfl | (simp [errW_none, errW_some] <;> rfl) | (simp [*, errW_none, errW_some] <;> rfl), by repeat (first | (with_reducible first | exact HB.out | apply below_alloc | apply pw_below_drewN | apply below_drew1 | refine below_set ?_ GE973.out | refine below_set ?_ GE988.out) | exact HB.out)⟩
                · replace c22 := Bool.eq_false_iff.mpr c22
                  subst c22
                  have H1 : (laws_FnPushed.l0 kj12 t974 t975 t976 (wrap64 (x9_1 + 1)) t964 t965 t966 t967 t968 t969 t970 t971 t972) = some r := by rw [if_neg (show ¬ (false = true) by decide)] at H; exact H
                  clear H
                  have H := H1
                  clear H1
                  have H' := Aside0.mk H
                  clear H
                  go_wp2
                  go_roundg kj12
                  case measure => have := HK1.out; have := HJ12.out; omega
                  case rel => exact ⟨(wrap64 (x9_1 + 1)), (by first | rfl | (simp; done) | (simp [*]; done)), H', ⟨by have := HK1.out; have := HJ12.out; omega⟩, ⟨by (with_reducible repeat (first | refine blk_drewN ?_ _ | refine blk_drew ?_ | refine blk_alloc ?_ _)); exact BK973.out⟩, ⟨by repeat (first | (with_reducible first | exact HB.out | apply below_alloc | apply pw_below_drewN | apply below_drew1 | refine below_set ?_ GE973.out | refine below_set ?_ GE988.out) | exact HB.out)⟩⟩
        · rw [if_neg c11] at H
          have c11b0 : decide (x9_1 ≤ 13) = false := decide_eq_false c11
          clear c11
          replace H := Option.bind_eq_some_iff.mp H
          obtain ⟨t977, A450, H⟩ := H
          replace H : (some t977) = some r := H
          have A45 := Aside0.mk A450
          clear A450
          obtain rfl := Option.some.inj H
          have hcz46_0 : wr.cell? ⟨gb973, 0, none⟩ = some (.int .i64 t964) := (blk_cell BK973.out 0).trans rfl
          have hcz46_1 : wr.cell? ⟨gb973, 1, none⟩ = some (.int .i64 t965) := (blk_cell BK973.out 1).trans rfl
          have hcz46_2 : wr.cell? ⟨gb973, 2, none⟩ = some (.int .i64 t966) := (blk_cell BK973.out 2).trans rfl
          have hcz46_3 : wr.cell? ⟨gb973, 3, none⟩ = some (.int .i64 t967) := (blk_cell BK973.out 3).trans rfl
          have hcz46_4 : wr.cell? ⟨gb973, 4, none⟩ = some (.int .i64 t968) := (blk_cell BK973.out 4).trans rfl
          have hcz46_5 : wr.cell? ⟨gb973, 5, none⟩ = some (.int .i64 t969) := (blk_cell BK973.out 5).trans rfl
          have hcz46_6 : wr.cell? ⟨gb973, 6, none⟩ = some (.int .i64 t970) := (blk_cell BK973.out 6).trans rfl
          have hcz46_7 : wr.cell? ⟨gb973, 7, none⟩ = some (.int .i64 t971) := (blk_cell BK973.out 7).trans rfl
          have hcz46_8 : wr.cell? ⟨gb973, 8, none⟩ = some (.int .i64 t972) := (blk_cell BK973.out 8).trans rfl
          have hfz46_0 := blk_frozen BK973.out 0
          have hfz46_1 := blk_frozen BK973.out 1
          have hfz46_2 := blk_frozen BK973.out 2
          have hfz46_3 := blk_frozen BK973.out 3
          have hfz46_4 := blk_frozen BK973.out 4
          have hfz46_5 := blk_frozen BK973.out 5
          have hfz46_6 := blk_frozen BK973.out 6
          have hfz46_7 := blk_frozen BK973.out 7
          have hfz46_8 := blk_frozen BK973.out 8
          go_wp2_with (first | ((with_reducible refine gate_callee (f := 39) rfl ?_); refine goesL_ (some 68) rfl rfl Try.func39 (by kernel_rfl) rfl #[.agg #[.int .i64 t964, .int .i64 t965, .int .i64 t966, .int .i64 t967, .int .i64 t968, .int .i64 t969, .int .i64 t970, .int .i64 t971, .int .i64 t972]] rfl (by (try simp only [List.map_toArray, List.map_cons, List.map_nil]); first | done | rfl | (simp only [List.length_drop, List.length_take]; rfl)) ?_; (with_reducible refine (impl_ValidMachine.calls t964 t965 t966 t967 t968 t969 t970 t971 t972 t977 _ A45.out).mono ?_); rintro e w47 ⟨rfl, hb⟩; refine ⟨_, rfl, ?_⟩; have n0_ := Aside0.mk (blk_below (g := gb973) (o := .cells #[.int .i64 t964, .int .i64 t965, .int .i64 t966, .int .i64 t967, .int .i64 t968, .int .i64 t969, .int .i64 t970, .int .i64 t971, .int .i64 t972] 58 (0, 0)) (by (with_reducible repeat (first | refine blk_drewN ?_ _ | refine blk_drew ?_ | refine blk_alloc ?_ _)); exact BK973.out) hb); have n1_ := Aside0.mk (below_step (by repeat (first | (with_reducible first | exact HB.out | apply below_alloc | apply pw_below_drewN | apply below_drew1 | refine below_set ?_ GE973.out) | exact HB.out)) hb); clear BK973; clear HB; have BK973 := n0_; have HB := n1_; clear n0_ n1_; (try clear hb); (try clear hb2); (try clear hk); (try clear hi)))
          go_ret
          exact ⟨by first | rfl | (simp [errW_none, errW_some] <;> rfl) | (simp [*, errW_none, errW_some] <;> rfl), by repeat (first | (with_reducible first | exact HB.out | apply below_alloc | apply pw_below_drewN | apply below_drew1 | refine below_set ?_ GE973.out) | exact HB.out)⟩

/-- THE ONE PURE STATEMENT of laws_FnPushed: yours. -/
def laws_FnPushed.Pure : Prop := ∀ (l0 : List Int) (l1 : List Int), l0.length ≤ maxLen → l0.length * 1 ≤ 140737488351232 → (∀ x ∈ l0, (Lit.int .u8 x).wf = true) → l1.length ≤ maxLen → l1.length * 1 ≤ 140737488351232 → (∀ x ∈ l1, (Lit.int .u8 x).wf = true) → ∃ k, laws_FnPushed.f k l0 l1 = some true
theorem laws_FnPushed.walk (P : laws_FnPushed.Pure) (a0 : Option Addr) (len0 cap0 : Nat) (z0 : List Int) (a1 : Option Addr) (len1 cap1 : Nat) (z1 : List Int) (w : World) (w0 : (a0 = none ∧ len0 = 0 ∧ cap0 = 0 ∧ z0 = []) ∨ ∃ x, a0 = some x ∧ len0 ≤ cap0 ∧ cap0 ≤ maxLen ∧ z0.length = cap0 ∧ (∀ i, i < z0.length → w.cell? (x.add i) = some (.int .u8 (z0.getD i 0))) ∧ ∀ n ∈ z0, (Lit.int .u8 n).wf = true) (y0 : len0 * 1 ≤ 140737488351232) (w1 : (a1 = none ∧ len1 = 0 ∧ cap1 = 0 ∧ z1 = []) ∨ ∃ x, a1 = some x ∧ len1 ≤ cap1 ∧ cap1 ≤ maxLen ∧ z1.length = cap1 ∧ (∀ i, i < z1.length → w.cell? (x.add i) = some (.int .u8 (z1.getD i 0))) ∧ ∀ n ∈ z1, (Lit.int .u8 n).wf = true) (y1 : len1 * 1 ≤ 140737488351232) :
    Calls Try.prog 16 #[.slice a0 len0 cap0, .slice a1 len1 cap1] w fun e w' => e = .returned (.bool true) ∧ Below w.heap.size w w' := by
  obtain ⟨l0, rfl, hr0, hm0, hw0, hc0⟩ := ReadsInt.ofRowC w0
  obtain ⟨l1, rfl, hr1, hm1, hw1, hc1⟩ := ReadsInt.ofRowC w1
  obtain ⟨k, h⟩ := P l0 l1 hm0 y0 hw0 hm1 y1 hw1
  refine (laws_FnPushed.calls k _ _ l0 _ _ l1 true w (Kd.C_of_reads (d := (0 : Int)) (h1 := fun _ => rfl) hr0) hc0 (Kd.C_of_reads (d := (0 : Int)) (h1 := fun _ => rfl) hr1) hc1 h).mono ?_
  rintro e w' ⟨rfl, hd⟩
  exact ⟨rfl, hd⟩

end Go.Proofs.Ythlbcjoogcanmaa.Q
