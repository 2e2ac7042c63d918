-- Written by a program of this claim's session (gprint.py over the kit's print); not typed by hand; Lean checks it.
import Derived.Test.YthlbcjoogcanmaaQ0
import Derived.Test.YthlbcjoogcanmaaQ6
import Derived.Test.YthlbcjoogcanmaaQ17
namespace Go.Proofs.Ythlbcjoogcanmaa.Q
open Go.RowKit Go.Proofs.YthlbcjoogcanmaaW.PrintWords Go.Proofs.YthlbcjoogcanmaaW.PrintLast Go.Proofs.YthlbcjoogcanmaaW.PrintMore
attribute [local go_sem] max2_int min2_int max_two min_two max_three min_three max_four min_four   -- for this text's walks alone
set_option linter.unusedVariables false
set_option linter.unusedSimpArgs false

/-! ### spec_l04DrawOk: function 92 -/
mutual
def spec_l04DrawOk.j0 : Nat → List Int → Int → Int → Int → Int → Int → Int → Int → Int → Int → Int → Int → Option (Int × Int × Int × Int × Int × Int × Int × Int × Int × Int × Int)
  | 0, _, _, _, _, _, _, _, _, _, _, _, _ => none
  | k + 1, x1000, x1001, x1002, x862000, x862001, x862002, x862003, x862004, x862005, x862006, x862007, x862008 => (spec_l00Src_pick.f x1000 x1001 x1002 9).bind fun bt868 => ((spec_l00Src_pick.f x1000 bt868.2.1 bt868.2.2 9).bind fun bt871 => ((spec_l00Src_pick.f x1000 bt871.2.1 bt871.2.2 61).bind fun bt874 => ((spec_l00Src_pick.f x1000 bt874.2.1 bt874.2.2 61).bind fun bt877 => ((spec_l00Src_one.f x1000 bt877.2.1 bt877.2.2 10).bind fun bt880 => (if bt880.1 = true then ((spec_l00Src_among.f x1000 bt880.2.1 bt880.2.2 (([(-10), 10] : List Int))).bind fun bt886 => (spec_l04DrawOk.j1 k x1000 bt886.2.1 bt886.2.2 (wrap64 ((wrap64 ((wrap64 ((wrap64 (x862004 + (wrap64 (2 * (wrap64 ((wrap64 (x862006 + bt868.1)) - 4)))))) + bt874.1)) - 30)) + bt886.1)) (wrap64 ((wrap64 ((wrap64 (x862005 + (wrap64 (2 * (wrap64 ((wrap64 (x862007 + bt871.1)) - 4)))))) + bt877.1)) - 30)) (wrap64 ((wrap64 (x862006 + bt868.1)) - 4)) (wrap64 ((wrap64 (x862007 + bt871.1)) - 4)) x862004 x862005 x862006 x862007 x862008)) else (spec_l04DrawOk.j1 k x1000 bt880.2.1 bt880.2.2 (wrap64 ((wrap64 ((wrap64 (x862004 + (wrap64 (2 * (wrap64 ((wrap64 (x862006 + bt868.1)) - 4)))))) + bt874.1)) - 30)) (wrap64 ((wrap64 ((wrap64 (x862005 + (wrap64 (2 * (wrap64 ((wrap64 (x862007 + bt871.1)) - 4)))))) + bt877.1)) - 30)) (wrap64 ((wrap64 (x862006 + bt868.1)) - 4)) (wrap64 ((wrap64 (x862007 + bt871.1)) - 4)) x862004 x862005 x862006 x862007 x862008))))))
def spec_l04DrawOk.j1 : Nat → List Int → Int → Int → Int → Int → Int → Int → Int → Int → Int → Int → Int → Option (Int × Int × Int × Int × Int × Int × Int × Int × Int × Int × Int)
  | 0, _, _, _, _, _, _, _, _, _, _, _, _ => none
  | k + 1, x1000, x1001, x1002, x862000, x862001, x862002, x862003, x862004, x862005, x862006, x862007, x862008 => (spec_l04Is.f k x862000 x862001 x862002 x862003 x862004 x862005 x862006 x862007 x862008).bind fun t889 => (if t889 = true then (some (x862000, x862001, x862002, x862003, x862004, x862005, x862006, x862007, x862008, x1001, x1002)) else (some (0, 0, 0, 0, 0, 0, 0, 0, 600, x1001, x1002)))
end
def spec_l04DrawOk.f (k : Nat) (s0_0 : List Int) (s0_1 : Int) (s0_2 : Int) : Option (Int × Int × Int × Int × Int × Int × Int × Int × Int × Int × Int) := (spec_l02DrawPose.f k s0_0 s0_1 s0_2).bind fun bt855 => ((spec_l00Src_pick.f s0_0 bt855.2.2.2.2.1 bt855.2.2.2.2.2 600).bind fun bt862 => ((spec_l00Src_one.f s0_0 bt862.2.1 bt862.2.2 3).bind fun bt865 => (if bt865.1 = true then (spec_l04DrawOk.j0 k s0_0 bt865.2.1 bt865.2.2 0 0 0 0 bt855.1 bt855.2.1 bt855.2.2.1 bt855.2.2.2.1 (wrap64 ((wrap64 (100 + bt862.1)) + 1500))) else (spec_l04DrawOk.j0 k s0_0 bt865.2.1 bt865.2.2 0 0 0 0 bt855.1 bt855.2.1 bt855.2.2.1 bt855.2.2.2.1 (wrap64 (100 + bt862.1))))))
theorem spec_l04DrawOk.mono_l : ∀ k, (∀ y0 y1 y2 y3 y4 y5 y6 y7 y8 y9 y10 y11, LeO (spec_l04DrawOk.j0 k y0 y1 y2 y3 y4 y5 y6 y7 y8 y9 y10 y11) (spec_l04DrawOk.j0 (k + 1) y0 y1 y2 y3 y4 y5 y6 y7 y8 y9 y10 y11)) ∧ (∀ y0 y1 y2 y3 y4 y5 y6 y7 y8 y9 y10 y11, LeO (spec_l04DrawOk.j1 k y0 y1 y2 y3 y4 y5 y6 y7 y8 y9 y10 y11) (spec_l04DrawOk.j1 (k + 1) y0 y1 y2 y3 y4 y5 y6 y7 y8 y9 y10 y11))
  | 0 => ⟨fun _ _ _ _ _ _ _ _ _ _ _ _ r h => by simp [spec_l04DrawOk.j0] at h, fun _ _ _ _ _ _ _ _ _ _ _ _ r h => by simp [spec_l04DrawOk.j1] at h⟩
  | k + 1 => by
    obtain ⟨ih0, ih1⟩ := spec_l04DrawOk.mono_l k
    refine ⟨?_, ?_⟩
    · intro y0 y1 y2 y3 y4 y5 y6 y7 y8 y9 y10 y11
      unfold spec_l04DrawOk.j0
      repeat' first
      | (with_reducible exact ih0 _ _ _ _ _ _ _ _ _ _ _ _)
      | (with_reducible exact ih1 _ _ _ _ _ _ _ _ _ _ _ _)
      | (with_reducible exact spec_l02DrawPose.mono _ _ _ _)
      | (with_reducible exact spec_l04Is.mono _ _ _ _ _ _ _ _ _ _)
      | (with_reducible exact LeO.refl _)
      | (with_reducible exact LeO.none _)
      | (with_reducible refine LeO.ite ?_ ?_)
      | (with_reducible refine LeO.bind ?_ (fun _ => ?_))
      | exact ih0 _ _ _ _ _ _ _ _ _ _ _ _
      | exact ih1 _ _ _ _ _ _ _ _ _ _ _ _
      | exact spec_l02DrawPose.mono _ _ _ _
      | exact spec_l04Is.mono _ _ _ _ _ _ _ _ _ _
      | exact LeO.none _
      | refine LeO.ite ?_ ?_
      | refine LeO.bind ?_ (fun _ => ?_)
    · intro y0 y1 y2 y3 y4 y5 y6 y7 y8 y9 y10 y11
      unfold spec_l04DrawOk.j1
      repeat' first
      | (with_reducible exact ih0 _ _ _ _ _ _ _ _ _ _ _ _)
      | (with_reducible exact ih1 _ _ _ _ _ _ _ _ _ _ _ _)
      | (with_reducible exact spec_l02DrawPose.mono _ _ _ _)
      | (with_reducible exact spec_l04Is.mono _ _ _ _ _ _ _ _ _ _)
      | (with_reducible exact LeO.refl _)
      | (with_reducible exact LeO.none _)
      | (with_reducible refine LeO.ite ?_ ?_)
      | (with_reducible refine LeO.bind ?_ (fun _ => ?_))
      | exact ih0 _ _ _ _ _ _ _ _ _ _ _ _
      | exact ih1 _ _ _ _ _ _ _ _ _ _ _ _
      | exact spec_l02DrawPose.mono _ _ _ _
      | exact spec_l04Is.mono _ _ _ _ _ _ _ _ _ _
      | exact LeO.none _
      | refine LeO.ite ?_ ?_
      | refine LeO.bind ?_ (fun _ => ?_)
theorem spec_l04DrawOk.mono : ∀ a0 a1 a2 k, LeO (spec_l04DrawOk.f k a0 a1 a2) (spec_l04DrawOk.f (k + 1) a0 a1 a2) := by
  intro a0 a1 a2 k
  obtain ⟨ih0, ih1⟩ := spec_l04DrawOk.mono_l k
  unfold spec_l04DrawOk.f
  repeat' first
      | (with_reducible exact ih0 _ _ _ _ _ _ _ _ _ _ _ _)
      | (with_reducible exact ih1 _ _ _ _ _ _ _ _ _ _ _ _)
      | (with_reducible exact spec_l02DrawPose.mono _ _ _ _)
      | (with_reducible exact spec_l04Is.mono _ _ _ _ _ _ _ _ _ _)
      | (with_reducible exact LeO.refl _)
      | (with_reducible exact LeO.none _)
      | (with_reducible refine LeO.ite ?_ ?_)
      | (with_reducible refine LeO.bind ?_ (fun _ => ?_))
      | exact ih0 _ _ _ _ _ _ _ _ _ _ _ _
      | exact ih1 _ _ _ _ _ _ _ _ _ _ _ _
      | exact spec_l02DrawPose.mono _ _ _ _
      | exact spec_l04Is.mono _ _ _ _ _ _ _ _ _ _
      | exact LeO.none _
      | refine LeO.ite ?_ ?_
      | refine LeO.bind ?_ (fun _ => ?_)
def spec_l04DrawOk.T5 : Bool × List (List Nat × List Nat) := (true, [([], []), ([0], [0]), ([1], [1]), ([], []), ([3], [3]), ([2, 4], [2, 4]), ([5], [5]), ([0, 1, 2, 3, 4, 5, 6], []), ([7, 0, 1, 2, 3, 4, 5, 6], [7]), ([8, 6, 4, 0, 1, 2, 3, 4, 5, 6], [6, 8])])
def spec_l04DrawOk.B5 : List Nat := [0, 1, 3, 0, 8, 31, 63, 127, 255, 511]
theorem spec_l04DrawOk.tab5 : rtab .any (opsOf Try.f92 5) = spec_l04DrawOk.T5 := by kernel_rfl
theorem spec_l04DrawOk.bits5 : waitsOk spec_l04DrawOk.T5.2 spec_l04DrawOk.B5 = true := by kernel_rfl
def spec_l04DrawOk.T6 : Bool × List (List Nat × List Nat) := (true, [([], []), ([0], [0]), ([1], [1]), ([], []), ([3], [3]), ([2, 4], [2, 4]), ([5], [5]), ([0, 1, 2, 3, 4, 5, 6], []), ([7, 0, 1, 2, 3, 4, 5, 6], [7]), ([8, 6, 4, 0, 1, 2, 3, 4, 5, 6], [6, 8])])
def spec_l04DrawOk.B6 : List Nat := [0, 1, 3, 0, 8, 31, 63, 127, 255, 511]
theorem spec_l04DrawOk.tab6 : rtab .any (opsOf Try.f92 6) = spec_l04DrawOk.T6 := by kernel_rfl
theorem spec_l04DrawOk.bits6 : waitsOk spec_l04DrawOk.T6.2 spec_l04DrawOk.B6 = true := by kernel_rfl
def spec_l04DrawOk.T7 : Bool × List (List Nat × List Nat) := (true, [([], []), ([0], [0]), ([1], [1]), ([], []), ([3], [3]), ([4], [4]), ([5], [5]), ([2, 6], [2, 6]), ([], []), ([8], [8]), ([7, 9], [7, 9]), ([10], [10]), ([0, 1, 2, 3, 4, 5, 6, 7, 8, 9, 10, 11], []), ([12, 0, 1, 2, 3, 4, 5, 6, 7, 8, 9, 10, 11], [12]), ([13, 11, 9, 0, 1, 2, 3, 4, 5, 6, 7, 8, 9, 10, 11], [11, 13])])
def spec_l04DrawOk.B7 : List Nat := [0, 1, 3, 0, 8, 24, 56, 127, 0, 256, 1023, 2047, 4095, 8191, 16383]
theorem spec_l04DrawOk.tab7 : rtab .any (opsOf Try.f92 7) = spec_l04DrawOk.T7 := by kernel_rfl
theorem spec_l04DrawOk.bits7 : waitsOk spec_l04DrawOk.T7.2 spec_l04DrawOk.B7 = true := by kernel_rfl
def spec_l04DrawOk.T8 : Bool × List (List Nat × List Nat) := (true, [([], []), ([0], [0]), ([1], [1]), ([], []), ([3], [3]), ([4], [4]), ([5], [5]), ([2, 6], [2, 6]), ([], []), ([8], [8]), ([7, 9], [7, 9]), ([10], [10]), ([0, 1, 2, 3, 4, 5, 6, 7, 8, 9, 10, 11], []), ([12, 0, 1, 2, 3, 4, 5, 6, 7, 8, 9, 10, 11], [12]), ([13, 11, 9, 0, 1, 2, 3, 4, 5, 6, 7, 8, 9, 10, 11], [11, 13])])
def spec_l04DrawOk.B8 : List Nat := [0, 1, 3, 0, 8, 24, 56, 127, 0, 256, 1023, 2047, 4095, 8191, 16383]
theorem spec_l04DrawOk.tab8 : rtab .any (opsOf Try.f92 8) = spec_l04DrawOk.T8 := by kernel_rfl
theorem spec_l04DrawOk.bits8 : waitsOk spec_l04DrawOk.T8.2 spec_l04DrawOk.B8 = true := by kernel_rfl
def spec_l04DrawOk.T10 : Bool × List (List Nat × List Nat) := (true, [([], []), ([0], [0]), ([1], [1]), ([], []), ([], []), ([3, 4], [3, 4]), ([2, 5], [2, 5]), ([0, 1, 2, 3, 4, 5, 6], []), ([7, 0, 1, 2, 3, 4, 5, 6], [7]), ([8, 6, 5, 0, 1, 2, 3, 4, 5, 6], [6, 8])])
def spec_l04DrawOk.B10 : List Nat := [0, 1, 3, 0, 0, 24, 63, 127, 255, 511]
theorem spec_l04DrawOk.tab10 : rtab .any (opsOf Try.f92 10) = spec_l04DrawOk.T10 := by kernel_rfl
theorem spec_l04DrawOk.bits10 : waitsOk spec_l04DrawOk.T10.2 spec_l04DrawOk.B10 = true := by kernel_rfl
set_option maxHeartbeats 8000000 in
set_option maxRecDepth 100000 in
theorem spec_l04DrawOk.calls (k : Nat) (g : Nat) (s0_0 : List Int) (s0_1 : Int) (s0_2 : Int) (r1 : Int) (r2 : Int) (r3 : Int) (r4 : Int) (r5 : Int) (r6 : Int) (r7 : Int) (r8 : Int) (r9 : Int) (r10 : Int) (r11 : Int) (w0 w : World) (hI : IsS123 w0 w g s0_0 s0_1 s0_2) (hB : Below w0.heap.size w0 w) (h : spec_l04DrawOk.f k s0_0 s0_1 s0_2 = some (r1, r2, r3, r4, r5, r6, r7, r8, r9, r10, r11)) :
    Calls Try.prog 92 #[.pointer (some ⟨g, 0, none⟩)] w fun e w' => e = .returned (.agg #[.int .i64 r1, .int .i64 r2, .int .i64 r3, .int .i64 r4, .int .i64 r5, .int .i64 r6, .int .i64 r7, .int .i64 r8, .int .i64 r9]) ∧ IsS123 w0 w' g s0_0 r10 r11 ∧ Below w0.heap.size w0 w' ∧ KeepBut w w' g none := by
  have hu58 := Try.underlying58
  have HI0 := Aside0.mk hI
  have HK := Aside0.mk (KeepBut.refl w g none)
  have HL := Aside0.mk hB.size
  clear hI
  have HW0 := Aside0.mk hB.size
  have HB := Aside0.mk hB
  clear hB
  have H : ((spec_l02DrawPose.f k s0_0 s0_1 s0_2).bind fun bt855 => ((spec_l00Src_pick.f s0_0 bt855.2.2.2.2.1 bt855.2.2.2.2.2 600).bind fun bt862 => ((spec_l00Src_one.f s0_0 bt862.2.1 bt862.2.2 3).bind fun bt865 => (if bt865.1 = true then (spec_l04DrawOk.j0 k s0_0 bt865.2.1 bt865.2.2 0 0 0 0 bt855.1 bt855.2.1 bt855.2.2.1 bt855.2.2.2.1 (wrap64 ((wrap64 (100 + bt862.1)) + 1500))) else (spec_l04DrawOk.j0 k s0_0 bt865.2.1 bt865.2.2 0 0 0 0 bt855.1 bt855.2.1 bt855.2.2.1 bt855.2.2.2.1 (wrap64 (100 + bt862.1))))))) = some (r1, r2, r3, r4, r5, r6, r7, r8, r9, r10, r11) := h
  clear h
  replace H := Option.bind_eq_some_iff.mp H
  obtain ⟨⟨t855, t856, t857, t858, t859, t860⟩, A20, H⟩ := H
  replace H : ((spec_l00Src_pick.f s0_0 t859 t860 600).bind fun bt862 => ((spec_l00Src_one.f s0_0 bt862.2.1 bt862.2.2 3).bind fun bt865 => (if bt865.1 = true then (spec_l04DrawOk.j0 k s0_0 bt865.2.1 bt865.2.2 0 0 0 0 t855 t856 t857 t858 (wrap64 ((wrap64 (100 + bt862.1)) + 1500))) else (spec_l04DrawOk.j0 k s0_0 bt865.2.1 bt865.2.2 0 0 0 0 t855 t856 t857 t858 (wrap64 (100 + bt862.1)))))) = some (r1, r2, r3, r4, r5, r6, r7, r8, r9, r10, r11) := H
  have A2 := Aside0.mk A20
  clear A20
  replace H := Option.bind_eq_some_iff.mp H
  obtain ⟨⟨t862, t863, t864⟩, A30, H⟩ := H
  replace H : ((spec_l00Src_one.f s0_0 t863 t864 3).bind fun bt865 => (if bt865.1 = true then (spec_l04DrawOk.j0 k s0_0 bt865.2.1 bt865.2.2 0 0 0 0 t855 t856 t857 t858 (wrap64 ((wrap64 (100 + t862)) + 1500))) else (spec_l04DrawOk.j0 k s0_0 bt865.2.1 bt865.2.2 0 0 0 0 t855 t856 t857 t858 (wrap64 (100 + t862))))) = some (r1, r2, r3, r4, r5, r6, r7, r8, r9, r10, r11) := H
  have A3 := Aside0.mk A30
  clear A30
  replace H := Option.bind_eq_some_iff.mp H
  obtain ⟨⟨t865, t866, t867⟩, A40, H⟩ := H
  replace H : (if t865 = true then (spec_l04DrawOk.j0 k s0_0 t866 t867 0 0 0 0 t855 t856 t857 t858 (wrap64 ((wrap64 (100 + t862)) + 1500))) else (spec_l04DrawOk.j0 k s0_0 t866 t867 0 0 0 0 t855 t856 t857 t858 (wrap64 (100 + t862)))) = some (r1, r2, r3, r4, r5, r6, r7, r8, r9, r10, r11) := H
  have A4 := Aside0.mk A40
  clear A40
  have HC5 := Aside0.mk H
  clear H
  go_enter Try.func92, Try.ntmps92
  go_upto_if 12 with (first | ((with_reducible refine gate_dst (N := 2) rfl ?_); refine box_event ?hg (N := 2) ?hd (cs := #[.int .i64 0, .int .i64 0, .int .i64 0, .int .i64 0, .int .i64 0, .int .i64 0, .int .i64 0, .int .i64 0, .int .i64 0]) (t := 58) ?hr ?_; (case hd => rfl); (case hg => rfl); (case hr => first | (go_simp; done) | (go_simp; rfl)); intro gb854 hg w6 hbox hb; have n0_ := Aside0.mk (IsS123.below (by repeat (first | (with_reducible first | exact HI0.out | apply IsS123.alloc | apply IsS123.drewN | apply IsS123.drew | apply IsS123.set_1 | apply IsS123.set_2) | exact HI0.out)) hb); have n1_ := Aside0.mk (KeepBut.trans (by repeat (first | (with_reducible first | exact HK.out | apply KeepBut.set_ | apply keep_drewN | apply keep_drew | apply keep_alloc) | exact HK.out)) (KeepBut.of_below hb g none) (.inl rfl)); have n2_ := Aside0.mk (below_step (by repeat (first | (with_reducible first | exact HB.out | apply below_alloc | apply pw_below_drewN | apply below_drew1 | refine below_set ?_ (IsS123.ge HI0.out)) | exact HB.out)) hb); have n3_ := Aside0.mk (hbox); have n4_ := Aside0.mk ((by rw [hg]; exact (keep_size (w := w) (g := g) (row := none) (by repeat (first | (with_reducible first | exact HK.out | apply KeepBut.set_ | apply keep_drewN | apply keep_drew | apply keep_alloc) | exact HK.out))) : w.heap.size ≤ gb854)); have n5_ := Aside0.mk ((Nat.le_trans HW0.out (by rw [hg]; exact (keep_size (w := w) (g := g) (row := none) (by repeat (first | (with_reducible first | exact HK.out | apply KeepBut.set_ | apply keep_drewN | apply keep_drew | apply keep_alloc) | exact HK.out))) : w.heap.size ≤ gb854) : w0.heap.size ≤ gb854)); have n6_ := Aside0.mk ((by rw [hg]; exact Nat.ne_of_lt (IsS123.lt (show IsS123 w0 _ g s0_0 s0_1 s0_2 from by repeat (first | (with_reducible first | exact HI0.out | apply IsS123.alloc | apply IsS123.drewN | apply IsS123.drew | apply IsS123.set_1 | apply IsS123.set_2) | exact HI0.out))) : g ≠ gb854)); have n7_ := Aside0.mk ((by rw [hg]; exact Nat.ne_of_gt (IsS123.lt (show IsS123 w0 _ g s0_0 s0_1 s0_2 from by repeat (first | (with_reducible first | exact HI0.out | apply IsS123.alloc | apply IsS123.drewN | apply IsS123.drew | apply IsS123.set_1 | apply IsS123.set_2) | exact HI0.out))) : gb854 ≠ g)); clear HI0; clear HK; clear HB; have HI0 := n0_; have HK := n1_; have HB := n2_; have BK854 := n3_; have GW854 := n4_; have GE854 := n5_; have NB0_854 := n6_; have NB854_0 := n7_; clear n0_ n1_ n2_ n3_ n4_ n5_ n6_ n7_; clear hb hbox hg) | ((with_reducible refine gate_callee (f := 106) rfl ?_); refine goesL_ (some 5) rfl rfl Try.func106 (by kernel_rfl) rfl #[.pointer (some ⟨g, 0, none⟩)] rfl (by (try simp only [List.map_toArray, List.map_cons, List.map_nil]); first | done | rfl | (simp only [List.length_drop, List.length_take]; rfl)) ?_; (with_reducible refine (spec_l02DrawPose.calls k g s0_0 s0_1 s0_2 t855 t856 t857 t858 t859 t860 w0 _ ?side1 ?side2 A2.out).mono ?_); (case side1 => repeat (first | (with_reducible first | exact HI0.out | apply IsS123.alloc | apply IsS123.drewN | apply IsS123.drew | apply IsS123.set_1 | apply IsS123.set_2 | refine IsS123.far ?_ NB0_854.out _) | exact HI0.out)); (case side2 => repeat (first | (with_reducible first | exact HB.out | apply below_alloc | apply pw_below_drewN | apply below_drew1 | refine below_set ?_ (IsS123.ge HI0.out) | refine below_set ?_ GE854.out) | exact HB.out)); rintro e w7 ⟨rfl, hi, hb, hk⟩; refine ⟨_, rfl, ?_⟩; have n0_ := Aside0.mk (KeepBut.blk hk (g' := gb854) (o := .cells #[.int .i64 0, .int .i64 0, .int .i64 0, .int .i64 0, .int .i64 0, .int .i64 0, .int .i64 0, .int .i64 0, .int .i64 0] 58 (0, 0)) (by (with_reducible repeat (first | refine blk_drewN ?_ _ | refine blk_drew ?_ | refine blk_alloc ?_ _)); exact BK854.out) NB854_0.out (by simp)); have n1_ := Aside0.mk (KeepBut.trans (by repeat (first | (with_reducible first | exact HK.out | apply KeepBut.set_ | apply keep_drewN | apply keep_drew | apply keep_alloc | refine keep_far ?_ GW854.out _) | exact HK.out)) hk (.inl rfl)); have n2_ := Aside0.mk (hb); have n3_ := Aside0.mk (hi); clear BK854; clear HK; clear HB; clear HI0; have BK854 := n0_; have HK := n1_; have HB := n2_; have HI0 := n3_; clear n0_ n1_ n2_ n3_; (try clear hb); (try clear hb2); (try clear hk); (try clear hi)) | ((with_reducible refine gate_dst (N := 3) rfl ?_); refine box_event ?hg (N := 3) ?hd (cs := #[.int .i64 0, .int .i64 0, .int .i64 0, .int .i64 0, .int .i64 0, .int .i64 0, .int .i64 0, .int .i64 0, .int .i64 0]) (t := 58) ?hr ?_; (case hd => rfl); (case hg => rfl); (case hr => first | (go_simp; done) | (go_simp; rfl)); intro gb861 hg w8 hbox hb; have n0_ := Aside0.mk (IsS123.below (by repeat (first | (with_reducible first | exact HI0.out | apply IsS123.alloc | apply IsS123.drewN | apply IsS123.drew | apply IsS123.set_1 | apply IsS123.set_2 | refine IsS123.far ?_ NB0_854.out _) | exact HI0.out)) hb); have n1_ := Aside0.mk (blk_below (g := gb854) (o := .cells #[.int .i64 0, .int .i64 0, .int .i64 0, .int .i64 0, .int .i64 0, .int .i64 0, .int .i64 0, .int .i64 0, .int .i64 0] 58 (0, 0)) (by (with_reducible repeat (first | refine blk_drewN ?_ _ | refine blk_drew ?_ | refine blk_alloc ?_ _)); exact BK854.out) hb); have n2_ := Aside0.mk (KeepBut.trans (by repeat (first | (with_reducible first | exact HK.out | apply KeepBut.set_ | apply keep_drewN | apply keep_drew | apply keep_alloc | refine keep_far ?_ GW854.out _) | exact HK.out)) (KeepBut.of_below hb g none) (.inl rfl)); have n3_ := Aside0.mk (below_step (by repeat (first | (with_reducible first | exact HB.out | apply below_alloc | apply pw_below_drewN | apply below_drew1 | refine below_set ?_ (IsS123.ge HI0.out) | refine below_set ?_ GE854.out) | exact HB.out)) hb); have n4_ := Aside0.mk (hbox); have n5_ := Aside0.mk ((by rw [hg]; exact (keep_size (w := w) (g := g) (row := none) (by repeat (first | (with_reducible first | exact HK.out | apply KeepBut.set_ | apply keep_drewN | apply keep_drew | apply keep_alloc | refine keep_far ?_ GW854.out _) | exact HK.out))) : w.heap.size ≤ gb861)); have n6_ := Aside0.mk ((Nat.le_trans HW0.out (by rw [hg]; exact (keep_size (w := w) (g := g) (row := none) (by repeat (first | (with_reducible first | exact HK.out | apply KeepBut.set_ | apply keep_drewN | apply keep_drew | apply keep_alloc | refine keep_far ?_ GW854.out _) | exact HK.out))) : w.heap.size ≤ gb861) : w0.heap.size ≤ gb861)); have n7_ := Aside0.mk ((by rw [hg]; exact Nat.ne_of_lt (blk_lt (g := gb854) (o := .cells #[.int .i64 0, .int .i64 0, .int .i64 0, .int .i64 0, .int .i64 0, .int .i64 0, .int .i64 0, .int .i64 0, .int .i64 0] 58 (0, 0)) (by (with_reducible repeat (first | refine blk_drewN ?_ _ | refine blk_drew ?_ | refine blk_alloc ?_ _)); exact BK854.out)) : gb854 ≠ gb861)); have n8_ := Aside0.mk ((by rw [hg]; exact Nat.ne_of_gt (blk_lt (g := gb854) (o := .cells #[.int .i64 0, .int .i64 0, .int .i64 0, .int .i64 0, .int .i64 0, .int .i64 0, .int .i64 0, .int .i64 0, .int .i64 0] 58 (0, 0)) (by (with_reducible repeat (first | refine blk_drewN ?_ _ | refine blk_drew ?_ | refine blk_alloc ?_ _)); exact BK854.out)) : gb861 ≠ gb854)); have n9_ := Aside0.mk ((by rw [hg]; exact Nat.ne_of_lt (IsS123.lt (show IsS123 w0 _ g s0_0 t859 t860 from by repeat (first | (with_reducible first | exact HI0.out | apply IsS123.alloc | apply IsS123.drewN | apply IsS123.drew | apply IsS123.set_1 | apply IsS123.set_2 | refine IsS123.far ?_ NB0_854.out _) | exact HI0.out))) : g ≠ gb861)); have n10_ := Aside0.mk ((by rw [hg]; exact Nat.ne_of_gt (IsS123.lt (show IsS123 w0 _ g s0_0 t859 t860 from by repeat (first | (with_reducible first | exact HI0.out | apply IsS123.alloc | apply IsS123.drewN | apply IsS123.drew | apply IsS123.set_1 | apply IsS123.set_2 | refine IsS123.far ?_ NB0_854.out _) | exact HI0.out))) : gb861 ≠ g)); clear HI0; clear BK854; clear HK; clear HB; have HI0 := n0_; have BK854 := n1_; have HK := n2_; have HB := n3_; have BK861 := n4_; have GW861 := n5_; have GE861 := n6_; have NB854_861 := n7_; have NB861_854 := n8_; have NB0_861 := n9_; have NB861_0 := n10_; clear n0_ n1_ n2_ n3_ n4_ n5_ n6_ n7_ n8_ n9_ n10_; clear hb hbox hg; have hnb9 := NB861_854.out; have hnc9 := NB854_861.out; have hnb10 := NB861_0.out; have hnc10 := NB0_861.out; have hcz11_0 : w8.cell? ⟨gb861, 0, none⟩ = some (.int .i64 0) := (blk_cell BK861.out 0).trans rfl; have hcz11_1 : w8.cell? ⟨gb861, 1, none⟩ = some (.int .i64 0) := (blk_cell BK861.out 1).trans rfl; have hcz11_2 : w8.cell? ⟨gb861, 2, none⟩ = some (.int .i64 0) := (blk_cell BK861.out 2).trans rfl; have hcz11_3 : w8.cell? ⟨gb861, 3, none⟩ = some (.int .i64 0) := (blk_cell BK861.out 3).trans rfl; have hcz11_4 : w8.cell? ⟨gb861, 4, none⟩ = some (.int .i64 0) := (blk_cell BK861.out 4).trans rfl; have hcz11_5 : w8.cell? ⟨gb861, 5, none⟩ = some (.int .i64 0) := (blk_cell BK861.out 5).trans rfl; have hcz11_6 : w8.cell? ⟨gb861, 6, none⟩ = some (.int .i64 0) := (blk_cell BK861.out 6).trans rfl; have hcz11_7 : w8.cell? ⟨gb861, 7, none⟩ = some (.int .i64 0) := (blk_cell BK861.out 7).trans rfl; have hcz11_8 : w8.cell? ⟨gb861, 8, none⟩ = some (.int .i64 0) := (blk_cell BK861.out 8).trans rfl; have hfz11_0 := blk_frozen BK861.out 0; have hfz11_1 := blk_frozen BK861.out 1; have hfz11_2 := blk_frozen BK861.out 2; have hfz11_3 := blk_frozen BK861.out 3; have hfz11_4 := blk_frozen BK861.out 4; have hfz11_5 := blk_frozen BK861.out 5; have hfz11_6 := blk_frozen BK861.out 6; have hfz11_7 := blk_frozen BK861.out 7; have hfz11_8 := blk_frozen BK861.out 8) | ((with_reducible refine gate_callee (f := 107) rfl ?_); refine goesL_ (some 8) rfl rfl Try.func107 (by kernel_rfl) rfl #[.pointer (some ⟨g, 0, none⟩), .int .i64 600] rfl (by (try simp only [List.map_toArray, List.map_cons, List.map_nil]); first | done | rfl | (simp only [List.length_drop, List.length_take]; rfl)) ?_; (with_reducible refine (spec_l00Src_pick.calls g s0_0 t859 t860 600 t862 t863 t864 w0 _ ?side1 ?side2 A3.out).mono ?_); (case side1 => repeat (first | (with_reducible first | exact HI0.out | apply IsS123.alloc | apply IsS123.drewN | apply IsS123.drew | apply IsS123.set_1 | apply IsS123.set_2 | refine IsS123.far ?_ NB0_854.out _ | refine IsS123.far ?_ NB0_861.out _) | exact HI0.out)); (case side2 => repeat (first | (with_reducible first | exact HB.out | apply below_alloc | apply pw_below_drewN | apply below_drew1 | refine below_set ?_ (IsS123.ge HI0.out) | refine below_set ?_ GE854.out | refine below_set ?_ GE861.out) | exact HB.out)); rintro e w12 ⟨rfl, hi, hb, hk⟩; refine ⟨_, rfl, ?_⟩; have n0_ := Aside0.mk (KeepBut.blk hk (g' := gb854) (o := .cells #[.int .i64 0, .int .i64 0, .int .i64 0, .int .i64 0, .int .i64 0, .int .i64 0, .int .i64 0, .int .i64 0, .int .i64 0] 58 (0, 0)) (by (with_reducible repeat (first | refine blk_drewN ?_ _ | refine blk_drew ?_ | refine blk_alloc ?_ _)); refine blk_far ?_ NB854_861.out _; (with_reducible repeat (first | refine blk_drewN ?_ _ | refine blk_drew ?_ | refine blk_alloc ?_ _)); refine blk_far ?_ NB854_861.out _; (with_reducible repeat (first | refine blk_drewN ?_ _ | refine blk_drew ?_ | refine blk_alloc ?_ _)); refine blk_far ?_ NB854_861.out _; (with_reducible repeat (first | refine blk_drewN ?_ _ | refine blk_drew ?_ | refine blk_alloc ?_ _)); refine blk_far ?_ NB854_861.out _; (with_reducible repeat (first | refine blk_drewN ?_ _ | refine blk_drew ?_ | refine blk_alloc ?_ _)); refine blk_far ?_ NB854_861.out _; (with_reducible repeat (first | refine blk_drewN ?_ _ | refine blk_drew ?_ | refine blk_alloc ?_ _)); refine blk_far ?_ NB854_861.out _; (with_reducible repeat (first | refine blk_drewN ?_ _ | refine blk_drew ?_ | refine blk_alloc ?_ _)); refine blk_far ?_ NB854_861.out _; (with_reducible repeat (first | refine blk_drewN ?_ _ | refine blk_drew ?_ | refine blk_alloc ?_ _)); refine blk_far ?_ NB854_861.out _; (with_reducible repeat (first | refine blk_drewN ?_ _ | refine blk_drew ?_ | refine blk_alloc ?_ _)); refine blk_far ?_ NB854_861.out _; (with_reducible repeat (first | refine blk_drewN ?_ _ | refine blk_drew ?_ | refine blk_alloc ?_ _)); exact BK854.out) NB854_0.out (by simp)); have n1_ := Aside0.mk (KeepBut.blk hk (g' := gb861) (o := .cells #[.int .i64 0, .int .i64 0, .int .i64 0, .int .i64 0, .int .i64 t855, .int .i64 t856, .int .i64 t857, .int .i64 t858, .int .i64 0] 58 (0, 0)) (by (with_reducible repeat (first | refine blk_drewN ?_ _ | refine blk_drew ?_ | refine blk_alloc ?_ _)); refine blk_put (cs := #[.int .i64 0, .int .i64 0, .int .i64 0, .int .i64 0, .int .i64 t855, .int .i64 t856, .int .i64 t857, .int .i64 t858, .int .i64 0]) ?_ 8 _ rfl; (with_reducible repeat (first | refine blk_drewN ?_ _ | refine blk_drew ?_ | refine blk_alloc ?_ _)); refine blk_put (cs := #[.int .i64 0, .int .i64 0, .int .i64 0, .int .i64 0, .int .i64 t855, .int .i64 t856, .int .i64 t857, .int .i64 0, .int .i64 0]) ?_ 7 _ rfl; (with_reducible repeat (first | refine blk_drewN ?_ _ | refine blk_drew ?_ | refine blk_alloc ?_ _)); refine blk_put (cs := #[.int .i64 0, .int .i64 0, .int .i64 0, .int .i64 0, .int .i64 t855, .int .i64 t856, .int .i64 0, .int .i64 0, .int .i64 0]) ?_ 6 _ rfl; (with_reducible repeat (first | refine blk_drewN ?_ _ | refine blk_drew ?_ | refine blk_alloc ?_ _)); refine blk_put (cs := #[.int .i64 0, .int .i64 0, .int .i64 0, .int .i64 0, .int .i64 t855, .int .i64 0, .int .i64 0, .int .i64 0, .int .i64 0]) ?_ 5 _ rfl; (with_reducible repeat (first | refine blk_drewN ?_ _ | refine blk_drew ?_ | refine blk_alloc ?_ _)); refine blk_put (cs := #[.int .i64 0, .int .i64 0, .int .i64 0, .int .i64 0, .int .i64 0, .int .i64 0, .int .i64 0, .int .i64 0, .int .i64 0]) ?_ 4 _ rfl; (with_reducible repeat (first | refine blk_drewN ?_ _ | refine blk_drew ?_ | refine blk_alloc ?_ _)); refine blk_put (cs := #[.int .i64 0, .int .i64 0, .int .i64 0, .int .i64 0, .int .i64 0, .int .i64 0, .int .i64 0, .int .i64 0, .int .i64 0]) ?_ 3 _ rfl; (with_reducible repeat (first | refine blk_drewN ?_ _ | refine blk_drew ?_ | refine blk_alloc ?_ _)); refine blk_put (cs := #[.int .i64 0, .int .i64 0, .int .i64 0, .int .i64 0, .int .i64 0, .int .i64 0, .int .i64 0, .int .i64 0, .int .i64 0]) ?_ 2 _ rfl; (with_reducible repeat (first | refine blk_drewN ?_ _ | refine blk_drew ?_ | refine blk_alloc ?_ _)); refine blk_put (cs := #[.int .i64 0, .int .i64 0, .int .i64 0, .int .i64 0, .int .i64 0, .int .i64 0, .int .i64 0, .int .i64 0, .int .i64 0]) ?_ 1 _ rfl; (with_reducible repeat (first | refine blk_drewN ?_ _ | refine blk_drew ?_ | refine blk_alloc ?_ _)); refine blk_put (cs := #[.int .i64 0, .int .i64 0, .int .i64 0, .int .i64 0, .int .i64 0, .int .i64 0, .int .i64 0, .int .i64 0, .int .i64 0]) ?_ 0 _ rfl; (with_reducible repeat (first | refine blk_drewN ?_ _ | refine blk_drew ?_ | refine blk_alloc ?_ _)); exact BK861.out) NB861_0.out (by simp)); have n2_ := Aside0.mk (KeepBut.trans (by repeat (first | (with_reducible first | exact HK.out | apply KeepBut.set_ | apply keep_drewN | apply keep_drew | apply keep_alloc | refine keep_far ?_ GW854.out _ | refine keep_far ?_ GW861.out _) | exact HK.out)) hk (.inl rfl)); have n3_ := Aside0.mk (hb); have n4_ := Aside0.mk (hi); clear BK854; clear BK861; clear HK; clear HB; clear HI0; have BK854 := n0_; have BK861 := n1_; have HK := n2_; have HB := n3_; have HI0 := n4_; clear n0_ n1_ n2_ n3_ n4_; (try clear hb); (try clear hb2); (try clear hk); (try clear hi); have hcz13_0 : w12.cell? ⟨gb861, 0, none⟩ = some (.int .i64 0) := (blk_cell BK861.out 0).trans rfl; have hcz13_1 : w12.cell? ⟨gb861, 1, none⟩ = some (.int .i64 0) := (blk_cell BK861.out 1).trans rfl; have hcz13_2 : w12.cell? ⟨gb861, 2, none⟩ = some (.int .i64 0) := (blk_cell BK861.out 2).trans rfl; have hcz13_3 : w12.cell? ⟨gb861, 3, none⟩ = some (.int .i64 0) := (blk_cell BK861.out 3).trans rfl; have hcz13_4 : w12.cell? ⟨gb861, 4, none⟩ = some (.int .i64 t855) := (blk_cell BK861.out 4).trans rfl; have hcz13_5 : w12.cell? ⟨gb861, 5, none⟩ = some (.int .i64 t856) := (blk_cell BK861.out 5).trans rfl; have hcz13_6 : w12.cell? ⟨gb861, 6, none⟩ = some (.int .i64 t857) := (blk_cell BK861.out 6).trans rfl; have hcz13_7 : w12.cell? ⟨gb861, 7, none⟩ = some (.int .i64 t858) := (blk_cell BK861.out 7).trans rfl; have hcz13_8 : w12.cell? ⟨gb861, 8, none⟩ = some (.int .i64 0) := (blk_cell BK861.out 8).trans rfl; have hfz13_0 := blk_frozen BK861.out 0; have hfz13_1 := blk_frozen BK861.out 1; have hfz13_2 := blk_frozen BK861.out 2; have hfz13_3 := blk_frozen BK861.out 3; have hfz13_4 := blk_frozen BK861.out 4; have hfz13_5 := blk_frozen BK861.out 5; have hfz13_6 := blk_frozen BK861.out 6; have hfz13_7 := blk_frozen BK861.out 7; have hfz13_8 := blk_frozen BK861.out 8) | ((with_reducible refine gate_callee (f := 108) rfl ?_); refine goesL_ (some 12) rfl rfl Try.func108 (by kernel_rfl) rfl #[.pointer (some ⟨g, 0, none⟩), .int .i64 3] rfl (by (try simp only [List.map_toArray, List.map_cons, List.map_nil]); first | done | rfl | (simp only [List.length_drop, List.length_take]; rfl)) ?_; (with_reducible refine (spec_l00Src_one.calls g s0_0 t863 t864 3 t865 t866 t867 w0 _ ?side1 ?side2 A4.out).mono ?_); (case side1 => repeat (first | (with_reducible first | exact HI0.out | apply IsS123.alloc | apply IsS123.drewN | apply IsS123.drew | apply IsS123.set_1 | apply IsS123.set_2 | refine IsS123.far ?_ NB0_854.out _ | refine IsS123.far ?_ NB0_861.out _) | exact HI0.out)); (case side2 => repeat (first | (with_reducible first | exact HB.out | apply below_alloc | apply pw_below_drewN | apply below_drew1 | refine below_set ?_ (IsS123.ge HI0.out) | refine below_set ?_ GE854.out | refine below_set ?_ GE861.out) | exact HB.out)); rintro e w14 ⟨rfl, hi, hb, hk⟩; refine ⟨_, rfl, ?_⟩; have n0_ := Aside0.mk (KeepBut.blk hk (g' := gb854) (o := .cells #[.int .i64 0, .int .i64 0, .int .i64 0, .int .i64 0, .int .i64 0, .int .i64 0, .int .i64 0, .int .i64 0, .int .i64 0] 58 (0, 0)) (by (with_reducible repeat (first | refine blk_drewN ?_ _ | refine blk_drew ?_ | refine blk_alloc ?_ _)); refine blk_far ?_ NB854_861.out _; (with_reducible repeat (first | refine blk_drewN ?_ _ | refine blk_drew ?_ | refine blk_alloc ?_ _)); exact BK854.out) NB854_0.out (by simp)); have n1_ := Aside0.mk (KeepBut.blk hk (g' := gb861) (o := .cells #[.int .i64 0, .int .i64 0, .int .i64 0, .int .i64 0, .int .i64 t855, .int .i64 t856, .int .i64 t857, .int .i64 t858, .int .i64 (wrap64 (100 + t862))] 58 (0, 0)) (by (with_reducible repeat (first | refine blk_drewN ?_ _ | refine blk_drew ?_ | refine blk_alloc ?_ _)); refine blk_put (cs := #[.int .i64 0, .int .i64 0, .int .i64 0, .int .i64 0, .int .i64 t855, .int .i64 t856, .int .i64 t857, .int .i64 t858, .int .i64 0]) ?_ 8 _ rfl; (with_reducible repeat (first | refine blk_drewN ?_ _ | refine blk_drew ?_ | refine blk_alloc ?_ _)); exact BK861.out) NB861_0.out (by simp)); have n2_ := Aside0.mk (KeepBut.trans (by repeat (first | (with_reducible first | exact HK.out | apply KeepBut.set_ | apply keep_drewN | apply keep_drew | apply keep_alloc | refine keep_far ?_ GW854.out _ | refine keep_far ?_ GW861.out _) | exact HK.out)) hk (.inl rfl)); have n3_ := Aside0.mk (hb); have n4_ := Aside0.mk (hi); clear BK854; clear BK861; clear HK; clear HB; clear HI0; have BK854 := n0_; have BK861 := n1_; have HK := n2_; have HB := n3_; have HI0 := n4_; clear n0_ n1_ n2_ n3_ n4_; (try clear hb); (try clear hb2); (try clear hk); (try clear hi)))
  (try simp only [Act.put, List.setIfInBounds_toArray, List.set_cons_zero, List.set_cons_succ])
  go_cut [] (fun wc => ∃ (kq : Nat) (x862008_4 : Int), Aside0 (spec_l04DrawOk.j0 kq s0_0 t866 t867 0 0 0 0 t855 t856 t857 t858 x862008_4 = some (r1, r2, r3, r4, r5, r6, r7, r8, r9, r10, r11)) ∧ Aside0 (kq ≤ k) ∧ Aside0 (wc.heap[gb854]? = some (.cells #[.int .i64 0, .int .i64 0, .int .i64 0, .int .i64 0, .int .i64 0, .int .i64 0, .int .i64 0, .int .i64 0, .int .i64 0] 58 (0, 0))) ∧ Aside0 (wc.heap[gb861]? = some (.cells #[.int .i64 0, .int .i64 0, .int .i64 0, .int .i64 0, .int .i64 t855, .int .i64 t856, .int .i64 t857, .int .i64 t858, .int .i64 x862008_4] 58 (0, 0))) ∧ Aside0 (IsS123 w0 wc g s0_0 t866 t867) ∧ Aside0 (KeepBut w wc g none) ∧ Aside0 (Below w0.heap.size w0 wc))
  case first =>
    have H := HC5.out
    clear HC5
    by_cases c15 : t865 = true
    · subst c15
      have H1 : (spec_l04DrawOk.j0 k s0_0 t866 t867 0 0 0 0 t855 t856 t857 t858 (wrap64 ((wrap64 (100 + t862)) + 1500))) = some (r1, r2, r3, r4, r5, r6, r7, r8, r9, r10, r11) := by rw [if_pos rfl] at H; exact H
      clear H
      have H := H1
      clear H1
      have H' := Aside0.mk H
      clear H
      have hnb16 := NB861_854.out
      have hnc16 := NB854_861.out
      have hnb17 := NB861_0.out
      have hnc17 := NB0_861.out
      have hcz18_0 : w14.cell? ⟨gb861, 0, none⟩ = some (.int .i64 0) := (blk_cell BK861.out 0).trans rfl
      have hcz18_1 : w14.cell? ⟨gb861, 1, none⟩ = some (.int .i64 0) := (blk_cell BK861.out 1).trans rfl
      have hcz18_2 : w14.cell? ⟨gb861, 2, none⟩ = some (.int .i64 0) := (blk_cell BK861.out 2).trans rfl
      have hcz18_3 : w14.cell? ⟨gb861, 3, none⟩ = some (.int .i64 0) := (blk_cell BK861.out 3).trans rfl
      have hcz18_4 : w14.cell? ⟨gb861, 4, none⟩ = some (.int .i64 t855) := (blk_cell BK861.out 4).trans rfl
      have hcz18_5 : w14.cell? ⟨gb861, 5, none⟩ = some (.int .i64 t856) := (blk_cell BK861.out 5).trans rfl
      have hcz18_6 : w14.cell? ⟨gb861, 6, none⟩ = some (.int .i64 t857) := (blk_cell BK861.out 6).trans rfl
      have hcz18_7 : w14.cell? ⟨gb861, 7, none⟩ = some (.int .i64 t858) := (blk_cell BK861.out 7).trans rfl
      have hcz18_8 : w14.cell? ⟨gb861, 8, none⟩ = some (.int .i64 (wrap64 (100 + t862))) := (blk_cell BK861.out 8).trans rfl
      have hfz18_0 := blk_frozen BK861.out 0
      have hfz18_1 := blk_frozen BK861.out 1
      have hfz18_2 := blk_frozen BK861.out 2
      have hfz18_3 := blk_frozen BK861.out 3
      have hfz18_4 := blk_frozen BK861.out 4
      have hfz18_5 := blk_frozen BK861.out 5
      have hfz18_6 := blk_frozen BK861.out 6
      have hfz18_7 := blk_frozen BK861.out 7
      have hfz18_8 := blk_frozen BK861.out 8
      go_wp2
      go_meet
      case rel => exact ⟨_, (wrap64 ((wrap64 (100 + t862)) + 1500)), H', ⟨by first | omega | exact Nat.le_refl _⟩, ⟨by (with_reducible repeat (first | refine blk_drewN ?_ _ | refine blk_drew ?_ | refine blk_alloc ?_ _)); refine blk_far ?_ NB854_861.out _; (with_reducible repeat (first | refine blk_drewN ?_ _ | refine blk_drew ?_ | refine blk_alloc ?_ _)); exact BK854.out⟩, ⟨by (with_reducible repeat (first | refine blk_drewN ?_ _ | refine blk_drew ?_ | refine blk_alloc ?_ _)); refine blk_put (cs := #[.int .i64 0, .int .i64 0, .int .i64 0, .int .i64 0, .int .i64 t855, .int .i64 t856, .int .i64 t857, .int .i64 t858, .int .i64 (wrap64 (100 + t862))]) ?_ 8 _ rfl; (with_reducible repeat (first | refine blk_drewN ?_ _ | refine blk_drew ?_ | refine blk_alloc ?_ _)); exact BK861.out⟩, ⟨by repeat (first | (with_reducible first | exact HI0.out | apply IsS123.alloc | apply IsS123.drewN | apply IsS123.drew | apply IsS123.set_1 | apply IsS123.set_2 | refine IsS123.far ?_ NB0_854.out _ | refine IsS123.far ?_ NB0_861.out _) | exact HI0.out)⟩, ⟨by repeat (first | (with_reducible first | exact HK.out | apply KeepBut.set_ | apply keep_drewN | apply keep_drew | apply keep_alloc | refine keep_far ?_ GW854.out _ | refine keep_far ?_ GW861.out _) | exact HK.out)⟩, ⟨by repeat (first | (with_reducible first | exact HB.out | apply below_alloc | apply pw_below_drewN | apply below_drew1 | refine below_set ?_ (IsS123.ge HI0.out) | refine below_set ?_ GE854.out | refine below_set ?_ GE861.out) | exact HB.out)⟩⟩
    · replace c15 := Bool.eq_false_iff.mpr c15
      subst c15
      have H1 : (spec_l04DrawOk.j0 k s0_0 t866 t867 0 0 0 0 t855 t856 t857 t858 (wrap64 (100 + t862))) = some (r1, r2, r3, r4, r5, r6, r7, r8, r9, r10, r11) := by rw [if_neg (show ¬ (false = true) by decide)] at H; exact H
      clear H
      have H := H1
      clear H1
      have H' := Aside0.mk H
      clear H
      go_wp2
      go_meet
      case rel => exact ⟨_, (wrap64 (100 + t862)), H', ⟨by first | omega | exact Nat.le_refl _⟩, ⟨by (with_reducible repeat (first | refine blk_drewN ?_ _ | refine blk_drew ?_ | refine blk_alloc ?_ _)); exact BK854.out⟩, ⟨by (with_reducible repeat (first | refine blk_drewN ?_ _ | refine blk_drew ?_ | refine blk_alloc ?_ _)); exact BK861.out⟩, ⟨by repeat (first | (with_reducible first | exact HI0.out | apply IsS123.alloc | apply IsS123.drewN | apply IsS123.drew | apply IsS123.set_1 | apply IsS123.set_2 | refine IsS123.far ?_ NB0_854.out _ | refine IsS123.far ?_ NB0_861.out _) | exact HI0.out)⟩, ⟨by repeat (first | (with_reducible first | exact HK.out | apply KeepBut.set_ | apply keep_drewN | apply keep_drew | apply keep_alloc | refine keep_far ?_ GW854.out _ | refine keep_far ?_ GW861.out _) | exact HK.out)⟩, ⟨by repeat (first | (with_reducible first | exact HB.out | apply below_alloc | apply pw_below_drewN | apply below_drew1 | refine below_set ?_ (IsS123.ge HI0.out) | refine below_set ?_ GE854.out | refine below_set ?_ GE861.out) | exact HB.out)⟩⟩
  case rest =>
    clear HC5
    try clear c1
    try clear p2
    try clear p6
    try clear c9
    try clear c10
    try clear c15
    try clear c16
    try clear c17
    try clear hcz11_0
    try clear hcz11_1
    try clear hcz11_2
    try clear hcz11_3
    try clear hcz11_4
    try clear hcz11_5
    try clear hcz11_6
    try clear hcz11_7
    try clear hcz11_8
    try clear hcz13_0
    try clear hcz13_1
    try clear hcz13_2
    try clear hcz13_3
    try clear hcz13_4
    try clear hcz13_5
    try clear hcz13_6
    try clear hcz13_7
    try clear hcz13_8
    try clear hcz18_0
    try clear hcz18_1
    try clear hcz18_2
    try clear hcz18_3
    try clear hcz18_4
    try clear hcz18_5
    try clear hcz18_6
    try clear hcz18_7
    try clear hcz18_8
    try clear hfz11_0
    try clear hfz11_1
    try clear hfz11_2
    try clear hfz11_3
    try clear hfz11_4
    try clear hfz11_5
    try clear hfz11_6
    try clear hfz11_7
    try clear hfz11_8
    try clear hfz13_0
    try clear hfz13_1
    try clear hfz13_2
    try clear hfz13_3
    try clear hfz13_4
    try clear hfz13_5
    try clear hfz13_6
    try clear hfz13_7
    try clear hfz13_8
    try clear hfz18_0
    try clear hfz18_1
    try clear hfz18_2
    try clear hfz18_3
    try clear hfz18_4
    try clear hfz18_5
    try clear hfz18_6
    try clear hfz18_7
    try clear hfz18_8
    obtain ⟨kq, x862008_4, HA, HJ4, BK854, BK861, HI0, HK, HB⟩ := hcut
    cases kq with
    | zero => exact absurd HA.out (by simp [spec_l04DrawOk.j0])
    | succ kj4 =>
      have H := HA.out
      clear HA
      simp only [spec_l04DrawOk.j0] at H
      replace H := Option.bind_eq_some_iff.mp H
      obtain ⟨⟨t868, t869, t870⟩, A190, H⟩ := H
      replace H : ((spec_l00Src_pick.f s0_0 t869 t870 9).bind fun bt871 => ((spec_l00Src_pick.f s0_0 bt871.2.1 bt871.2.2 61).bind fun bt874 => ((spec_l00Src_pick.f s0_0 bt874.2.1 bt874.2.2 61).bind fun bt877 => ((spec_l00Src_one.f s0_0 bt877.2.1 bt877.2.2 10).bind fun bt880 => (if bt880.1 = true then ((spec_l00Src_among.f s0_0 bt880.2.1 bt880.2.2 (([(-10), 10] : List Int))).bind fun bt886 => (spec_l04DrawOk.j1 kj4 s0_0 bt886.2.1 bt886.2.2 (wrap64 ((wrap64 ((wrap64 ((wrap64 (t855 + (wrap64 (2 * (wrap64 ((wrap64 (t857 + t868)) - 4)))))) + bt874.1)) - 30)) + bt886.1)) (wrap64 ((wrap64 ((wrap64 (t856 + (wrap64 (2 * (wrap64 ((wrap64 (t858 + bt871.1)) - 4)))))) + bt877.1)) - 30)) (wrap64 ((wrap64 (t857 + t868)) - 4)) (wrap64 ((wrap64 (t858 + bt871.1)) - 4)) t855 t856 t857 t858 x862008_4)) else (spec_l04DrawOk.j1 kj4 s0_0 bt880.2.1 bt880.2.2 (wrap64 ((wrap64 ((wrap64 (t855 + (wrap64 (2 * (wrap64 ((wrap64 (t857 + t868)) - 4)))))) + bt874.1)) - 30)) (wrap64 ((wrap64 ((wrap64 (t856 + (wrap64 (2 * (wrap64 ((wrap64 (t858 + bt871.1)) - 4)))))) + bt877.1)) - 30)) (wrap64 ((wrap64 (t857 + t868)) - 4)) (wrap64 ((wrap64 (t858 + bt871.1)) - 4)) t855 t856 t857 t858 x862008_4)))))) = some (r1, r2, r3, r4, r5, r6, r7, r8, r9, r10, r11) := H
      have A19 := Aside0.mk A190
      clear A190
      replace H := Option.bind_eq_some_iff.mp H
      obtain ⟨⟨t871, t872, t873⟩, A200, H⟩ := H
      replace H : ((spec_l00Src_pick.f s0_0 t872 t873 61).bind fun bt874 => ((spec_l00Src_pick.f s0_0 bt874.2.1 bt874.2.2 61).bind fun bt877 => ((spec_l00Src_one.f s0_0 bt877.2.1 bt877.2.2 10).bind fun bt880 => (if bt880.1 = true then ((spec_l00Src_among.f s0_0 bt880.2.1 bt880.2.2 (([(-10), 10] : List Int))).bind fun bt886 => (spec_l04DrawOk.j1 kj4 s0_0 bt886.2.1 bt886.2.2 (wrap64 ((wrap64 ((wrap64 ((wrap64 (t855 + (wrap64 (2 * (wrap64 ((wrap64 (t857 + t868)) - 4)))))) + bt874.1)) - 30)) + bt886.1)) (wrap64 ((wrap64 ((wrap64 (t856 + (wrap64 (2 * (wrap64 ((wrap64 (t858 + t871)) - 4)))))) + bt877.1)) - 30)) (wrap64 ((wrap64 (t857 + t868)) - 4)) (wrap64 ((wrap64 (t858 + t871)) - 4)) t855 t856 t857 t858 x862008_4)) else (spec_l04DrawOk.j1 kj4 s0_0 bt880.2.1 bt880.2.2 (wrap64 ((wrap64 ((wrap64 (t855 + (wrap64 (2 * (wrap64 ((wrap64 (t857 + t868)) - 4)))))) + bt874.1)) - 30)) (wrap64 ((wrap64 ((wrap64 (t856 + (wrap64 (2 * (wrap64 ((wrap64 (t858 + t871)) - 4)))))) + bt877.1)) - 30)) (wrap64 ((wrap64 (t857 + t868)) - 4)) (wrap64 ((wrap64 (t858 + t871)) - 4)) t855 t856 t857 t858 x862008_4))))) = some (r1, r2, r3, r4, r5, r6, r7, r8, r9, r10, r11) := H
      have A20 := Aside0.mk A200
      clear A200
      replace H := Option.bind_eq_some_iff.mp H
      obtain ⟨⟨t874, t875, t876⟩, A210, H⟩ := H
      replace H : ((spec_l00Src_pick.f s0_0 t875 t876 61).bind fun bt877 => ((spec_l00Src_one.f s0_0 bt877.2.1 bt877.2.2 10).bind fun bt880 => (if bt880.1 = true then ((spec_l00Src_among.f s0_0 bt880.2.1 bt880.2.2 (([(-10), 10] : List Int))).bind fun bt886 => (spec_l04DrawOk.j1 kj4 s0_0 bt886.2.1 bt886.2.2 (wrap64 ((wrap64 ((wrap64 ((wrap64 (t855 + (wrap64 (2 * (wrap64 ((wrap64 (t857 + t868)) - 4)))))) + t874)) - 30)) + bt886.1)) (wrap64 ((wrap64 ((wrap64 (t856 + (wrap64 (2 * (wrap64 ((wrap64 (t858 + t871)) - 4)))))) + bt877.1)) - 30)) (wrap64 ((wrap64 (t857 + t868)) - 4)) (wrap64 ((wrap64 (t858 + t871)) - 4)) t855 t856 t857 t858 x862008_4)) else (spec_l04DrawOk.j1 kj4 s0_0 bt880.2.1 bt880.2.2 (wrap64 ((wrap64 ((wrap64 (t855 + (wrap64 (2 * (wrap64 ((wrap64 (t857 + t868)) - 4)))))) + t874)) - 30)) (wrap64 ((wrap64 ((wrap64 (t856 + (wrap64 (2 * (wrap64 ((wrap64 (t858 + t871)) - 4)))))) + bt877.1)) - 30)) (wrap64 ((wrap64 (t857 + t868)) - 4)) (wrap64 ((wrap64 (t858 + t871)) - 4)) t855 t856 t857 t858 x862008_4)))) = some (r1, r2, r3, r4, r5, r6, r7, r8, r9, r10, r11) := H
      have A21 := Aside0.mk A210
      clear A210
      replace H := Option.bind_eq_some_iff.mp H
      obtain ⟨⟨t877, t878, t879⟩, A220, H⟩ := H
      replace H : ((spec_l00Src_one.f s0_0 t878 t879 10).bind fun bt880 => (if bt880.1 = true then ((spec_l00Src_among.f s0_0 bt880.2.1 bt880.2.2 (([(-10), 10] : List Int))).bind fun bt886 => (spec_l04DrawOk.j1 kj4 s0_0 bt886.2.1 bt886.2.2 (wrap64 ((wrap64 ((wrap64 ((wrap64 (t855 + (wrap64 (2 * (wrap64 ((wrap64 (t857 + t868)) - 4)))))) + t874)) - 30)) + bt886.1)) (wrap64 ((wrap64 ((wrap64 (t856 + (wrap64 (2 * (wrap64 ((wrap64 (t858 + t871)) - 4)))))) + t877)) - 30)) (wrap64 ((wrap64 (t857 + t868)) - 4)) (wrap64 ((wrap64 (t858 + t871)) - 4)) t855 t856 t857 t858 x862008_4)) else (spec_l04DrawOk.j1 kj4 s0_0 bt880.2.1 bt880.2.2 (wrap64 ((wrap64 ((wrap64 (t855 + (wrap64 (2 * (wrap64 ((wrap64 (t857 + t868)) - 4)))))) + t874)) - 30)) (wrap64 ((wrap64 ((wrap64 (t856 + (wrap64 (2 * (wrap64 ((wrap64 (t858 + t871)) - 4)))))) + t877)) - 30)) (wrap64 ((wrap64 (t857 + t868)) - 4)) (wrap64 ((wrap64 (t858 + t871)) - 4)) t855 t856 t857 t858 x862008_4))) = some (r1, r2, r3, r4, r5, r6, r7, r8, r9, r10, r11) := H
      have A22 := Aside0.mk A220
      clear A220
      replace H := Option.bind_eq_some_iff.mp H
      obtain ⟨⟨t880, t881, t882⟩, A230, H⟩ := H
      replace H : (if t880 = true then ((spec_l00Src_among.f s0_0 t881 t882 (([(-10), 10] : List Int))).bind fun bt886 => (spec_l04DrawOk.j1 kj4 s0_0 bt886.2.1 bt886.2.2 (wrap64 ((wrap64 ((wrap64 ((wrap64 (t855 + (wrap64 (2 * (wrap64 ((wrap64 (t857 + t868)) - 4)))))) + t874)) - 30)) + bt886.1)) (wrap64 ((wrap64 ((wrap64 (t856 + (wrap64 (2 * (wrap64 ((wrap64 (t858 + t871)) - 4)))))) + t877)) - 30)) (wrap64 ((wrap64 (t857 + t868)) - 4)) (wrap64 ((wrap64 (t858 + t871)) - 4)) t855 t856 t857 t858 x862008_4)) else (spec_l04DrawOk.j1 kj4 s0_0 t881 t882 (wrap64 ((wrap64 ((wrap64 (t855 + (wrap64 (2 * (wrap64 ((wrap64 (t857 + t868)) - 4)))))) + t874)) - 30)) (wrap64 ((wrap64 ((wrap64 (t856 + (wrap64 (2 * (wrap64 ((wrap64 (t858 + t871)) - 4)))))) + t877)) - 30)) (wrap64 ((wrap64 (t857 + t868)) - 4)) (wrap64 ((wrap64 (t858 + t871)) - 4)) t855 t856 t857 t858 x862008_4)) = some (r1, r2, r3, r4, r5, r6, r7, r8, r9, r10, r11) := H
      have A23 := Aside0.mk A230
      clear A230
      have HC24 := Aside0.mk H
      clear H
      try go_wp2
      have n0_ := Aside0.mk (blk_drew BK854.out)
      have n1_ := Aside0.mk (blk_drew BK861.out)
      have n2_ := Aside0.mk (IsS123.drew HI0.out)
      have n3_ := Aside0.mk (keep_drew HK.out)
      have n4_ := Aside0.mk (below_drew1 HB.out)
      clear BK854
      clear BK861
      clear HI0
      clear HK
      clear HB
      have BK854 := n0_
      have BK861 := n1_
      have HI0 := n2_
      have HK := n3_
      have HB := n4_
      clear n0_ n1_ n2_ n3_ n4_
      refine start_ (n := 10) (S := fun w' => w'.cell? ⟨gb861, 0, none⟩ = some (.int .i64 0) ∧ w'.cell? ⟨gb861, 1, none⟩ = some (.int .i64 0) ∧ w'.cell? ⟨gb861, 2, none⟩ = some (.int .i64 0) ∧ w'.cell? ⟨gb861, 3, none⟩ = some (.int .i64 0) ∧ w'.cell? ⟨gb861, 4, none⟩ = some (.int .i64 t855) ∧ w'.cell? ⟨gb861, 5, none⟩ = some (.int .i64 t856) ∧ w'.cell? ⟨gb861, 6, none⟩ = some (.int .i64 t857) ∧ w'.cell? ⟨gb861, 7, none⟩ = some (.int .i64 t858) ∧ w'.cell? ⟨gb861, 8, none⟩ = some (.int .i64 x862008_4)) (ds := [9]) #[false, false, false, false, false, false, false, false, false, false] (by kernel_rfl) rfl rfl ⟨(blk_cell BK861.out 0).trans rfl, (blk_cell BK861.out 1).trans rfl, (blk_cell BK861.out 2).trans rfl, (blk_cell BK861.out 3).trans rfl, (blk_cell BK861.out 4).trans rfl, (blk_cell BK861.out 5).trans rfl, (blk_cell BK861.out 6).trans rfl, (blk_cell BK861.out 7).trans rfl, (blk_cell BK861.out 8).trans rfl⟩ (fun hHeld => ?_); refine with_tabW spec_l04DrawOk.tab5 spec_l04DrawOk.bits5 (fun HT_ HW_ => ?_)
      generalize wc.drew = w25 at BK854 BK861 HI0 HK HB hHeld ⊢
      refine pure_ (i := 0) (N := some 17) (v := ?_) (a' := ?_) #[true, false, false, false, false, false, false, false, false, false] rfl rfl (any_of HT_.out (by kernel_rfl)) (fun _ _ _ h => h) (Or.inl ⟨by rfl, ?_⟩) ?_ ?_
      rotate_left
      · intro w'
        go_simp
        with_reducible rfl
      rotate_left
      · simp only [Act.put, List.setIfInBounds_toArray, List.set_cons_zero, List.set_cons_succ, i64_w, i32_w]
        rfl
      refine pure_ (i := 1) (N := some 18) (v := ?_) (a' := ?_) #[true, true, false, false, false, false, false, false, false, false] rfl rfl (any_of HT_.out (by kernel_rfl)) (fun _ _ _ h => h) (Or.inl ⟨by rfl, ?_⟩) ?_ ?_
      rotate_left
      · intro w'
        go_simp
        with_reducible rfl
      rotate_left
      · simp only [Act.put, List.setIfInBounds_toArray, List.set_cons_zero, List.set_cons_succ, i64_w, i32_w]
        rfl
      refine pure_ (i := 3) (N := some 20) (v := ?_) (a' := ?_) #[true, true, false, true, false, false, false, false, false, false] rfl rfl (any_of HT_.out (by kernel_rfl)) (fun _ _ _ h => h) (Or.inl ⟨by rfl, ?_⟩) ?_ ?_
      rotate_left
      · intro w'
        go_simp
        with_reducible rfl
      rotate_left
      · simp only [Act.put, List.setIfInBounds_toArray, List.set_cons_zero, List.set_cons_succ, i64_w, i32_w]
        rfl
      refine take_ (i := 2) (N := some 19) (v := ?_) (a' := ?_) #[true, true, true, true, false, false, false, false, false, false] rfl rfl (take_ofW HT_.out HW_.out (by kernel_rfl)) (fun _ _ _ h => h) (Or.inl ⟨by rfl, ?_⟩) hHeld ?_ ?_
      rotate_left
      · rintro w' ⟨s0, s1, s2, s3, s4, s5, s6, s7, s8⟩
        go_simp
        with_reducible rfl
      rotate_left
      · simp only [Act.put, List.setIfInBounds_toArray, List.set_cons_zero, List.set_cons_succ, i64_w, i32_w]
        rfl
      refine one_ (i := 4) (N := some 21) #[true, true, true, true, true, false, false, false, false, false] rfl rfl (one_of HT_.out (by kernel_rfl)) (by decide) (fun K hK => ?_)
      refine goes_ Try.func107 (by kernel_rfl) rfl #[.pointer (some ⟨g, 0, none⟩), .int .i64 9] (by rfl) rfl rfl (by (try simp only [List.map_toArray, List.map_cons, List.map_nil]); first | done | rfl | (simp only [List.length_drop, List.length_take]; rfl)) ?_
      with_reducible refine (spec_l00Src_pick.calls g s0_0 t866 t867 9 t868 t869 t870 w0 _ ?side1 ?side2 A19.out).mono ?_
      (case side1 => repeat (first | (with_reducible first | exact HI0.out | apply IsS123.alloc | apply IsS123.drewN | apply IsS123.drew | apply IsS123.set_1 | apply IsS123.set_2 | refine IsS123.far ?_ NB0_854.out _ | refine IsS123.far ?_ NB0_861.out _) | exact HI0.out))
      (case side2 => repeat (first | (with_reducible first | exact HB.out | apply below_alloc | apply pw_below_drewN | apply below_drew1 | refine below_set ?_ (IsS123.ge HI0.out) | refine below_set ?_ GE854.out | refine below_set ?_ GE861.out) | exact HB.out))
      rintro e w26 ⟨rfl, hi, hb, hk⟩
      refine ⟨_, rfl, ?_⟩
      have n0_ := Aside0.mk (KeepBut.blk hk (g' := gb854) (o := .cells #[.int .i64 0, .int .i64 0, .int .i64 0, .int .i64 0, .int .i64 0, .int .i64 0, .int .i64 0, .int .i64 0, .int .i64 0] 58 (0, 0)) (by (with_reducible repeat (first | refine blk_drewN ?_ _ | refine blk_drew ?_ | refine blk_alloc ?_ _)); exact BK854.out) NB854_0.out (by simp))
      have n1_ := Aside0.mk (KeepBut.blk hk (g' := gb861) (o := .cells #[.int .i64 0, .int .i64 0, .int .i64 0, .int .i64 0, .int .i64 t855, .int .i64 t856, .int .i64 t857, .int .i64 t858, .int .i64 x862008_4] 58 (0, 0)) (by (with_reducible repeat (first | refine blk_drewN ?_ _ | refine blk_drew ?_ | refine blk_alloc ?_ _)); exact BK861.out) NB861_0.out (by simp))
      have n2_ := Aside0.mk (KeepBut.trans (by repeat (first | (with_reducible first | exact HK.out | apply KeepBut.set_ | apply keep_drewN | apply keep_drew | apply keep_alloc | refine keep_far ?_ GW854.out _ | refine keep_far ?_ GW861.out _) | exact HK.out)) hk (.inl rfl))
      have n3_ := Aside0.mk (hb)
      have n4_ := Aside0.mk (hi)
      clear BK854
      clear BK861
      clear HK
      clear HB
      clear HI0
      have BK854 := n0_
      have BK861 := n1_
      have HK := n2_
      have HB := n3_
      have HI0 := n4_
      clear n0_ n1_ n2_ n3_ n4_
      (try clear hb)
      (try clear hb2)
      (try clear hk)
      (try clear hi)
      refine hK.out _ _ ⟨(blk_cell BK861.out 0).trans rfl, (blk_cell BK861.out 1).trans rfl, (blk_cell BK861.out 2).trans rfl, (blk_cell BK861.out 3).trans rfl, (blk_cell BK861.out 4).trans rfl, (blk_cell BK861.out 5).trans rfl, (blk_cell BK861.out 6).trans rfl, (blk_cell BK861.out 7).trans rfl, (blk_cell BK861.out 8).trans rfl⟩ (fun hHeld => ?_)
      clear hK K
      refine norm_ (a' := ?_) ?_ ?_
      rotate_left
      · show Act.put _ (some 21) _ = _
        simp only [Act.put, List.setIfInBounds_toArray, List.set_cons_zero, List.set_cons_succ, i64_w, i32_w]
        rfl
      refine pure_ (i := 5) (N := some 22) (v := ?_) (a' := ?_) #[true, true, true, true, true, true, false, false, false, false] rfl rfl (any_of HT_.out (by kernel_rfl)) (fun _ _ _ h => h) (Or.inl ⟨by rfl, ?_⟩) ?_ ?_
      rotate_left
      · intro w'
        go_simp
        with_reducible rfl
      rotate_left
      · simp only [Act.put, List.setIfInBounds_toArray, List.set_cons_zero, List.set_cons_succ, i64_w, i32_w]
        rfl
      refine pure_ (i := 6) (N := some 23) (v := ?_) (a' := ?_) #[true, true, true, true, true, true, true, false, false, false] rfl rfl (any_of HT_.out (by kernel_rfl)) (fun _ _ _ h => h) (Or.inl ⟨by rfl, ?_⟩) ?_ ?_
      rotate_left
      · intro w'
        go_simp
        with_reducible rfl
      rotate_left
      · simp only [Act.put, List.setIfInBounds_toArray, List.set_cons_zero, List.set_cons_succ, i64_w, i32_w]
        rfl
      refine pure_ (i := 7) (N := some 24) (v := ?_) (a' := ?_) #[true, true, true, true, true, true, true, true, false, false] rfl rfl (any_of HT_.out (by kernel_rfl)) (fun _ _ _ h => h) (Or.inl ⟨by rfl, ?_⟩) ?_ ?_
      rotate_left
      · intro w'
        go_simp
        with_reducible rfl
      rotate_left
      · simp only [Act.put, List.setIfInBounds_toArray, List.set_cons_zero, List.set_cons_succ, i64_w, i32_w]
        rfl
      refine pure_ (i := 8) (N := some 25) (v := ?_) (a' := ?_) #[true, true, true, true, true, true, true, true, true, false] rfl rfl (any_of HT_.out (by kernel_rfl)) (fun _ _ _ h => h) (Or.inl ⟨by rfl, ?_⟩) ?_ ?_
      rotate_left
      · intro w'
        go_simp
        with_reducible rfl
      rotate_left
      · simp only [Act.put, List.setIfInBounds_toArray, List.set_cons_zero, List.set_cons_succ, i64_w, i32_w]
        rfl
      refine last_ (i := 9) (N := none) #[true, true, true, true, true, true, true, true, true, true] rfl rfl (one_of HT_.out (by kernel_rfl)) (by decide) (fun K hK => ?_)
      have hs27 : w26.cell? ⟨gb861, 2, none⟩ = some (.int .i64 0) := (blk_cell BK861.out 2).trans rfl
      have hfs27 := blk_frozen BK861.out 2
      have hns27_0 := NB854_861.out
      have hms27_0 := NB861_854.out
      refine skip_ (w1 := ?_) (by rfl) rfl ?_ ?_
      rotate_left
      · go_simp
        rfl
      refine hK.out _ _ ?_
      clear hK K
      refine done_ (done_of HT_.out (by kernel_rfl)) ?_
      try go_wp2
      have n0_ : Aside0 ((w26.setCell ⟨gb861, 2, none⟩ (.int .i64 (wrap64 ((wrap64 (t857 + t868)) - 4)))).heap[gb854]? = some (.cells #[.int .i64 0, .int .i64 0, .int .i64 0, .int .i64 0, .int .i64 0, .int .i64 0, .int .i64 0, .int .i64 0, .int .i64 0] 58 (0, 0))) := ⟨by (with_reducible repeat (first | refine blk_drewN ?_ _ | refine blk_drew ?_ | refine blk_alloc ?_ _)); refine blk_far ?_ NB854_861.out _; (with_reducible repeat (first | refine blk_drewN ?_ _ | refine blk_drew ?_ | refine blk_alloc ?_ _)); exact BK854.out⟩
      have n1_ : Aside0 ((w26.setCell ⟨gb861, 2, none⟩ (.int .i64 (wrap64 ((wrap64 (t857 + t868)) - 4)))).heap[gb861]? = some (.cells #[.int .i64 0, .int .i64 0, .int .i64 (wrap64 ((wrap64 (t857 + t868)) - 4)), .int .i64 0, .int .i64 t855, .int .i64 t856, .int .i64 t857, .int .i64 t858, .int .i64 x862008_4] 58 (0, 0))) := ⟨by (with_reducible repeat (first | refine blk_drewN ?_ _ | refine blk_drew ?_ | refine blk_alloc ?_ _)); refine blk_put (cs := #[.int .i64 0, .int .i64 0, .int .i64 0, .int .i64 0, .int .i64 t855, .int .i64 t856, .int .i64 t857, .int .i64 t858, .int .i64 x862008_4]) ?_ 2 _ rfl; (with_reducible repeat (first | refine blk_drewN ?_ _ | refine blk_drew ?_ | refine blk_alloc ?_ _)); exact BK861.out⟩
      have n2_ : Aside0 (IsS123 w0 (w26.setCell ⟨gb861, 2, none⟩ (.int .i64 (wrap64 ((wrap64 (t857 + t868)) - 4)))) g s0_0 t869 t870) := ⟨by repeat (first | (with_reducible first | exact HI0.out | apply IsS123.alloc | apply IsS123.drewN | apply IsS123.drew | apply IsS123.set_1 | apply IsS123.set_2 | refine IsS123.far ?_ NB0_854.out _ | refine IsS123.far ?_ NB0_861.out _) | exact HI0.out)⟩
      have n3_ : Aside0 (KeepBut w (w26.setCell ⟨gb861, 2, none⟩ (.int .i64 (wrap64 ((wrap64 (t857 + t868)) - 4)))) g none) := ⟨by repeat (first | (with_reducible first | exact HK.out | apply KeepBut.set_ | apply keep_drewN | apply keep_drew | apply keep_alloc | refine keep_far ?_ GW854.out _ | refine keep_far ?_ GW861.out _) | exact HK.out)⟩
      have n4_ : Aside0 (Below w0.heap.size w0 (w26.setCell ⟨gb861, 2, none⟩ (.int .i64 (wrap64 ((wrap64 (t857 + t868)) - 4))))) := ⟨by repeat (first | (with_reducible first | exact HB.out | apply below_alloc | apply pw_below_drewN | apply below_drew1 | refine below_set ?_ (IsS123.ge HI0.out) | refine below_set ?_ GE854.out | refine below_set ?_ GE861.out) | exact HB.out)⟩
      (try clear BK854)
      (try clear BK861)
      (try clear HI0)
      (try clear HK)
      (try clear HB)
      generalize (w26.setCell ⟨gb861, 2, none⟩ (.int .i64 (wrap64 ((wrap64 (t857 + t868)) - 4)))) = w28 at n0_ n1_ n2_ n3_ n4_ ⊢
      have BK854 := n0_
      have BK861 := n1_
      have HI0 := n2_
      have HK := n3_
      have HB := n4_
      clear n0_ n1_ n2_ n3_ n4_
      have n0_ := Aside0.mk (blk_drew BK854.out)
      have n1_ := Aside0.mk (blk_drew BK861.out)
      have n2_ := Aside0.mk (IsS123.drew HI0.out)
      have n3_ := Aside0.mk (keep_drew HK.out)
      have n4_ := Aside0.mk (below_drew1 HB.out)
      clear BK854
      clear BK861
      clear HI0
      clear HK
      clear HB
      have BK854 := n0_
      have BK861 := n1_
      have HI0 := n2_
      have HK := n3_
      have HB := n4_
      clear n0_ n1_ n2_ n3_ n4_
      refine start_ (n := 10) (S := fun w' => w'.cell? ⟨gb861, 0, none⟩ = some (.int .i64 0) ∧ w'.cell? ⟨gb861, 1, none⟩ = some (.int .i64 0) ∧ w'.cell? ⟨gb861, 2, none⟩ = some (.int .i64 (wrap64 ((wrap64 (t857 + t868)) - 4))) ∧ w'.cell? ⟨gb861, 3, none⟩ = some (.int .i64 0) ∧ w'.cell? ⟨gb861, 4, none⟩ = some (.int .i64 t855) ∧ w'.cell? ⟨gb861, 5, none⟩ = some (.int .i64 t856) ∧ w'.cell? ⟨gb861, 6, none⟩ = some (.int .i64 t857) ∧ w'.cell? ⟨gb861, 7, none⟩ = some (.int .i64 t858) ∧ w'.cell? ⟨gb861, 8, none⟩ = some (.int .i64 x862008_4)) (ds := [9]) #[false, false, false, false, false, false, false, false, false, false] (by kernel_rfl) rfl rfl ⟨(blk_cell BK861.out 0).trans rfl, (blk_cell BK861.out 1).trans rfl, (blk_cell BK861.out 2).trans rfl, (blk_cell BK861.out 3).trans rfl, (blk_cell BK861.out 4).trans rfl, (blk_cell BK861.out 5).trans rfl, (blk_cell BK861.out 6).trans rfl, (blk_cell BK861.out 7).trans rfl, (blk_cell BK861.out 8).trans rfl⟩ (fun hHeld => ?_); refine with_tabW spec_l04DrawOk.tab6 spec_l04DrawOk.bits6 (fun HT_ HW_ => ?_)
      generalize w28.drew = w29 at BK854 BK861 HI0 HK HB hHeld ⊢
      refine pure_ (i := 0) (N := some 26) (v := ?_) (a' := ?_) #[true, false, false, false, false, false, false, false, false, false] rfl rfl (any_of HT_.out (by kernel_rfl)) (fun _ _ _ h => h) (Or.inl ⟨by rfl, ?_⟩) ?_ ?_
      rotate_left
      · intro w'
        go_simp
        with_reducible rfl
      rotate_left
      · simp only [Act.put, List.setIfInBounds_toArray, List.set_cons_zero, List.set_cons_succ, i64_w, i32_w]
        rfl
      refine pure_ (i := 1) (N := some 27) (v := ?_) (a' := ?_) #[true, true, false, false, false, false, false, false, false, false] rfl rfl (any_of HT_.out (by kernel_rfl)) (fun _ _ _ h => h) (Or.inl ⟨by rfl, ?_⟩) ?_ ?_
      rotate_left
      · intro w'
        go_simp
        with_reducible rfl
      rotate_left
      · simp only [Act.put, List.setIfInBounds_toArray, List.set_cons_zero, List.set_cons_succ, i64_w, i32_w]
        rfl
      refine pure_ (i := 3) (N := some 29) (v := ?_) (a' := ?_) #[true, true, false, true, false, false, false, false, false, false] rfl rfl (any_of HT_.out (by kernel_rfl)) (fun _ _ _ h => h) (Or.inl ⟨by rfl, ?_⟩) ?_ ?_
      rotate_left
      · intro w'
        go_simp
        with_reducible rfl
      rotate_left
      · simp only [Act.put, List.setIfInBounds_toArray, List.set_cons_zero, List.set_cons_succ, i64_w, i32_w]
        rfl
      refine take_ (i := 2) (N := some 28) (v := ?_) (a' := ?_) #[true, true, true, true, false, false, false, false, false, false] rfl rfl (take_ofW HT_.out HW_.out (by kernel_rfl)) (fun _ _ _ h => h) (Or.inl ⟨by rfl, ?_⟩) hHeld ?_ ?_
      rotate_left
      · rintro w' ⟨s0, s1, s2, s3, s4, s5, s6, s7, s8⟩
        go_simp
        with_reducible rfl
      rotate_left
      · simp only [Act.put, List.setIfInBounds_toArray, List.set_cons_zero, List.set_cons_succ, i64_w, i32_w]
        rfl
      refine one_ (i := 4) (N := some 30) #[true, true, true, true, true, false, false, false, false, false] rfl rfl (one_of HT_.out (by kernel_rfl)) (by decide) (fun K hK => ?_)
      refine goes_ Try.func107 (by kernel_rfl) rfl #[.pointer (some ⟨g, 0, none⟩), .int .i64 9] (by rfl) rfl rfl (by (try simp only [List.map_toArray, List.map_cons, List.map_nil]); first | done | rfl | (simp only [List.length_drop, List.length_take]; rfl)) ?_
      with_reducible refine (spec_l00Src_pick.calls g s0_0 t869 t870 9 t871 t872 t873 w0 _ ?side1 ?side2 A20.out).mono ?_
      (case side1 => repeat (first | (with_reducible first | exact HI0.out | apply IsS123.alloc | apply IsS123.drewN | apply IsS123.drew | apply IsS123.set_1 | apply IsS123.set_2 | refine IsS123.far ?_ NB0_854.out _ | refine IsS123.far ?_ NB0_861.out _) | exact HI0.out))
      (case side2 => repeat (first | (with_reducible first | exact HB.out | apply below_alloc | apply pw_below_drewN | apply below_drew1 | refine below_set ?_ (IsS123.ge HI0.out) | refine below_set ?_ GE854.out | refine below_set ?_ GE861.out) | exact HB.out))
      rintro e w30 ⟨rfl, hi, hb, hk⟩
      refine ⟨_, rfl, ?_⟩
      have n0_ := Aside0.mk (KeepBut.blk hk (g' := gb854) (o := .cells #[.int .i64 0, .int .i64 0, .int .i64 0, .int .i64 0, .int .i64 0, .int .i64 0, .int .i64 0, .int .i64 0, .int .i64 0] 58 (0, 0)) (by (with_reducible repeat (first | refine blk_drewN ?_ _ | refine blk_drew ?_ | refine blk_alloc ?_ _)); exact BK854.out) NB854_0.out (by simp))
      have n1_ := Aside0.mk (KeepBut.blk hk (g' := gb861) (o := .cells #[.int .i64 0, .int .i64 0, .int .i64 (wrap64 ((wrap64 (t857 + t868)) - 4)), .int .i64 0, .int .i64 t855, .int .i64 t856, .int .i64 t857, .int .i64 t858, .int .i64 x862008_4] 58 (0, 0)) (by (with_reducible repeat (first | refine blk_drewN ?_ _ | refine blk_drew ?_ | refine blk_alloc ?_ _)); exact BK861.out) NB861_0.out (by simp))
      have n2_ := Aside0.mk (KeepBut.trans (by repeat (first | (with_reducible first | exact HK.out | apply KeepBut.set_ | apply keep_drewN | apply keep_drew | apply keep_alloc | refine keep_far ?_ GW854.out _ | refine keep_far ?_ GW861.out _) | exact HK.out)) hk (.inl rfl))
      have n3_ := Aside0.mk (hb)
      have n4_ := Aside0.mk (hi)
      clear BK854
      clear BK861
      clear HK
      clear HB
      clear HI0
      have BK854 := n0_
      have BK861 := n1_
      have HK := n2_
      have HB := n3_
      have HI0 := n4_
      clear n0_ n1_ n2_ n3_ n4_
      (try clear hb)
      (try clear hb2)
      (try clear hk)
      (try clear hi)
      refine hK.out _ _ ⟨(blk_cell BK861.out 0).trans rfl, (blk_cell BK861.out 1).trans rfl, (blk_cell BK861.out 2).trans rfl, (blk_cell BK861.out 3).trans rfl, (blk_cell BK861.out 4).trans rfl, (blk_cell BK861.out 5).trans rfl, (blk_cell BK861.out 6).trans rfl, (blk_cell BK861.out 7).trans rfl, (blk_cell BK861.out 8).trans rfl⟩ (fun hHeld => ?_)
      clear hK K
      refine norm_ (a' := ?_) ?_ ?_
      rotate_left
      · show Act.put _ (some 30) _ = _
        simp only [Act.put, List.setIfInBounds_toArray, List.set_cons_zero, List.set_cons_succ, i64_w, i32_w]
        rfl
      refine pure_ (i := 5) (N := some 31) (v := ?_) (a' := ?_) #[true, true, true, true, true, true, false, false, false, false] rfl rfl (any_of HT_.out (by kernel_rfl)) (fun _ _ _ h => h) (Or.inl ⟨by rfl, ?_⟩) ?_ ?_
      rotate_left
      · intro w'
        go_simp
        with_reducible rfl
      rotate_left
      · simp only [Act.put, List.setIfInBounds_toArray, List.set_cons_zero, List.set_cons_succ, i64_w, i32_w]
        rfl
      refine pure_ (i := 6) (N := some 32) (v := ?_) (a' := ?_) #[true, true, true, true, true, true, true, false, false, false] rfl rfl (any_of HT_.out (by kernel_rfl)) (fun _ _ _ h => h) (Or.inl ⟨by rfl, ?_⟩) ?_ ?_
      rotate_left
      · intro w'
        go_simp
        with_reducible rfl
      rotate_left
      · simp only [Act.put, List.setIfInBounds_toArray, List.set_cons_zero, List.set_cons_succ, i64_w, i32_w]
        rfl
      refine pure_ (i := 7) (N := some 33) (v := ?_) (a' := ?_) #[true, true, true, true, true, true, true, true, false, false] rfl rfl (any_of HT_.out (by kernel_rfl)) (fun _ _ _ h => h) (Or.inl ⟨by rfl, ?_⟩) ?_ ?_
      rotate_left
      · intro w'
        go_simp
        with_reducible rfl
      rotate_left
      · simp only [Act.put, List.setIfInBounds_toArray, List.set_cons_zero, List.set_cons_succ, i64_w, i32_w]
        rfl
      refine pure_ (i := 8) (N := some 34) (v := ?_) (a' := ?_) #[true, true, true, true, true, true, true, true, true, false] rfl rfl (any_of HT_.out (by kernel_rfl)) (fun _ _ _ h => h) (Or.inl ⟨by rfl, ?_⟩) ?_ ?_
      rotate_left
      · intro w'
        go_simp
        with_reducible rfl
      rotate_left
      · simp only [Act.put, List.setIfInBounds_toArray, List.set_cons_zero, List.set_cons_succ, i64_w, i32_w]
        rfl
      refine last_ (i := 9) (N := none) #[true, true, true, true, true, true, true, true, true, true] rfl rfl (one_of HT_.out (by kernel_rfl)) (by decide) (fun K hK => ?_)
      have hs31 : w30.cell? ⟨gb861, 3, none⟩ = some (.int .i64 0) := (blk_cell BK861.out 3).trans rfl
      have hfs31 := blk_frozen BK861.out 3
      have hns31_0 := NB854_861.out
      have hms31_0 := NB861_854.out
      refine skip_ (w1 := ?_) (by rfl) rfl ?_ ?_
      rotate_left
      · go_simp
        rfl
      refine hK.out _ _ ?_
      clear hK K
      refine done_ (done_of HT_.out (by kernel_rfl)) ?_
      try go_wp2
      have n0_ : Aside0 ((w30.setCell ⟨gb861, 3, none⟩ (.int .i64 (wrap64 ((wrap64 (t858 + t871)) - 4)))).heap[gb854]? = some (.cells #[.int .i64 0, .int .i64 0, .int .i64 0, .int .i64 0, .int .i64 0, .int .i64 0, .int .i64 0, .int .i64 0, .int .i64 0] 58 (0, 0))) := ⟨by (with_reducible repeat (first | refine blk_drewN ?_ _ | refine blk_drew ?_ | refine blk_alloc ?_ _)); refine blk_far ?_ NB854_861.out _; (with_reducible repeat (first | refine blk_drewN ?_ _ | refine blk_drew ?_ | refine blk_alloc ?_ _)); exact BK854.out⟩
      have n1_ : Aside0 ((w30.setCell ⟨gb861, 3, none⟩ (.int .i64 (wrap64 ((wrap64 (t858 + t871)) - 4)))).heap[gb861]? = some (.cells #[.int .i64 0, .int .i64 0, .int .i64 (wrap64 ((wrap64 (t857 + t868)) - 4)), .int .i64 (wrap64 ((wrap64 (t858 + t871)) - 4)), .int .i64 t855, .int .i64 t856, .int .i64 t857, .int .i64 t858, .int .i64 x862008_4] 58 (0, 0))) := ⟨by (with_reducible repeat (first | refine blk_drewN ?_ _ | refine blk_drew ?_ | refine blk_alloc ?_ _)); refine blk_put (cs := #[.int .i64 0, .int .i64 0, .int .i64 (wrap64 ((wrap64 (t857 + t868)) - 4)), .int .i64 0, .int .i64 t855, .int .i64 t856, .int .i64 t857, .int .i64 t858, .int .i64 x862008_4]) ?_ 3 _ rfl; (with_reducible repeat (first | refine blk_drewN ?_ _ | refine blk_drew ?_ | refine blk_alloc ?_ _)); exact BK861.out⟩
      have n2_ : Aside0 (IsS123 w0 (w30.setCell ⟨gb861, 3, none⟩ (.int .i64 (wrap64 ((wrap64 (t858 + t871)) - 4)))) g s0_0 t872 t873) := ⟨by repeat (first | (with_reducible first | exact HI0.out | apply IsS123.alloc | apply IsS123.drewN | apply IsS123.drew | apply IsS123.set_1 | apply IsS123.set_2 | refine IsS123.far ?_ NB0_854.out _ | refine IsS123.far ?_ NB0_861.out _) | exact HI0.out)⟩
      have n3_ : Aside0 (KeepBut w (w30.setCell ⟨gb861, 3, none⟩ (.int .i64 (wrap64 ((wrap64 (t858 + t871)) - 4)))) g none) := ⟨by repeat (first | (with_reducible first | exact HK.out | apply KeepBut.set_ | apply keep_drewN | apply keep_drew | apply keep_alloc | refine keep_far ?_ GW854.out _ | refine keep_far ?_ GW861.out _) | exact HK.out)⟩
      have n4_ : Aside0 (Below w0.heap.size w0 (w30.setCell ⟨gb861, 3, none⟩ (.int .i64 (wrap64 ((wrap64 (t858 + t871)) - 4))))) := ⟨by repeat (first | (with_reducible first | exact HB.out | apply below_alloc | apply pw_below_drewN | apply below_drew1 | refine below_set ?_ (IsS123.ge HI0.out) | refine below_set ?_ GE854.out | refine below_set ?_ GE861.out) | exact HB.out)⟩
      (try clear BK854)
      (try clear BK861)
      (try clear HI0)
      (try clear HK)
      (try clear HB)
      generalize (w30.setCell ⟨gb861, 3, none⟩ (.int .i64 (wrap64 ((wrap64 (t858 + t871)) - 4)))) = w32 at n0_ n1_ n2_ n3_ n4_ ⊢
      have BK854 := n0_
      have BK861 := n1_
      have HI0 := n2_
      have HK := n3_
      have HB := n4_
      clear n0_ n1_ n2_ n3_ n4_
      have n0_ := Aside0.mk (blk_drew BK854.out)
      have n1_ := Aside0.mk (blk_drew BK861.out)
      have n2_ := Aside0.mk (IsS123.drew HI0.out)
      have n3_ := Aside0.mk (keep_drew HK.out)
      have n4_ := Aside0.mk (below_drew1 HB.out)
      clear BK854
      clear BK861
      clear HI0
      clear HK
      clear HB
      have BK854 := n0_
      have BK861 := n1_
      have HI0 := n2_
      have HK := n3_
      have HB := n4_
      clear n0_ n1_ n2_ n3_ n4_
      refine start_ (n := 15) (S := fun w' => w'.cell? ⟨gb861, 0, none⟩ = some (.int .i64 0) ∧ w'.cell? ⟨gb861, 1, none⟩ = some (.int .i64 0) ∧ w'.cell? ⟨gb861, 2, none⟩ = some (.int .i64 (wrap64 ((wrap64 (t857 + t868)) - 4))) ∧ w'.cell? ⟨gb861, 3, none⟩ = some (.int .i64 (wrap64 ((wrap64 (t858 + t871)) - 4))) ∧ w'.cell? ⟨gb861, 4, none⟩ = some (.int .i64 t855) ∧ w'.cell? ⟨gb861, 5, none⟩ = some (.int .i64 t856) ∧ w'.cell? ⟨gb861, 6, none⟩ = some (.int .i64 t857) ∧ w'.cell? ⟨gb861, 7, none⟩ = some (.int .i64 t858) ∧ w'.cell? ⟨gb861, 8, none⟩ = some (.int .i64 x862008_4)) (ds := [14]) #[false, false, false, false, false, false, false, false, false, false, false, false, false, false, false] (by kernel_rfl) rfl rfl ⟨(blk_cell BK861.out 0).trans rfl, (blk_cell BK861.out 1).trans rfl, (blk_cell BK861.out 2).trans rfl, (blk_cell BK861.out 3).trans rfl, (blk_cell BK861.out 4).trans rfl, (blk_cell BK861.out 5).trans rfl, (blk_cell BK861.out 6).trans rfl, (blk_cell BK861.out 7).trans rfl, (blk_cell BK861.out 8).trans rfl⟩ (fun hHeld => ?_); refine with_tabW spec_l04DrawOk.tab7 spec_l04DrawOk.bits7 (fun HT_ HW_ => ?_)
      generalize w32.drew = w33 at BK854 BK861 HI0 HK HB hHeld ⊢
      refine pure_ (i := 0) (N := some 35) (v := ?_) (a' := ?_) #[true, false, false, false, false, false, false, false, false, false, false, false, false, false, false] rfl rfl (any_of HT_.out (by kernel_rfl)) (fun _ _ _ h => h) (Or.inl ⟨by rfl, ?_⟩) ?_ ?_
      rotate_left
      · intro w'
        go_simp
        with_reducible rfl
      rotate_left
      · simp only [Act.put, List.setIfInBounds_toArray, List.set_cons_zero, List.set_cons_succ, i64_w, i32_w]
        rfl
      refine pure_ (i := 1) (N := some 36) (v := ?_) (a' := ?_) #[true, true, false, false, false, false, false, false, false, false, false, false, false, false, false] rfl rfl (any_of HT_.out (by kernel_rfl)) (fun _ _ _ h => h) (Or.inl ⟨by rfl, ?_⟩) ?_ ?_
      rotate_left
      · intro w'
        go_simp
        with_reducible rfl
      rotate_left
      · simp only [Act.put, List.setIfInBounds_toArray, List.set_cons_zero, List.set_cons_succ, i64_w, i32_w]
        rfl
      refine pure_ (i := 3) (N := some 38) (v := ?_) (a' := ?_) #[true, true, false, true, false, false, false, false, false, false, false, false, false, false, false] rfl rfl (any_of HT_.out (by kernel_rfl)) (fun _ _ _ h => h) (Or.inl ⟨by rfl, ?_⟩) ?_ ?_
      rotate_left
      · intro w'
        go_simp
        with_reducible rfl
      rotate_left
      · simp only [Act.put, List.setIfInBounds_toArray, List.set_cons_zero, List.set_cons_succ, i64_w, i32_w]
        rfl
      refine pure_ (i := 4) (N := some 39) (v := ?_) (a' := ?_) #[true, true, false, true, true, false, false, false, false, false, false, false, false, false, false] rfl rfl (any_of HT_.out (by kernel_rfl)) (fun _ _ _ h => h) (Or.inl ⟨by rfl, ?_⟩) ?_ ?_
      rotate_left
      · intro w'
        go_simp
        with_reducible rfl
      rotate_left
      · simp only [Act.put, List.setIfInBounds_toArray, List.set_cons_zero, List.set_cons_succ, i64_w, i32_w]
        rfl
      refine pure_ (i := 8) (N := some 43) (v := ?_) (a' := ?_) #[true, true, false, true, true, false, false, false, true, false, false, false, false, false, false] rfl rfl (any_of HT_.out (by kernel_rfl)) (fun _ _ _ h => h) (Or.inl ⟨by rfl, ?_⟩) ?_ ?_
      rotate_left
      · intro w'
        go_simp
        with_reducible rfl
      rotate_left
      · simp only [Act.put, List.setIfInBounds_toArray, List.set_cons_zero, List.set_cons_succ, i64_w, i32_w]
        rfl
      refine take_ (i := 2) (N := some 37) (v := ?_) (a' := ?_) #[true, true, true, true, true, false, false, false, true, false, false, false, false, false, false] rfl rfl (take_ofW HT_.out HW_.out (by kernel_rfl)) (fun _ _ _ h => h) (Or.inl ⟨by rfl, ?_⟩) hHeld ?_ ?_
      rotate_left
      · rintro w' ⟨s0, s1, s2, s3, s4, s5, s6, s7, s8⟩
        go_simp
        with_reducible rfl
      rotate_left
      · simp only [Act.put, List.setIfInBounds_toArray, List.set_cons_zero, List.set_cons_succ, i64_w, i32_w]
        rfl
      refine take_ (i := 5) (N := some 40) (v := ?_) (a' := ?_) #[true, true, true, true, true, true, false, false, true, false, false, false, false, false, false] rfl rfl (take_ofW HT_.out HW_.out (by kernel_rfl)) (fun _ _ _ h => h) (Or.inl ⟨by rfl, ?_⟩) hHeld ?_ ?_
      rotate_left
      · rintro w' ⟨s0, s1, s2, s3, s4, s5, s6, s7, s8⟩
        go_simp
        with_reducible rfl
      rotate_left
      · simp only [Act.put, List.setIfInBounds_toArray, List.set_cons_zero, List.set_cons_succ, i64_w, i32_w]
        rfl
      refine pure_ (i := 6) (N := some 41) (v := ?_) (a' := ?_) #[true, true, true, true, true, true, true, false, true, false, false, false, false, false, false] rfl rfl (any_of HT_.out (by kernel_rfl)) (fun _ _ _ h => h) (Or.inl ⟨by rfl, ?_⟩) ?_ ?_
      rotate_left
      · intro w'
        go_simp
        with_reducible rfl
      rotate_left
      · simp only [Act.put, List.setIfInBounds_toArray, List.set_cons_zero, List.set_cons_succ, i64_w, i32_w]
        rfl
      refine pure_ (i := 7) (N := some 42) (v := ?_) (a' := ?_) #[true, true, true, true, true, true, true, true, true, false, false, false, false, false, false] rfl rfl (any_of HT_.out (by kernel_rfl)) (fun _ _ _ h => h) (Or.inl ⟨by rfl, ?_⟩) ?_ ?_
      rotate_left
      · intro w'
        go_simp
        with_reducible rfl
      rotate_left
      · simp only [Act.put, List.setIfInBounds_toArray, List.set_cons_zero, List.set_cons_succ, i64_w, i32_w]
        rfl
      refine one_ (i := 9) (N := some 44) #[true, true, true, true, true, true, true, true, true, true, false, false, false, false, false] rfl rfl (one_of HT_.out (by kernel_rfl)) (by decide) (fun K hK => ?_)
      refine goes_ Try.func107 (by kernel_rfl) rfl #[.pointer (some ⟨g, 0, none⟩), .int .i64 61] (by rfl) rfl rfl (by (try simp only [List.map_toArray, List.map_cons, List.map_nil]); first | done | rfl | (simp only [List.length_drop, List.length_take]; rfl)) ?_
      with_reducible refine (spec_l00Src_pick.calls g s0_0 t872 t873 61 t874 t875 t876 w0 _ ?side1 ?side2 A21.out).mono ?_
      (case side1 => repeat (first | (with_reducible first | exact HI0.out | apply IsS123.alloc | apply IsS123.drewN | apply IsS123.drew | apply IsS123.set_1 | apply IsS123.set_2 | refine IsS123.far ?_ NB0_854.out _ | refine IsS123.far ?_ NB0_861.out _) | exact HI0.out))
      (case side2 => repeat (first | (with_reducible first | exact HB.out | apply below_alloc | apply pw_below_drewN | apply below_drew1 | refine below_set ?_ (IsS123.ge HI0.out) | refine below_set ?_ GE854.out | refine below_set ?_ GE861.out) | exact HB.out))
      rintro e w34 ⟨rfl, hi, hb, hk⟩
      refine ⟨_, rfl, ?_⟩
      have n0_ := Aside0.mk (KeepBut.blk hk (g' := gb854) (o := .cells #[.int .i64 0, .int .i64 0, .int .i64 0, .int .i64 0, .int .i64 0, .int .i64 0, .int .i64 0, .int .i64 0, .int .i64 0] 58 (0, 0)) (by (with_reducible repeat (first | refine blk_drewN ?_ _ | refine blk_drew ?_ | refine blk_alloc ?_ _)); exact BK854.out) NB854_0.out (by simp))
      have n1_ := Aside0.mk (KeepBut.blk hk (g' := gb861) (o := .cells #[.int .i64 0, .int .i64 0, .int .i64 (wrap64 ((wrap64 (t857 + t868)) - 4)), .int .i64 (wrap64 ((wrap64 (t858 + t871)) - 4)), .int .i64 t855, .int .i64 t856, .int .i64 t857, .int .i64 t858, .int .i64 x862008_4] 58 (0, 0)) (by (with_reducible repeat (first | refine blk_drewN ?_ _ | refine blk_drew ?_ | refine blk_alloc ?_ _)); exact BK861.out) NB861_0.out (by simp))
      have n2_ := Aside0.mk (KeepBut.trans (by repeat (first | (with_reducible first | exact HK.out | apply KeepBut.set_ | apply keep_drewN | apply keep_drew | apply keep_alloc | refine keep_far ?_ GW854.out _ | refine keep_far ?_ GW861.out _) | exact HK.out)) hk (.inl rfl))
      have n3_ := Aside0.mk (hb)
      have n4_ := Aside0.mk (hi)
      clear BK854
      clear BK861
      clear HK
      clear HB
      clear HI0
      have BK854 := n0_
      have BK861 := n1_
      have HK := n2_
      have HB := n3_
      have HI0 := n4_
      clear n0_ n1_ n2_ n3_ n4_
      (try clear hb)
      (try clear hb2)
      (try clear hk)
      (try clear hi)
      refine hK.out _ _ ⟨(blk_cell BK861.out 0).trans rfl, (blk_cell BK861.out 1).trans rfl, (blk_cell BK861.out 2).trans rfl, (blk_cell BK861.out 3).trans rfl, (blk_cell BK861.out 4).trans rfl, (blk_cell BK861.out 5).trans rfl, (blk_cell BK861.out 6).trans rfl, (blk_cell BK861.out 7).trans rfl, (blk_cell BK861.out 8).trans rfl⟩ (fun hHeld => ?_)
      clear hK K
      refine norm_ (a' := ?_) ?_ ?_
      rotate_left
      · show Act.put _ (some 44) _ = _
        simp only [Act.put, List.setIfInBounds_toArray, List.set_cons_zero, List.set_cons_succ, i64_w, i32_w]
        rfl
      refine pure_ (i := 10) (N := some 45) (v := ?_) (a' := ?_) #[true, true, true, true, true, true, true, true, true, true, true, false, false, false, false] rfl rfl (any_of HT_.out (by kernel_rfl)) (fun _ _ _ h => h) (Or.inl ⟨by rfl, ?_⟩) ?_ ?_
      rotate_left
      · intro w'
        go_simp
        with_reducible rfl
      rotate_left
      · simp only [Act.put, List.setIfInBounds_toArray, List.set_cons_zero, List.set_cons_succ, i64_w, i32_w]
        rfl
      refine pure_ (i := 11) (N := some 46) (v := ?_) (a' := ?_) #[true, true, true, true, true, true, true, true, true, true, true, true, false, false, false] rfl rfl (any_of HT_.out (by kernel_rfl)) (fun _ _ _ h => h) (Or.inl ⟨by rfl, ?_⟩) ?_ ?_
      rotate_left
      · intro w'
        go_simp
        with_reducible rfl
      rotate_left
      · simp only [Act.put, List.setIfInBounds_toArray, List.set_cons_zero, List.set_cons_succ, i64_w, i32_w]
        rfl
      refine pure_ (i := 12) (N := some 47) (v := ?_) (a' := ?_) #[true, true, true, true, true, true, true, true, true, true, true, true, true, false, false] rfl rfl (any_of HT_.out (by kernel_rfl)) (fun _ _ _ h => h) (Or.inl ⟨by rfl, ?_⟩) ?_ ?_
      rotate_left
      · intro w'
        go_simp
        with_reducible rfl
      rotate_left
      · simp only [Act.put, List.setIfInBounds_toArray, List.set_cons_zero, List.set_cons_succ, i64_w, i32_w]
        rfl
      refine pure_ (i := 13) (N := some 48) (v := ?_) (a' := ?_) #[true, true, true, true, true, true, true, true, true, true, true, true, true, true, false] rfl rfl (any_of HT_.out (by kernel_rfl)) (fun _ _ _ h => h) (Or.inl ⟨by rfl, ?_⟩) ?_ ?_
      rotate_left
      · intro w'
        go_simp
        with_reducible rfl
      rotate_left
      · simp only [Act.put, List.setIfInBounds_toArray, List.set_cons_zero, List.set_cons_succ, i64_w, i32_w]
        rfl
      refine last_ (i := 14) (N := none) #[true, true, true, true, true, true, true, true, true, true, true, true, true, true, true] rfl rfl (one_of HT_.out (by kernel_rfl)) (by decide) (fun K hK => ?_)
      have hs35 : w34.cell? ⟨gb861, 0, none⟩ = some (.int .i64 0) := (blk_cell BK861.out 0).trans rfl
      have hfs35 := blk_frozen BK861.out 0
      have hns35_0 := NB854_861.out
      have hms35_0 := NB861_854.out
      refine skip_ (w1 := ?_) (by rfl) rfl ?_ ?_
      rotate_left
      · go_simp
        rfl
      refine hK.out _ _ ?_
      clear hK K
      refine done_ (done_of HT_.out (by kernel_rfl)) ?_
      try go_wp2
      have n0_ : Aside0 ((w34.setCell ⟨gb861, 0, none⟩ (.int .i64 (wrap64 ((wrap64 ((wrap64 (t855 + (wrap64 (2 * (wrap64 ((wrap64 (t857 + t868)) - 4)))))) + t874)) - 30)))).heap[gb854]? = some (.cells #[.int .i64 0, .int .i64 0, .int .i64 0, .int .i64 0, .int .i64 0, .int .i64 0, .int .i64 0, .int .i64 0, .int .i64 0] 58 (0, 0))) := ⟨by (with_reducible repeat (first | refine blk_drewN ?_ _ | refine blk_drew ?_ | refine blk_alloc ?_ _)); refine blk_far ?_ NB854_861.out _; (with_reducible repeat (first | refine blk_drewN ?_ _ | refine blk_drew ?_ | refine blk_alloc ?_ _)); exact BK854.out⟩
      have n1_ : Aside0 ((w34.setCell ⟨gb861, 0, none⟩ (.int .i64 (wrap64 ((wrap64 ((wrap64 (t855 + (wrap64 (2 * (wrap64 ((wrap64 (t857 + t868)) - 4)))))) + t874)) - 30)))).heap[gb861]? = some (.cells #[.int .i64 (wrap64 ((wrap64 ((wrap64 (t855 + (wrap64 (2 * (wrap64 ((wrap64 (t857 + t868)) - 4)))))) + t874)) - 30)), .int .i64 0, .int .i64 (wrap64 ((wrap64 (t857 + t868)) - 4)), .int .i64 (wrap64 ((wrap64 (t858 + t871)) - 4)), .int .i64 t855, .int .i64 t856, .int .i64 t857, .int .i64 t858, .int .i64 x862008_4] 58 (0, 0))) := ⟨by (with_reducible repeat (first | refine blk_drewN ?_ _ | refine blk_drew ?_ | refine blk_alloc ?_ _)); refine blk_put (cs := #[.int .i64 0, .int .i64 0, .int .i64 (wrap64 ((wrap64 (t857 + t868)) - 4)), .int .i64 (wrap64 ((wrap64 (t858 + t871)) - 4)), .int .i64 t855, .int .i64 t856, .int .i64 t857, .int .i64 t858, .int .i64 x862008_4]) ?_ 0 _ rfl; (with_reducible repeat (first | refine blk_drewN ?_ _ | refine blk_drew ?_ | refine blk_alloc ?_ _)); exact BK861.out⟩
      have n2_ : Aside0 (IsS123 w0 (w34.setCell ⟨gb861, 0, none⟩ (.int .i64 (wrap64 ((wrap64 ((wrap64 (t855 + (wrap64 (2 * (wrap64 ((wrap64 (t857 + t868)) - 4)))))) + t874)) - 30)))) g s0_0 t875 t876) := ⟨by repeat (first | (with_reducible first | exact HI0.out | apply IsS123.alloc | apply IsS123.drewN | apply IsS123.drew | apply IsS123.set_1 | apply IsS123.set_2 | refine IsS123.far ?_ NB0_854.out _ | refine IsS123.far ?_ NB0_861.out _) | exact HI0.out)⟩
      have n3_ : Aside0 (KeepBut w (w34.setCell ⟨gb861, 0, none⟩ (.int .i64 (wrap64 ((wrap64 ((wrap64 (t855 + (wrap64 (2 * (wrap64 ((wrap64 (t857 + t868)) - 4)))))) + t874)) - 30)))) g none) := ⟨by repeat (first | (with_reducible first | exact HK.out | apply KeepBut.set_ | apply keep_drewN | apply keep_drew | apply keep_alloc | refine keep_far ?_ GW854.out _ | refine keep_far ?_ GW861.out _) | exact HK.out)⟩
      have n4_ : Aside0 (Below w0.heap.size w0 (w34.setCell ⟨gb861, 0, none⟩ (.int .i64 (wrap64 ((wrap64 ((wrap64 (t855 + (wrap64 (2 * (wrap64 ((wrap64 (t857 + t868)) - 4)))))) + t874)) - 30))))) := ⟨by repeat (first | (with_reducible first | exact HB.out | apply below_alloc | apply pw_below_drewN | apply below_drew1 | refine below_set ?_ (IsS123.ge HI0.out) | refine below_set ?_ GE854.out | refine below_set ?_ GE861.out) | exact HB.out)⟩
      (try clear BK854)
      (try clear BK861)
      (try clear HI0)
      (try clear HK)
      (try clear HB)
      generalize (w34.setCell ⟨gb861, 0, none⟩ (.int .i64 (wrap64 ((wrap64 ((wrap64 (t855 + (wrap64 (2 * (wrap64 ((wrap64 (t857 + t868)) - 4)))))) + t874)) - 30)))) = w36 at n0_ n1_ n2_ n3_ n4_ ⊢
      have BK854 := n0_
      have BK861 := n1_
      have HI0 := n2_
      have HK := n3_
      have HB := n4_
      clear n0_ n1_ n2_ n3_ n4_
      have n0_ := Aside0.mk (blk_drew BK854.out)
      have n1_ := Aside0.mk (blk_drew BK861.out)
      have n2_ := Aside0.mk (IsS123.drew HI0.out)
      have n3_ := Aside0.mk (keep_drew HK.out)
      have n4_ := Aside0.mk (below_drew1 HB.out)
      clear BK854
      clear BK861
      clear HI0
      clear HK
      clear HB
      have BK854 := n0_
      have BK861 := n1_
      have HI0 := n2_
      have HK := n3_
      have HB := n4_
      clear n0_ n1_ n2_ n3_ n4_
      refine start_ (n := 15) (S := fun w' => w'.cell? ⟨gb861, 0, none⟩ = some (.int .i64 (wrap64 ((wrap64 ((wrap64 (t855 + (wrap64 (2 * (wrap64 ((wrap64 (t857 + t868)) - 4)))))) + t874)) - 30))) ∧ w'.cell? ⟨gb861, 1, none⟩ = some (.int .i64 0) ∧ w'.cell? ⟨gb861, 2, none⟩ = some (.int .i64 (wrap64 ((wrap64 (t857 + t868)) - 4))) ∧ w'.cell? ⟨gb861, 3, none⟩ = some (.int .i64 (wrap64 ((wrap64 (t858 + t871)) - 4))) ∧ w'.cell? ⟨gb861, 4, none⟩ = some (.int .i64 t855) ∧ w'.cell? ⟨gb861, 5, none⟩ = some (.int .i64 t856) ∧ w'.cell? ⟨gb861, 6, none⟩ = some (.int .i64 t857) ∧ w'.cell? ⟨gb861, 7, none⟩ = some (.int .i64 t858) ∧ w'.cell? ⟨gb861, 8, none⟩ = some (.int .i64 x862008_4)) (ds := [14]) #[false, false, false, false, false, false, false, false, false, false, false, false, false, false, false] (by kernel_rfl) rfl rfl ⟨(blk_cell BK861.out 0).trans rfl, (blk_cell BK861.out 1).trans rfl, (blk_cell BK861.out 2).trans rfl, (blk_cell BK861.out 3).trans rfl, (blk_cell BK861.out 4).trans rfl, (blk_cell BK861.out 5).trans rfl, (blk_cell BK861.out 6).trans rfl, (blk_cell BK861.out 7).trans rfl, (blk_cell BK861.out 8).trans rfl⟩ (fun hHeld => ?_); refine with_tabW spec_l04DrawOk.tab8 spec_l04DrawOk.bits8 (fun HT_ HW_ => ?_)
      generalize w36.drew = w37 at BK854 BK861 HI0 HK HB hHeld ⊢
      refine pure_ (i := 0) (N := some 49) (v := ?_) (a' := ?_) #[true, false, false, false, false, false, false, false, false, false, false, false, false, false, false] rfl rfl (any_of HT_.out (by kernel_rfl)) (fun _ _ _ h => h) (Or.inl ⟨by rfl, ?_⟩) ?_ ?_
      rotate_left
      · intro w'
        go_simp
        with_reducible rfl
      rotate_left
      · simp only [Act.put, List.setIfInBounds_toArray, List.set_cons_zero, List.set_cons_succ, i64_w, i32_w]
        rfl
      refine pure_ (i := 1) (N := some 50) (v := ?_) (a' := ?_) #[true, true, false, false, false, false, false, false, false, false, false, false, false, false, false] rfl rfl (any_of HT_.out (by kernel_rfl)) (fun _ _ _ h => h) (Or.inl ⟨by rfl, ?_⟩) ?_ ?_
      rotate_left
      · intro w'
        go_simp
        with_reducible rfl
      rotate_left
      · simp only [Act.put, List.setIfInBounds_toArray, List.set_cons_zero, List.set_cons_succ, i64_w, i32_w]
        rfl
      refine pure_ (i := 3) (N := some 52) (v := ?_) (a' := ?_) #[true, true, false, true, false, false, false, false, false, false, false, false, false, false, false] rfl rfl (any_of HT_.out (by kernel_rfl)) (fun _ _ _ h => h) (Or.inl ⟨by rfl, ?_⟩) ?_ ?_
      rotate_left
      · intro w'
        go_simp
        with_reducible rfl
      rotate_left
      · simp only [Act.put, List.setIfInBounds_toArray, List.set_cons_zero, List.set_cons_succ, i64_w, i32_w]
        rfl
      refine pure_ (i := 4) (N := some 53) (v := ?_) (a' := ?_) #[true, true, false, true, true, false, false, false, false, false, false, false, false, false, false] rfl rfl (any_of HT_.out (by kernel_rfl)) (fun _ _ _ h => h) (Or.inl ⟨by rfl, ?_⟩) ?_ ?_
      rotate_left
      · intro w'
        go_simp
        with_reducible rfl
      rotate_left
      · simp only [Act.put, List.setIfInBounds_toArray, List.set_cons_zero, List.set_cons_succ, i64_w, i32_w]
        rfl
      refine pure_ (i := 8) (N := some 57) (v := ?_) (a' := ?_) #[true, true, false, true, true, false, false, false, true, false, false, false, false, false, false] rfl rfl (any_of HT_.out (by kernel_rfl)) (fun _ _ _ h => h) (Or.inl ⟨by rfl, ?_⟩) ?_ ?_
      rotate_left
      · intro w'
        go_simp
        with_reducible rfl
      rotate_left
      · simp only [Act.put, List.setIfInBounds_toArray, List.set_cons_zero, List.set_cons_succ, i64_w, i32_w]
        rfl
      refine take_ (i := 2) (N := some 51) (v := ?_) (a' := ?_) #[true, true, true, true, true, false, false, false, true, false, false, false, false, false, false] rfl rfl (take_ofW HT_.out HW_.out (by kernel_rfl)) (fun _ _ _ h => h) (Or.inl ⟨by rfl, ?_⟩) hHeld ?_ ?_
      rotate_left
      · rintro w' ⟨s0, s1, s2, s3, s4, s5, s6, s7, s8⟩
        go_simp
        with_reducible rfl
      rotate_left
      · simp only [Act.put, List.setIfInBounds_toArray, List.set_cons_zero, List.set_cons_succ, i64_w, i32_w]
        rfl
      refine take_ (i := 5) (N := some 54) (v := ?_) (a' := ?_) #[true, true, true, true, true, true, false, false, true, false, false, false, false, false, false] rfl rfl (take_ofW HT_.out HW_.out (by kernel_rfl)) (fun _ _ _ h => h) (Or.inl ⟨by rfl, ?_⟩) hHeld ?_ ?_
      rotate_left
      · rintro w' ⟨s0, s1, s2, s3, s4, s5, s6, s7, s8⟩
        go_simp
        with_reducible rfl
      rotate_left
      · simp only [Act.put, List.setIfInBounds_toArray, List.set_cons_zero, List.set_cons_succ, i64_w, i32_w]
        rfl
      refine pure_ (i := 6) (N := some 55) (v := ?_) (a' := ?_) #[true, true, true, true, true, true, true, false, true, false, false, false, false, false, false] rfl rfl (any_of HT_.out (by kernel_rfl)) (fun _ _ _ h => h) (Or.inl ⟨by rfl, ?_⟩) ?_ ?_
      rotate_left
      · intro w'
        go_simp
        with_reducible rfl
      rotate_left
      · simp only [Act.put, List.setIfInBounds_toArray, List.set_cons_zero, List.set_cons_succ, i64_w, i32_w]
        rfl
      refine pure_ (i := 7) (N := some 56) (v := ?_) (a' := ?_) #[true, true, true, true, true, true, true, true, true, false, false, false, false, false, false] rfl rfl (any_of HT_.out (by kernel_rfl)) (fun _ _ _ h => h) (Or.inl ⟨by rfl, ?_⟩) ?_ ?_
      rotate_left
      · intro w'
        go_simp
        with_reducible rfl
      rotate_left
      · simp only [Act.put, List.setIfInBounds_toArray, List.set_cons_zero, List.set_cons_succ, i64_w, i32_w]
        rfl
      refine one_ (i := 9) (N := some 58) #[true, true, true, true, true, true, true, true, true, true, false, false, false, false, false] rfl rfl (one_of HT_.out (by kernel_rfl)) (by decide) (fun K hK => ?_)
      refine goes_ Try.func107 (by kernel_rfl) rfl #[.pointer (some ⟨g, 0, none⟩), .int .i64 61] (by rfl) rfl rfl (by (try simp only [List.map_toArray, List.map_cons, List.map_nil]); first | done | rfl | (simp only [List.length_drop, List.length_take]; rfl)) ?_
      with_reducible refine (spec_l00Src_pick.calls g s0_0 t875 t876 61 t877 t878 t879 w0 _ ?side1 ?side2 A22.out).mono ?_
      (case side1 => repeat (first | (with_reducible first | exact HI0.out | apply IsS123.alloc | apply IsS123.drewN | apply IsS123.drew | apply IsS123.set_1 | apply IsS123.set_2 | refine IsS123.far ?_ NB0_854.out _ | refine IsS123.far ?_ NB0_861.out _) | exact HI0.out))
      (case side2 => repeat (first | (with_reducible first | exact HB.out | apply below_alloc | apply pw_below_drewN | apply below_drew1 | refine below_set ?_ (IsS123.ge HI0.out) | refine below_set ?_ GE854.out | refine below_set ?_ GE861.out) | exact HB.out))
      rintro e w38 ⟨rfl, hi, hb, hk⟩
      refine ⟨_, rfl, ?_⟩
      have n0_ := Aside0.mk (KeepBut.blk hk (g' := gb854) (o := .cells #[.int .i64 0, .int .i64 0, .int .i64 0, .int .i64 0, .int .i64 0, .int .i64 0, .int .i64 0, .int .i64 0, .int .i64 0] 58 (0, 0)) (by (with_reducible repeat (first | refine blk_drewN ?_ _ | refine blk_drew ?_ | refine blk_alloc ?_ _)); exact BK854.out) NB854_0.out (by simp))
      have n1_ := Aside0.mk (KeepBut.blk hk (g' := gb861) (o := .cells #[.int .i64 (wrap64 ((wrap64 ((wrap64 (t855 + (wrap64 (2 * (wrap64 ((wrap64 (t857 + t868)) - 4)))))) + t874)) - 30)), .int .i64 0, .int .i64 (wrap64 ((wrap64 (t857 + t868)) - 4)), .int .i64 (wrap64 ((wrap64 (t858 + t871)) - 4)), .int .i64 t855, .int .i64 t856, .int .i64 t857, .int .i64 t858, .int .i64 x862008_4] 58 (0, 0)) (by (with_reducible repeat (first | refine blk_drewN ?_ _ | refine blk_drew ?_ | refine blk_alloc ?_ _)); exact BK861.out) NB861_0.out (by simp))
      have n2_ := Aside0.mk (KeepBut.trans (by repeat (first | (with_reducible first | exact HK.out | apply KeepBut.set_ | apply keep_drewN | apply keep_drew | apply keep_alloc | refine keep_far ?_ GW854.out _ | refine keep_far ?_ GW861.out _) | exact HK.out)) hk (.inl rfl))
      have n3_ := Aside0.mk (hb)
      have n4_ := Aside0.mk (hi)
      clear BK854
      clear BK861
      clear HK
      clear HB
      clear HI0
      have BK854 := n0_
      have BK861 := n1_
      have HK := n2_
      have HB := n3_
      have HI0 := n4_
      clear n0_ n1_ n2_ n3_ n4_
      (try clear hb)
      (try clear hb2)
      (try clear hk)
      (try clear hi)
      refine hK.out _ _ ⟨(blk_cell BK861.out 0).trans rfl, (blk_cell BK861.out 1).trans rfl, (blk_cell BK861.out 2).trans rfl, (blk_cell BK861.out 3).trans rfl, (blk_cell BK861.out 4).trans rfl, (blk_cell BK861.out 5).trans rfl, (blk_cell BK861.out 6).trans rfl, (blk_cell BK861.out 7).trans rfl, (blk_cell BK861.out 8).trans rfl⟩ (fun hHeld => ?_)
      clear hK K
      refine norm_ (a' := ?_) ?_ ?_
      rotate_left
      · show Act.put _ (some 58) _ = _
        simp only [Act.put, List.setIfInBounds_toArray, List.set_cons_zero, List.set_cons_succ, i64_w, i32_w]
        rfl
      refine pure_ (i := 10) (N := some 59) (v := ?_) (a' := ?_) #[true, true, true, true, true, true, true, true, true, true, true, false, false, false, false] rfl rfl (any_of HT_.out (by kernel_rfl)) (fun _ _ _ h => h) (Or.inl ⟨by rfl, ?_⟩) ?_ ?_
      rotate_left
      · intro w'
        go_simp
        with_reducible rfl
      rotate_left
      · simp only [Act.put, List.setIfInBounds_toArray, List.set_cons_zero, List.set_cons_succ, i64_w, i32_w]
        rfl
      refine pure_ (i := 11) (N := some 60) (v := ?_) (a' := ?_) #[true, true, true, true, true, true, true, true, true, true, true, true, false, false, false] rfl rfl (any_of HT_.out (by kernel_rfl)) (fun _ _ _ h => h) (Or.inl ⟨by rfl, ?_⟩) ?_ ?_
      rotate_left
      · intro w'
        go_simp
        with_reducible rfl
      rotate_left
      · simp only [Act.put, List.setIfInBounds_toArray, List.set_cons_zero, List.set_cons_succ, i64_w, i32_w]
        rfl
      refine pure_ (i := 12) (N := some 61) (v := ?_) (a' := ?_) #[true, true, true, true, true, true, true, true, true, true, true, true, true, false, false] rfl rfl (any_of HT_.out (by kernel_rfl)) (fun _ _ _ h => h) (Or.inl ⟨by rfl, ?_⟩) ?_ ?_
      rotate_left
      · intro w'
        go_simp
        with_reducible rfl
      rotate_left
      · simp only [Act.put, List.setIfInBounds_toArray, List.set_cons_zero, List.set_cons_succ, i64_w, i32_w]
        rfl
      refine pure_ (i := 13) (N := some 62) (v := ?_) (a' := ?_) #[true, true, true, true, true, true, true, true, true, true, true, true, true, true, false] rfl rfl (any_of HT_.out (by kernel_rfl)) (fun _ _ _ h => h) (Or.inl ⟨by rfl, ?_⟩) ?_ ?_
      rotate_left
      · intro w'
        go_simp
        with_reducible rfl
      rotate_left
      · simp only [Act.put, List.setIfInBounds_toArray, List.set_cons_zero, List.set_cons_succ, i64_w, i32_w]
        rfl
      refine last_ (i := 14) (N := none) #[true, true, true, true, true, true, true, true, true, true, true, true, true, true, true] rfl rfl (one_of HT_.out (by kernel_rfl)) (by decide) (fun K hK => ?_)
      have hs39 : w38.cell? ⟨gb861, 1, none⟩ = some (.int .i64 0) := (blk_cell BK861.out 1).trans rfl
      have hfs39 := blk_frozen BK861.out 1
      have hns39_0 := NB854_861.out
      have hms39_0 := NB861_854.out
      refine skip_ (w1 := ?_) (by rfl) rfl ?_ ?_
      rotate_left
      · go_simp
        rfl
      refine hK.out _ _ ?_
      clear hK K
      refine done_ (done_of HT_.out (by kernel_rfl)) ?_
      go_upto_if 64 with (first | ((with_reducible refine gate_callee (f := 108) rfl ?_); refine goesL_ (some 64) rfl rfl Try.func108 (by kernel_rfl) rfl #[.pointer (some ⟨g, 0, none⟩), .int .i64 10] rfl (by (try simp only [List.map_toArray, List.map_cons, List.map_nil]); first | done | rfl | (simp only [List.length_drop, List.length_take]; rfl)) ?_; (with_reducible refine (spec_l00Src_one.calls g s0_0 t878 t879 10 t880 t881 t882 w0 _ ?side1 ?side2 A23.out).mono ?_); (case side1 => repeat (first | (with_reducible first | exact HI0.out | apply IsS123.alloc | apply IsS123.drewN | apply IsS123.drew | apply IsS123.set_1 | apply IsS123.set_2 | refine IsS123.far ?_ NB0_854.out _ | refine IsS123.far ?_ NB0_861.out _) | exact HI0.out)); (case side2 => repeat (first | (with_reducible first | exact HB.out | apply below_alloc | apply pw_below_drewN | apply below_drew1 | refine below_set ?_ (IsS123.ge HI0.out) | refine below_set ?_ GE854.out | refine below_set ?_ GE861.out) | exact HB.out)); rintro e w40 ⟨rfl, hi, hb, hk⟩; refine ⟨_, rfl, ?_⟩; have n0_ := Aside0.mk (KeepBut.blk hk (g' := gb854) (o := .cells #[.int .i64 0, .int .i64 0, .int .i64 0, .int .i64 0, .int .i64 0, .int .i64 0, .int .i64 0, .int .i64 0, .int .i64 0] 58 (0, 0)) (by (with_reducible repeat (first | refine blk_drewN ?_ _ | refine blk_drew ?_ | refine blk_alloc ?_ _)); refine blk_far ?_ NB854_861.out _; (with_reducible repeat (first | refine blk_drewN ?_ _ | refine blk_drew ?_ | refine blk_alloc ?_ _)); exact BK854.out) NB854_0.out (by simp)); have n1_ := Aside0.mk (KeepBut.blk hk (g' := gb861) (o := .cells #[.int .i64 (wrap64 ((wrap64 ((wrap64 (t855 + (wrap64 (2 * (wrap64 ((wrap64 (t857 + t868)) - 4)))))) + t874)) - 30)), .int .i64 (wrap64 ((wrap64 ((wrap64 (t856 + (wrap64 (2 * (wrap64 ((wrap64 (t858 + t871)) - 4)))))) + t877)) - 30)), .int .i64 (wrap64 ((wrap64 (t857 + t868)) - 4)), .int .i64 (wrap64 ((wrap64 (t858 + t871)) - 4)), .int .i64 t855, .int .i64 t856, .int .i64 t857, .int .i64 t858, .int .i64 x862008_4] 58 (0, 0)) (by (with_reducible repeat (first | refine blk_drewN ?_ _ | refine blk_drew ?_ | refine blk_alloc ?_ _)); refine blk_put (cs := #[.int .i64 (wrap64 ((wrap64 ((wrap64 (t855 + (wrap64 (2 * (wrap64 ((wrap64 (t857 + t868)) - 4)))))) + t874)) - 30)), .int .i64 0, .int .i64 (wrap64 ((wrap64 (t857 + t868)) - 4)), .int .i64 (wrap64 ((wrap64 (t858 + t871)) - 4)), .int .i64 t855, .int .i64 t856, .int .i64 t857, .int .i64 t858, .int .i64 x862008_4]) ?_ 1 _ rfl; (with_reducible repeat (first | refine blk_drewN ?_ _ | refine blk_drew ?_ | refine blk_alloc ?_ _)); exact BK861.out) NB861_0.out (by simp)); have n2_ := Aside0.mk (KeepBut.trans (by repeat (first | (with_reducible first | exact HK.out | apply KeepBut.set_ | apply keep_drewN | apply keep_drew | apply keep_alloc | refine keep_far ?_ GW854.out _ | refine keep_far ?_ GW861.out _) | exact HK.out)) hk (.inl rfl)); have n3_ := Aside0.mk (hb); have n4_ := Aside0.mk (hi); clear BK854; clear BK861; clear HK; clear HB; clear HI0; have BK854 := n0_; have BK861 := n1_; have HK := n2_; have HB := n3_; have HI0 := n4_; clear n0_ n1_ n2_ n3_ n4_; (try clear hb); (try clear hb2); (try clear hk); (try clear hi)))
      (try simp only [Act.put, List.setIfInBounds_toArray, List.set_cons_zero, List.set_cons_succ])
      go_cut [] (fun wc => ∃ (kq : Nat) (x1001_23 : Int) (x1002_23 : Int) (x862000_23 : Int), Aside0 (spec_l04DrawOk.j1 kq s0_0 x1001_23 x1002_23 x862000_23 (wrap64 ((wrap64 ((wrap64 (t856 + (wrap64 (2 * (wrap64 ((wrap64 (t858 + t871)) - 4)))))) + t877)) - 30)) (wrap64 ((wrap64 (t857 + t868)) - 4)) (wrap64 ((wrap64 (t858 + t871)) - 4)) t855 t856 t857 t858 x862008_4 = some (r1, r2, r3, r4, r5, r6, r7, r8, r9, r10, r11)) ∧ Aside0 (kq ≤ kj4) ∧ Aside0 (wc.heap[gb854]? = some (.cells #[.int .i64 0, .int .i64 0, .int .i64 0, .int .i64 0, .int .i64 0, .int .i64 0, .int .i64 0, .int .i64 0, .int .i64 0] 58 (0, 0))) ∧ Aside0 (wc.heap[gb861]? = some (.cells #[.int .i64 x862000_23, .int .i64 (wrap64 ((wrap64 ((wrap64 (t856 + (wrap64 (2 * (wrap64 ((wrap64 (t858 + t871)) - 4)))))) + t877)) - 30)), .int .i64 (wrap64 ((wrap64 (t857 + t868)) - 4)), .int .i64 (wrap64 ((wrap64 (t858 + t871)) - 4)), .int .i64 t855, .int .i64 t856, .int .i64 t857, .int .i64 t858, .int .i64 x862008_4] 58 (0, 0))) ∧ Aside0 (IsS123 w0 wc g s0_0 x1001_23 x1002_23) ∧ Aside0 (KeepBut w wc g none) ∧ Aside0 (Below w0.heap.size w0 wc))
      case first =>
        have H := HC24.out
        clear HC24
        by_cases c41 : t880 = true
        · subst c41
          have H1 : ((spec_l00Src_among.f s0_0 t881 t882 (([(-10), 10] : List Int))).bind fun bt886 => (spec_l04DrawOk.j1 kj4 s0_0 bt886.2.1 bt886.2.2 (wrap64 ((wrap64 ((wrap64 ((wrap64 (t855 + (wrap64 (2 * (wrap64 ((wrap64 (t857 + t868)) - 4)))))) + t874)) - 30)) + bt886.1)) (wrap64 ((wrap64 ((wrap64 (t856 + (wrap64 (2 * (wrap64 ((wrap64 (t858 + t871)) - 4)))))) + t877)) - 30)) (wrap64 ((wrap64 (t857 + t868)) - 4)) (wrap64 ((wrap64 (t858 + t871)) - 4)) t855 t856 t857 t858 x862008_4)) = some (r1, r2, r3, r4, r5, r6, r7, r8, r9, r10, r11) := by rw [if_pos rfl] at H; exact H
          clear H
          have H := H1
          clear H1
          obtain ⟨y883, hy883⟩ : ∃ y_ : List Int, y_ = (([(-10), 10] : List Int)) := ⟨_, rfl⟩
          replace H : ((spec_l00Src_among.f s0_0 t881 t882 y883).bind fun bt886 => (spec_l04DrawOk.j1 kj4 s0_0 bt886.2.1 bt886.2.2 (wrap64 ((wrap64 ((wrap64 ((wrap64 (t855 + (wrap64 (2 * (wrap64 ((wrap64 (t857 + t868)) - 4)))))) + t874)) - 30)) + bt886.1)) (wrap64 ((wrap64 ((wrap64 (t856 + (wrap64 (2 * (wrap64 ((wrap64 (t858 + t871)) - 4)))))) + t877)) - 30)) (wrap64 ((wrap64 (t857 + t868)) - 4)) (wrap64 ((wrap64 (t858 + t871)) - 4)) t855 t856 t857 t858 x862008_4)) = some (r1, r2, r3, r4, r5, r6, r7, r8, r9, r10, r11) := by first | (rw [hy883]; with_reducible exact H) | (have H2_ := (Option.bind_some _ _).symm.trans H; rw [hy883]; with_reducible exact H2_) | (have H2_ := (Option.bind_some _ _).symm.trans H; with_reducible exact H2_) | with_reducible exact H | (rw [hy883]; exact H) | exact H
          have Ny883 := Aside0.mk hy883
          clear hy883
          replace H := Option.bind_eq_some_iff.mp H
          obtain ⟨⟨t886, t887, t888⟩, A420, H⟩ := H
          replace H : (spec_l04DrawOk.j1 kj4 s0_0 t887 t888 (wrap64 ((wrap64 ((wrap64 ((wrap64 (t855 + (wrap64 (2 * (wrap64 ((wrap64 (t857 + t868)) - 4)))))) + t874)) - 30)) + t886)) (wrap64 ((wrap64 ((wrap64 (t856 + (wrap64 (2 * (wrap64 ((wrap64 (t858 + t871)) - 4)))))) + t877)) - 30)) (wrap64 ((wrap64 (t857 + t868)) - 4)) (wrap64 ((wrap64 (t858 + t871)) - 4)) t855 t856 t857 t858 x862008_4) = some (r1, r2, r3, r4, r5, r6, r7, r8, r9, r10, r11) := H
          have A42 := Aside0.mk A420
          clear A420
          have H' := Aside0.mk H
          clear H
          try go_wp2
          have n0_ := Aside0.mk (blk_drew BK854.out)
          have n1_ := Aside0.mk (blk_drew BK861.out)
          have n2_ := Aside0.mk (IsS123.drew HI0.out)
          have n3_ := Aside0.mk (keep_drew HK.out)
          have n4_ := Aside0.mk (below_drew1 HB.out)
          clear BK854
          clear BK861
          clear HI0
          clear HK
          clear HB
          have BK854 := n0_
          have BK861 := n1_
          have HI0 := n2_
          have HK := n3_
          have HB := n4_
          clear n0_ n1_ n2_ n3_ n4_
          refine start_ (n := 10) (S := fun w' => w'.cell? ⟨gb861, 0, none⟩ = some (.int .i64 (wrap64 ((wrap64 ((wrap64 (t855 + (wrap64 (2 * (wrap64 ((wrap64 (t857 + t868)) - 4)))))) + t874)) - 30))) ∧ w'.cell? ⟨gb861, 1, none⟩ = some (.int .i64 (wrap64 ((wrap64 ((wrap64 (t856 + (wrap64 (2 * (wrap64 ((wrap64 (t858 + t871)) - 4)))))) + t877)) - 30))) ∧ w'.cell? ⟨gb861, 2, none⟩ = some (.int .i64 (wrap64 ((wrap64 (t857 + t868)) - 4))) ∧ w'.cell? ⟨gb861, 3, none⟩ = some (.int .i64 (wrap64 ((wrap64 (t858 + t871)) - 4))) ∧ w'.cell? ⟨gb861, 4, none⟩ = some (.int .i64 t855) ∧ w'.cell? ⟨gb861, 5, none⟩ = some (.int .i64 t856) ∧ w'.cell? ⟨gb861, 6, none⟩ = some (.int .i64 t857) ∧ w'.cell? ⟨gb861, 7, none⟩ = some (.int .i64 t858) ∧ w'.cell? ⟨gb861, 8, none⟩ = some (.int .i64 x862008_4)) (ds := [9]) #[false, false, false, false, false, false, false, false, false, false] (by kernel_rfl) rfl rfl ⟨(blk_cell BK861.out 0).trans rfl, (blk_cell BK861.out 1).trans rfl, (blk_cell BK861.out 2).trans rfl, (blk_cell BK861.out 3).trans rfl, (blk_cell BK861.out 4).trans rfl, (blk_cell BK861.out 5).trans rfl, (blk_cell BK861.out 6).trans rfl, (blk_cell BK861.out 7).trans rfl, (blk_cell BK861.out 8).trans rfl⟩ (fun hHeld => ?_); refine with_tabW spec_l04DrawOk.tab10 spec_l04DrawOk.bits10 (fun HT_ HW_ => ?_)
          generalize w40.drew = w43 at BK854 BK861 HI0 HK HB hHeld ⊢
          refine pure_ (i := 0) (N := some 65) (v := ?_) (a' := ?_) #[true, false, false, false, false, false, false, false, false, false] rfl rfl (any_of HT_.out (by kernel_rfl)) (fun _ _ _ h => h) (Or.inl ⟨by rfl, ?_⟩) ?_ ?_
          rotate_left
          · intro w'
            go_simp
            with_reducible rfl
          rotate_left
          · simp only [Act.put, List.setIfInBounds_toArray, List.set_cons_zero, List.set_cons_succ, i64_w, i32_w]
            rfl
          refine pure_ (i := 1) (N := some 66) (v := ?_) (a' := ?_) #[true, true, false, false, false, false, false, false, false, false] rfl rfl (any_of HT_.out (by kernel_rfl)) (fun _ _ _ h => h) (Or.inl ⟨by rfl, ?_⟩) ?_ ?_
          rotate_left
          · intro w'
            go_simp
            with_reducible rfl
          rotate_left
          · simp only [Act.put, List.setIfInBounds_toArray, List.set_cons_zero, List.set_cons_succ, i64_w, i32_w]
            rfl
          refine pure_ (i := 3) (N := some 68) (v := ?_) (a' := ?_) #[true, true, false, true, false, false, false, false, false, false] rfl rfl (any_of HT_.out (by kernel_rfl)) (fun _ _ _ h => h) (Or.inl ⟨by rfl, ?_⟩) ?_ ?_
          rotate_left
          · intro w'
            go_simp
            with_reducible rfl
          rotate_left
          · simp only [Act.put, List.setIfInBounds_toArray, List.set_cons_zero, List.set_cons_succ, i64_w, i32_w]
            rfl
          refine take_ (i := 2) (N := some 67) (v := ?_) (a' := ?_) #[true, true, true, true, false, false, false, false, false, false] rfl rfl (take_ofW HT_.out HW_.out (by kernel_rfl)) (fun _ _ _ h => h) (Or.inl ⟨by rfl, ?_⟩) hHeld ?_ ?_
          rotate_left
          · rintro w' ⟨s0, s1, s2, s3, s4, s5, s6, s7, s8⟩
            go_simp
            with_reducible rfl
          rotate_left
          · simp only [Act.put, List.setIfInBounds_toArray, List.set_cons_zero, List.set_cons_succ, i64_w, i32_w]
            rfl
          refine one_ (i := 4) (N := some 69) #[true, true, true, true, true, false, false, false, false, false] rfl rfl (one_of HT_.out (by kernel_rfl)) (by decide) (fun K hK => ?_)
          refine Kd.R_lit_step (Kd.int .i64) _ 2 ?hg (N := 69) ?hd (xs := ([(-10), 10] : List Int)) (inner := [.int .i64 (-10), .int .i64 10]) (ok := fun _ => True) (okp := fun _ => True) ?hr ?hp (fun _ hk => hk) trivial (Below.refl _ _) (Nat.le_refl _) (by simp) ?_; (case hd => rfl); (case hg => rfl); (case hr => first | (go_simp; done) | (go_simp; rfl)); (case hp => exact (Reps.one (show Kd.M (Kd.int .i64) _ _ _ (-10) [.int .i64 (-10)] from rfl) (Reps.one (show Kd.M (Kd.int .i64) _ _ _ 10 [.int .i64 10] from rfl) (Reps.none _ _))))
          intro v884 w44 ho45 hb hg_ hnew_
          clear hg_ hnew_
          (first | rw [← Ny883.out] at ho45 | (simp only [Int.reduceToNat] at ho45; rw [← Ny883.out] at ho45))
          have n0_ := Aside0.mk (Kd.R_lower ho45 (keep_size (w := w) (g := g) (row := none) (by repeat (first | (with_reducible first | exact HK.out | apply KeepBut.set_ | apply keep_drewN | apply keep_drew | apply keep_alloc | refine keep_far ?_ GW854.out _ | refine keep_far ?_ GW861.out _) | exact HK.out))))
          have n1_ := Aside0.mk (blk_below (g := gb854) (o := .cells #[.int .i64 0, .int .i64 0, .int .i64 0, .int .i64 0, .int .i64 0, .int .i64 0, .int .i64 0, .int .i64 0, .int .i64 0] 58 (0, 0)) (by (with_reducible repeat (first | refine blk_drewN ?_ _ | refine blk_drew ?_ | refine blk_alloc ?_ _)); exact BK854.out) hb)
          have n2_ := Aside0.mk (blk_below (g := gb861) (o := .cells #[.int .i64 (wrap64 ((wrap64 ((wrap64 (t855 + (wrap64 (2 * (wrap64 ((wrap64 (t857 + t868)) - 4)))))) + t874)) - 30)), .int .i64 (wrap64 ((wrap64 ((wrap64 (t856 + (wrap64 (2 * (wrap64 ((wrap64 (t858 + t871)) - 4)))))) + t877)) - 30)), .int .i64 (wrap64 ((wrap64 (t857 + t868)) - 4)), .int .i64 (wrap64 ((wrap64 (t858 + t871)) - 4)), .int .i64 t855, .int .i64 t856, .int .i64 t857, .int .i64 t858, .int .i64 x862008_4] 58 (0, 0)) (by (with_reducible repeat (first | refine blk_drewN ?_ _ | refine blk_drew ?_ | refine blk_alloc ?_ _)); exact BK861.out) hb)
          have n3_ := Aside0.mk (IsS123.below (by repeat (first | (with_reducible first | exact HI0.out | apply IsS123.alloc | apply IsS123.drewN | apply IsS123.drew | apply IsS123.set_1 | apply IsS123.set_2 | refine IsS123.far ?_ NB0_854.out _ | refine IsS123.far ?_ NB0_861.out _) | exact HI0.out)) hb)
          have n4_ := Aside0.mk (KeepBut.trans (by repeat (first | (with_reducible first | exact HK.out | apply KeepBut.set_ | apply keep_drewN | apply keep_drew | apply keep_alloc | refine keep_far ?_ GW854.out _ | refine keep_far ?_ GW861.out _) | exact HK.out)) (KeepBut.of_below hb g none) (.inl rfl))
          have n5_ := Aside0.mk (below_step (by repeat (first | (with_reducible first | exact HB.out | apply below_alloc | apply pw_below_drewN | apply below_drew1 | refine below_set ?_ (IsS123.ge HI0.out) | refine below_set ?_ GE854.out | refine below_set ?_ GE861.out) | exact HB.out)) hb)
          clear BK854
          clear BK861
          clear HI0
          clear HK
          clear HB
          have HO885 := n0_
          have BK854 := n1_
          have BK861 := n2_
          have HI0 := n3_
          have HK := n4_
          have HB := n5_
          clear n0_ n1_ n2_ n3_ n4_ n5_
          clear hb ho45
          obtain ⟨Ao46, co46, eo46⟩ := Kd.R_slice HO885.out
          (first | subst eo46 | (injection eo46 with f1_ f2_ f3_; have f4_ := f1_.symm; have f5_ := f3_.symm; clear f1_ f2_ f3_; subst f4_; subst f5_))
          refine hK.out _ _ ⟨(blk_cell BK861.out 0).trans rfl, (blk_cell BK861.out 1).trans rfl, (blk_cell BK861.out 2).trans rfl, (blk_cell BK861.out 3).trans rfl, (blk_cell BK861.out 4).trans rfl, (blk_cell BK861.out 5).trans rfl, (blk_cell BK861.out 6).trans rfl, (blk_cell BK861.out 7).trans rfl, (blk_cell BK861.out 8).trans rfl⟩ (fun hHeld => ?_)
          clear hK K
          refine norm_ (a' := ?_) ?_ ?_
          rotate_left
          · show Act.put _ (some 69) _ = _
            simp only [Act.put, List.setIfInBounds_toArray, List.set_cons_zero, List.set_cons_succ, i64_w, i32_w]
            rfl
          refine one_ (i := 5) (N := some 70) #[true, true, true, true, true, true, false, false, false, false] rfl rfl (one_of HT_.out (by kernel_rfl)) (by decide) (fun K hK => ?_)
          refine goes_ Try.func109 (by kernel_rfl) rfl #[.pointer (some ⟨g, 0, none⟩), .slice Ao46 y883.length co46] (by rfl) rfl rfl (by (try simp only [List.map_toArray, List.map_cons, List.map_nil]); first | done | rfl | (simp only [List.length_drop, List.length_take]; rfl)) ?_
          with_reducible refine (spec_l00Src_among.calls g s0_0 t881 t882 _ _ y883 t886 t887 t888 w0 _ ?side1 ?side2 ?side3 ?side4 ?side5 A42.out).mono ?_
          (case side1 => repeat (first | (with_reducible first | exact HI0.out | apply IsS123.alloc | apply IsS123.drewN | apply IsS123.drew | apply IsS123.set_1 | apply IsS123.set_2 | refine IsS123.far ?_ NB0_854.out _ | refine IsS123.far ?_ NB0_861.out _) | exact HI0.out))
          (case side2 => repeat (first | (with_reducible first | exact HB.out | apply below_alloc | apply pw_below_drewN | apply below_drew1 | refine below_set ?_ (IsS123.ge HI0.out) | refine below_set ?_ GE854.out | refine below_set ?_ GE861.out) | exact HB.out))
          (case side3 => repeat (first | exact (Kd.R_reads' HO885.out).2.2 | (with_reducible refine Kd.C_alloc ?_ _) | (with_reducible refine Kd.C_drewN ?_ _) | (with_reducible refine Kd.C_drew ?_)))
          (case side4 => exact (Kd.R_reads' HO885.out).2.1)
          (case side5 => exact far_slice (IsS123.own_ne HI0.out HO885.out (by decide)))
          rintro e w47 ⟨rfl, hi, hb, hk⟩
          refine ⟨_, rfl, ?_⟩
          have n0_ := Aside0.mk (KeepBut.blk hk (g' := gb854) (o := .cells #[.int .i64 0, .int .i64 0, .int .i64 0, .int .i64 0, .int .i64 0, .int .i64 0, .int .i64 0, .int .i64 0, .int .i64 0] 58 (0, 0)) (by (with_reducible repeat (first | refine blk_drewN ?_ _ | refine blk_drew ?_ | refine blk_alloc ?_ _)); exact BK854.out) NB854_0.out (by simp))
          have n1_ := Aside0.mk (KeepBut.blk hk (g' := gb861) (o := .cells #[.int .i64 (wrap64 ((wrap64 ((wrap64 (t855 + (wrap64 (2 * (wrap64 ((wrap64 (t857 + t868)) - 4)))))) + t874)) - 30)), .int .i64 (wrap64 ((wrap64 ((wrap64 (t856 + (wrap64 (2 * (wrap64 ((wrap64 (t858 + t871)) - 4)))))) + t877)) - 30)), .int .i64 (wrap64 ((wrap64 (t857 + t868)) - 4)), .int .i64 (wrap64 ((wrap64 (t858 + t871)) - 4)), .int .i64 t855, .int .i64 t856, .int .i64 t857, .int .i64 t858, .int .i64 x862008_4] 58 (0, 0)) (by (with_reducible repeat (first | refine blk_drewN ?_ _ | refine blk_drew ?_ | refine blk_alloc ?_ _)); exact BK861.out) NB861_0.out (by simp))
          have n2_ := Aside0.mk (Kd.R_mono (Kd.R_keep (IsS123.apart (show IsS123 w0 _ g s0_0 t881 t882 from by repeat (first | (with_reducible first | exact HI0.out | apply IsS123.alloc | apply IsS123.drewN | apply IsS123.drew | apply IsS123.set_1 | apply IsS123.set_2 | refine IsS123.far ?_ NB0_854.out _ | refine IsS123.far ?_ NB0_861.out _) | exact HI0.out)) (by (with_reducible repeat (first | apply Kd.R_alloc | apply Kd.R_drewN | apply Kd.R_drew)); exact HO885.out) (by decide)) hk (fun _ h => h.2)) (fun _ h => h.1))
          have n3_ := Aside0.mk (KeepBut.trans (by repeat (first | (with_reducible first | exact HK.out | apply KeepBut.set_ | apply keep_drewN | apply keep_drew | apply keep_alloc | refine keep_far ?_ GW854.out _ | refine keep_far ?_ GW861.out _) | exact HK.out)) hk (.inl rfl))
          have n4_ := Aside0.mk (hb)
          have n5_ := Aside0.mk (hi)
          clear BK854
          clear BK861
          clear HO885
          clear HK
          clear HB
          clear HI0
          have BK854 := n0_
          have BK861 := n1_
          have HO885 := n2_
          have HK := n3_
          have HB := n4_
          have HI0 := n5_
          clear n0_ n1_ n2_ n3_ n4_ n5_
          (try clear hb)
          (try clear hb2)
          (try clear hk)
          (try clear hi)
          refine hK.out _ _ ⟨(blk_cell BK861.out 0).trans rfl, (blk_cell BK861.out 1).trans rfl, (blk_cell BK861.out 2).trans rfl, (blk_cell BK861.out 3).trans rfl, (blk_cell BK861.out 4).trans rfl, (blk_cell BK861.out 5).trans rfl, (blk_cell BK861.out 6).trans rfl, (blk_cell BK861.out 7).trans rfl, (blk_cell BK861.out 8).trans rfl⟩ (fun hHeld => ?_)
          clear hK K
          refine norm_ (a' := ?_) ?_ ?_
          rotate_left
          · show Act.put _ (some 70) _ = _
            simp only [Act.put, List.setIfInBounds_toArray, List.set_cons_zero, List.set_cons_succ, i64_w, i32_w]
            rfl
          refine pure_ (i := 6) (N := some 71) (v := ?_) (a' := ?_) #[true, true, true, true, true, true, true, false, false, false] rfl rfl (any_of HT_.out (by kernel_rfl)) (fun _ _ _ h => h) (Or.inl ⟨by rfl, ?_⟩) ?_ ?_
          rotate_left
          · intro w'
            go_simp
            with_reducible rfl
          rotate_left
          · simp only [Act.put, List.setIfInBounds_toArray, List.set_cons_zero, List.set_cons_succ, i64_w, i32_w]
            rfl
          refine pure_ (i := 7) (N := some 72) (v := ?_) (a' := ?_) #[true, true, true, true, true, true, true, true, false, false] rfl rfl (any_of HT_.out (by kernel_rfl)) (fun _ _ _ h => h) (Or.inl ⟨by rfl, ?_⟩) ?_ ?_
          rotate_left
          · intro w'
            go_simp
            with_reducible rfl
          rotate_left
          · simp only [Act.put, List.setIfInBounds_toArray, List.set_cons_zero, List.set_cons_succ, i64_w, i32_w]
            rfl
          refine pure_ (i := 8) (N := some 73) (v := ?_) (a' := ?_) #[true, true, true, true, true, true, true, true, true, false] rfl rfl (any_of HT_.out (by kernel_rfl)) (fun _ _ _ h => h) (Or.inl ⟨by rfl, ?_⟩) ?_ ?_
          rotate_left
          · intro w'
            go_simp
            with_reducible rfl
          rotate_left
          · simp only [Act.put, List.setIfInBounds_toArray, List.set_cons_zero, List.set_cons_succ, i64_w, i32_w]
            rfl
          refine last_ (i := 9) (N := none) #[true, true, true, true, true, true, true, true, true, true] rfl rfl (one_of HT_.out (by kernel_rfl)) (by decide) (fun K hK => ?_)
          have hs48 : w47.cell? ⟨gb861, 0, none⟩ = some (.int .i64 (wrap64 ((wrap64 ((wrap64 (t855 + (wrap64 (2 * (wrap64 ((wrap64 (t857 + t868)) - 4)))))) + t874)) - 30))) := (blk_cell BK861.out 0).trans rfl
          have hfs48 := blk_frozen BK861.out 0
          have hns48_0 := NB854_861.out
          have hms48_0 := NB861_854.out
          refine skip_ (w1 := ?_) (by rfl) rfl ?_ ?_
          rotate_left
          · go_simp
            rfl
          refine hK.out _ _ ?_
          clear hK K
          refine done_ (done_of HT_.out (by kernel_rfl)) ?_
          try go_wp2
          go_meet
          case rel => exact ⟨_, (t887), (t888), (wrap64 ((wrap64 ((wrap64 ((wrap64 (t855 + (wrap64 (2 * (wrap64 ((wrap64 (t857 + t868)) - 4)))))) + t874)) - 30)) + t886)), H', ⟨by have := HJ4.out; first | omega | exact Nat.le_refl _⟩, ⟨by (with_reducible repeat (first | refine blk_drewN ?_ _ | refine blk_drew ?_ | refine blk_alloc ?_ _)); refine blk_far ?_ NB854_861.out _; (with_reducible repeat (first | refine blk_drewN ?_ _ | refine blk_drew ?_ | refine blk_alloc ?_ _)); exact BK854.out⟩, ⟨by (with_reducible repeat (first | refine blk_drewN ?_ _ | refine blk_drew ?_ | refine blk_alloc ?_ _)); refine blk_put (cs := #[.int .i64 (wrap64 ((wrap64 ((wrap64 (t855 + (wrap64 (2 * (wrap64 ((wrap64 (t857 + t868)) - 4)))))) + t874)) - 30)), .int .i64 (wrap64 ((wrap64 ((wrap64 (t856 + (wrap64 (2 * (wrap64 ((wrap64 (t858 + t871)) - 4)))))) + t877)) - 30)), .int .i64 (wrap64 ((wrap64 (t857 + t868)) - 4)), .int .i64 (wrap64 ((wrap64 (t858 + t871)) - 4)), .int .i64 t855, .int .i64 t856, .int .i64 t857, .int .i64 t858, .int .i64 x862008_4]) ?_ 0 _ rfl; (with_reducible repeat (first | refine blk_drewN ?_ _ | refine blk_drew ?_ | refine blk_alloc ?_ _)); exact BK861.out⟩, ⟨by repeat (first | (with_reducible first | exact HI0.out | apply IsS123.alloc | apply IsS123.drewN | apply IsS123.drew | apply IsS123.set_1 | apply IsS123.set_2 | refine IsS123.far ?_ NB0_854.out _ | refine IsS123.far ?_ NB0_861.out _) | exact HI0.out)⟩, ⟨by repeat (first | (with_reducible first | exact HK.out | apply KeepBut.set_ | apply keep_drewN | apply keep_drew | apply keep_alloc | refine keep_far ?_ GW854.out _ | refine keep_far ?_ GW861.out _) | exact HK.out)⟩, ⟨by repeat (first | (with_reducible first | exact HB.out | apply below_alloc | apply pw_below_drewN | apply below_drew1 | refine below_set ?_ (IsS123.ge HI0.out) | refine below_set ?_ GE854.out | refine below_set ?_ GE861.out) | exact HB.out)⟩⟩
        · replace c41 := Bool.eq_false_iff.mpr c41
          subst c41
          have H1 : (spec_l04DrawOk.j1 kj4 s0_0 t881 t882 (wrap64 ((wrap64 ((wrap64 (t855 + (wrap64 (2 * (wrap64 ((wrap64 (t857 + t868)) - 4)))))) + t874)) - 30)) (wrap64 ((wrap64 ((wrap64 (t856 + (wrap64 (2 * (wrap64 ((wrap64 (t858 + t871)) - 4)))))) + t877)) - 30)) (wrap64 ((wrap64 (t857 + t868)) - 4)) (wrap64 ((wrap64 (t858 + t871)) - 4)) t855 t856 t857 t858 x862008_4) = some (r1, r2, r3, r4, r5, r6, r7, r8, r9, r10, r11) := by rw [if_neg (show ¬ (false = true) by decide)] at H; exact H
          clear H
          have H := H1
          clear H1
          have H' := Aside0.mk H
          clear H
          go_wp2
          go_meet
          case rel => exact ⟨_, (t881), (t882), (wrap64 ((wrap64 ((wrap64 (t855 + (wrap64 (2 * (wrap64 ((wrap64 (t857 + t868)) - 4)))))) + t874)) - 30)), H', ⟨by have := HJ4.out; first | omega | exact Nat.le_refl _⟩, ⟨by (with_reducible repeat (first | refine blk_drewN ?_ _ | refine blk_drew ?_ | refine blk_alloc ?_ _)); exact BK854.out⟩, ⟨by (with_reducible repeat (first | refine blk_drewN ?_ _ | refine blk_drew ?_ | refine blk_alloc ?_ _)); exact BK861.out⟩, ⟨by repeat (first | (with_reducible first | exact HI0.out | apply IsS123.alloc | apply IsS123.drewN | apply IsS123.drew | apply IsS123.set_1 | apply IsS123.set_2 | refine IsS123.far ?_ NB0_854.out _ | refine IsS123.far ?_ NB0_861.out _) | exact HI0.out)⟩, ⟨by repeat (first | (with_reducible first | exact HK.out | apply KeepBut.set_ | apply keep_drewN | apply keep_drew | apply keep_alloc | refine keep_far ?_ GW854.out _ | refine keep_far ?_ GW861.out _) | exact HK.out)⟩, ⟨by repeat (first | (with_reducible first | exact HB.out | apply below_alloc | apply pw_below_drewN | apply below_drew1 | refine below_set ?_ (IsS123.ge HI0.out) | refine below_set ?_ GE854.out | refine below_set ?_ GE861.out) | exact HB.out)⟩⟩
      case rest =>
        clear HC24
        try clear c1
        try clear p2
        try clear c4
        try clear p6
        try clear c10
        try clear c41
        obtain ⟨kq, x1001_23, x1002_23, x862000_23, HA, HJ23, BK854, BK861, HI0, HK, HB⟩ := hcut
        cases kq with
        | zero => exact absurd HA.out (by simp [spec_l04DrawOk.j1])
        | succ kj23 =>
          have H := HA.out
          clear HA
          simp only [spec_l04DrawOk.j1] at H
          replace H := Option.bind_eq_some_iff.mp H
          obtain ⟨t889, A490, H⟩ := H
          replace H : (if t889 = true then (some (x862000_23, (wrap64 ((wrap64 ((wrap64 (t856 + (wrap64 (2 * (wrap64 ((wrap64 (t858 + t871)) - 4)))))) + t877)) - 30)), (wrap64 ((wrap64 (t857 + t868)) - 4)), (wrap64 ((wrap64 (t858 + t871)) - 4)), t855, t856, t857, t858, x862008_4, x1001_23, x1002_23)) else (some (0, 0, 0, 0, 0, 0, 0, 0, 600, x1001_23, x1002_23))) = some (r1, r2, r3, r4, r5, r6, r7, r8, r9, r10, r11) := H
          have A49 := Aside0.mk A490
          clear A490
          by_cases c50 : t889 = true
          · subst c50
            have H1 : (some (x862000_23, (wrap64 ((wrap64 ((wrap64 (t856 + (wrap64 (2 * (wrap64 ((wrap64 (t858 + t871)) - 4)))))) + t877)) - 30)), (wrap64 ((wrap64 (t857 + t868)) - 4)), (wrap64 ((wrap64 (t858 + t871)) - 4)), t855, t856, t857, t858, x862008_4, x1001_23, x1002_23)) = some (r1, r2, r3, r4, r5, r6, r7, r8, r9, r10, r11) := by rw [if_pos rfl] at H; exact H
            clear H
            have H := H1
            clear H1
            simp only [Option.some.injEq, Prod.mk.injEq] at H
            obtain ⟨rfl, rfl, rfl, rfl, rfl, rfl, rfl, rfl, rfl, rfl, rfl⟩ := H
            go_wp2_with (first | ((with_reducible refine gate_callee (f := 79) rfl ?_); refine goesL_ (some 74) rfl rfl Try.func79 (by kernel_rfl) rfl #[.pointer (some ⟨gb861, 0, none⟩)] rfl (by (try simp only [List.map_toArray, List.map_cons, List.map_nil]); first | done | rfl | (simp only [List.length_drop, List.length_take]; rfl)) ?_; (with_reducible refine (spec_l04Is.calls kj23 gb861 x862000_23 (wrap64 ((wrap64 ((wrap64 (t856 + (wrap64 (2 * (wrap64 ((wrap64 (t858 + t871)) - 4)))))) + t877)) - 30)) (wrap64 ((wrap64 (t857 + t868)) - 4)) (wrap64 ((wrap64 (t858 + t871)) - 4)) t855 t856 t857 t858 x862008_4 true _ ?side1 A49.out).mono ?_); (case side1 => (with_reducible repeat (first | refine blk_drewN ?_ _ | refine blk_drew ?_ | refine blk_alloc ?_ _)); exact BK861.out); rintro e w51 ⟨rfl, hb⟩; refine ⟨_, rfl, ?_⟩; have n0_ := Aside0.mk (blk_below (g := gb854) (o := .cells #[.int .i64 0, .int .i64 0, .int .i64 0, .int .i64 0, .int .i64 0, .int .i64 0, .int .i64 0, .int .i64 0, .int .i64 0] 58 (0, 0)) (by (with_reducible repeat (first | refine blk_drewN ?_ _ | refine blk_drew ?_ | refine blk_alloc ?_ _)); exact BK854.out) hb); have n1_ := Aside0.mk (blk_below (g := gb861) (o := .cells #[.int .i64 x862000_23, .int .i64 (wrap64 ((wrap64 ((wrap64 (t856 + (wrap64 (2 * (wrap64 ((wrap64 (t858 + t871)) - 4)))))) + t877)) - 30)), .int .i64 (wrap64 ((wrap64 (t857 + t868)) - 4)), .int .i64 (wrap64 ((wrap64 (t858 + t871)) - 4)), .int .i64 t855, .int .i64 t856, .int .i64 t857, .int .i64 t858, .int .i64 x862008_4] 58 (0, 0)) (by (with_reducible repeat (first | refine blk_drewN ?_ _ | refine blk_drew ?_ | refine blk_alloc ?_ _)); exact BK861.out) hb); have n2_ := Aside0.mk (IsS123.below (by repeat (first | (with_reducible first | exact HI0.out | apply IsS123.alloc | apply IsS123.drewN | apply IsS123.drew | apply IsS123.set_1 | apply IsS123.set_2 | refine IsS123.far ?_ NB0_854.out _ | refine IsS123.far ?_ NB0_861.out _) | exact HI0.out)) hb); have n3_ := Aside0.mk (KeepBut.trans (by repeat (first | (with_reducible first | exact HK.out | apply KeepBut.set_ | apply keep_drewN | apply keep_drew | apply keep_alloc | refine keep_far ?_ GW854.out _ | refine keep_far ?_ GW861.out _) | exact HK.out)) (KeepBut.of_below hb g none) (.inl rfl)); have n4_ := Aside0.mk (below_step (by repeat (first | (with_reducible first | exact HB.out | apply below_alloc | apply pw_below_drewN | apply below_drew1 | refine below_set ?_ (IsS123.ge HI0.out) | refine below_set ?_ GE854.out | refine below_set ?_ GE861.out) | exact HB.out)) hb); clear BK854; clear BK861; clear HI0; clear HK; clear HB; have BK854 := n0_; have BK861 := n1_; have HI0 := n2_; have HK := n3_; have HB := n4_; clear n0_ n1_ n2_ n3_ n4_; (try clear hb); (try clear hb2); (try clear hk); (try clear hi); have hnb52 := NB861_854.out; have hnc52 := NB854_861.out; have hnb53 := NB861_0.out; have hnc53 := NB0_861.out; have hcz54_0 : w51.cell? ⟨gb861, 0, none⟩ = some (.int .i64 x862000_23) := (blk_cell BK861.out 0).trans rfl; have hcz54_1 : w51.cell? ⟨gb861, 1, none⟩ = some (.int .i64 (wrap64 ((wrap64 ((wrap64 (t856 + (wrap64 (2 * (wrap64 ((wrap64 (t858 + t871)) - 4)))))) + t877)) - 30))) := (blk_cell BK861.out 1).trans rfl; have hcz54_2 : w51.cell? ⟨gb861, 2, none⟩ = some (.int .i64 (wrap64 ((wrap64 (t857 + t868)) - 4))) := (blk_cell BK861.out 2).trans rfl; have hcz54_3 : w51.cell? ⟨gb861, 3, none⟩ = some (.int .i64 (wrap64 ((wrap64 (t858 + t871)) - 4))) := (blk_cell BK861.out 3).trans rfl; have hcz54_4 : w51.cell? ⟨gb861, 4, none⟩ = some (.int .i64 t855) := (blk_cell BK861.out 4).trans rfl; have hcz54_5 : w51.cell? ⟨gb861, 5, none⟩ = some (.int .i64 t856) := (blk_cell BK861.out 5).trans rfl; have hcz54_6 : w51.cell? ⟨gb861, 6, none⟩ = some (.int .i64 t857) := (blk_cell BK861.out 6).trans rfl; have hcz54_7 : w51.cell? ⟨gb861, 7, none⟩ = some (.int .i64 t858) := (blk_cell BK861.out 7).trans rfl; have hcz54_8 : w51.cell? ⟨gb861, 8, none⟩ = some (.int .i64 x862008_4) := (blk_cell BK861.out 8).trans rfl; have hfz54_0 := blk_frozen BK861.out 0; have hfz54_1 := blk_frozen BK861.out 1; have hfz54_2 := blk_frozen BK861.out 2; have hfz54_3 := blk_frozen BK861.out 3; have hfz54_4 := blk_frozen BK861.out 4; have hfz54_5 := blk_frozen BK861.out 5; have hfz54_6 := blk_frozen BK861.out 6; have hfz54_7 := blk_frozen BK861.out 7; have hfz54_8 := blk_frozen BK861.out 8; have hnb55 := NB854_0.out; have hnc55 := NB0_854.out; have hcz56_0 : w51.cell? ⟨gb854, 0, none⟩ = some (.int .i64 0) := (blk_cell BK854.out 0).trans rfl; have hcz56_1 : w51.cell? ⟨gb854, 1, none⟩ = some (.int .i64 0) := (blk_cell BK854.out 1).trans rfl; have hcz56_2 : w51.cell? ⟨gb854, 2, none⟩ = some (.int .i64 0) := (blk_cell BK854.out 2).trans rfl; have hcz56_3 : w51.cell? ⟨gb854, 3, none⟩ = some (.int .i64 0) := (blk_cell BK854.out 3).trans rfl; have hcz56_4 : w51.cell? ⟨gb854, 4, none⟩ = some (.int .i64 0) := (blk_cell BK854.out 4).trans rfl; have hcz56_5 : w51.cell? ⟨gb854, 5, none⟩ = some (.int .i64 0) := (blk_cell BK854.out 5).trans rfl; have hcz56_6 : w51.cell? ⟨gb854, 6, none⟩ = some (.int .i64 0) := (blk_cell BK854.out 6).trans rfl; have hcz56_7 : w51.cell? ⟨gb854, 7, none⟩ = some (.int .i64 0) := (blk_cell BK854.out 7).trans rfl; have hcz56_8 : w51.cell? ⟨gb854, 8, none⟩ = some (.int .i64 0) := (blk_cell BK854.out 8).trans rfl; have hfz56_0 := blk_frozen BK854.out 0; have hfz56_1 := blk_frozen BK854.out 1; have hfz56_2 := blk_frozen BK854.out 2; have hfz56_3 := blk_frozen BK854.out 3; have hfz56_4 := blk_frozen BK854.out 4; have hfz56_5 := blk_frozen BK854.out 5; have hfz56_6 := blk_frozen BK854.out 6; have hfz56_7 := blk_frozen BK854.out 7; have hfz56_8 := blk_frozen BK854.out 8))
            refine bodyPost_ret (results_cell_row rfl _ _ gb854 58 #[.int .i64 x862000_23, .int .i64 (wrap64 ((wrap64 ((wrap64 (t856 + (wrap64 (2 * (wrap64 ((wrap64 (t858 + t871)) - 4)))))) + t877)) - 30)), .int .i64 (wrap64 ((wrap64 (t857 + t868)) - 4)), .int .i64 (wrap64 ((wrap64 (t858 + t871)) - 4)), .int .i64 t855, .int .i64 t856, .int .i64 t857, .int .i64 t858, .int .i64 x862008_4] (0, 0) _ rfl (by (with_reducible repeat (first | refine blk_drewN ?_ _ | refine blk_drew ?_ | refine blk_alloc ?_ _)); refine blk_put (cs := #[.int .i64 x862000_23, .int .i64 (wrap64 ((wrap64 ((wrap64 (t856 + (wrap64 (2 * (wrap64 ((wrap64 (t858 + t871)) - 4)))))) + t877)) - 30)), .int .i64 (wrap64 ((wrap64 (t857 + t868)) - 4)), .int .i64 (wrap64 ((wrap64 (t858 + t871)) - 4)), .int .i64 t855, .int .i64 t856, .int .i64 t857, .int .i64 t858, .int .i64 0]) ?_ 8 _ rfl; (with_reducible repeat (first | refine blk_drewN ?_ _ | refine blk_drew ?_ | refine blk_alloc ?_ _)); refine blk_put (cs := #[.int .i64 x862000_23, .int .i64 (wrap64 ((wrap64 ((wrap64 (t856 + (wrap64 (2 * (wrap64 ((wrap64 (t858 + t871)) - 4)))))) + t877)) - 30)), .int .i64 (wrap64 ((wrap64 (t857 + t868)) - 4)), .int .i64 (wrap64 ((wrap64 (t858 + t871)) - 4)), .int .i64 t855, .int .i64 t856, .int .i64 t857, .int .i64 0, .int .i64 0]) ?_ 7 _ rfl; (with_reducible repeat (first | refine blk_drewN ?_ _ | refine blk_drew ?_ | refine blk_alloc ?_ _)); refine blk_put (cs := #[.int .i64 x862000_23, .int .i64 (wrap64 ((wrap64 ((wrap64 (t856 + (wrap64 (2 * (wrap64 ((wrap64 (t858 + t871)) - 4)))))) + t877)) - 30)), .int .i64 (wrap64 ((wrap64 (t857 + t868)) - 4)), .int .i64 (wrap64 ((wrap64 (t858 + t871)) - 4)), .int .i64 t855, .int .i64 t856, .int .i64 0, .int .i64 0, .int .i64 0]) ?_ 6 _ rfl; (with_reducible repeat (first | refine blk_drewN ?_ _ | refine blk_drew ?_ | refine blk_alloc ?_ _)); refine blk_put (cs := #[.int .i64 x862000_23, .int .i64 (wrap64 ((wrap64 ((wrap64 (t856 + (wrap64 (2 * (wrap64 ((wrap64 (t858 + t871)) - 4)))))) + t877)) - 30)), .int .i64 (wrap64 ((wrap64 (t857 + t868)) - 4)), .int .i64 (wrap64 ((wrap64 (t858 + t871)) - 4)), .int .i64 t855, .int .i64 0, .int .i64 0, .int .i64 0, .int .i64 0]) ?_ 5 _ rfl; (with_reducible repeat (first | refine blk_drewN ?_ _ | refine blk_drew ?_ | refine blk_alloc ?_ _)); refine blk_put (cs := #[.int .i64 x862000_23, .int .i64 (wrap64 ((wrap64 ((wrap64 (t856 + (wrap64 (2 * (wrap64 ((wrap64 (t858 + t871)) - 4)))))) + t877)) - 30)), .int .i64 (wrap64 ((wrap64 (t857 + t868)) - 4)), .int .i64 (wrap64 ((wrap64 (t858 + t871)) - 4)), .int .i64 0, .int .i64 0, .int .i64 0, .int .i64 0, .int .i64 0]) ?_ 4 _ rfl; (with_reducible repeat (first | refine blk_drewN ?_ _ | refine blk_drew ?_ | refine blk_alloc ?_ _)); refine blk_put (cs := #[.int .i64 x862000_23, .int .i64 (wrap64 ((wrap64 ((wrap64 (t856 + (wrap64 (2 * (wrap64 ((wrap64 (t858 + t871)) - 4)))))) + t877)) - 30)), .int .i64 (wrap64 ((wrap64 (t857 + t868)) - 4)), .int .i64 0, .int .i64 0, .int .i64 0, .int .i64 0, .int .i64 0, .int .i64 0]) ?_ 3 _ rfl; (with_reducible repeat (first | refine blk_drewN ?_ _ | refine blk_drew ?_ | refine blk_alloc ?_ _)); refine blk_put (cs := #[.int .i64 x862000_23, .int .i64 (wrap64 ((wrap64 ((wrap64 (t856 + (wrap64 (2 * (wrap64 ((wrap64 (t858 + t871)) - 4)))))) + t877)) - 30)), .int .i64 0, .int .i64 0, .int .i64 0, .int .i64 0, .int .i64 0, .int .i64 0, .int .i64 0]) ?_ 2 _ rfl; (with_reducible repeat (first | refine blk_drewN ?_ _ | refine blk_drew ?_ | refine blk_alloc ?_ _)); refine blk_put (cs := #[.int .i64 x862000_23, .int .i64 0, .int .i64 0, .int .i64 0, .int .i64 0, .int .i64 0, .int .i64 0, .int .i64 0, .int .i64 0]) ?_ 1 _ rfl; (with_reducible repeat (first | refine blk_drewN ?_ _ | refine blk_drew ?_ | refine blk_alloc ?_ _)); refine blk_put (cs := #[.int .i64 0, .int .i64 0, .int .i64 0, .int .i64 0, .int .i64 0, .int .i64 0, .int .i64 0, .int .i64 0, .int .i64 0]) ?_ 0 _ rfl; (with_reducible repeat (first | refine blk_drewN ?_ _ | refine blk_drew ?_ | refine blk_alloc ?_ _)); exact BK854.out) Try.underlying58 rfl (by kernel_rfl)) rfl ?_
            exact ⟨by first | rfl | (simp [errW_none, errW_some] <;> rfl) | (simp [*, errW_none, errW_some] <;> rfl), by repeat (first | (with_reducible first | exact HI0.out | apply IsS123.alloc | apply IsS123.drewN | apply IsS123.drew | apply IsS123.set_1 | apply IsS123.set_2 | refine IsS123.far ?_ NB0_854.out _ | refine IsS123.far ?_ NB0_861.out _) | exact HI0.out), by repeat (first | (with_reducible first | exact HB.out | apply below_alloc | apply pw_below_drewN | apply below_drew1 | refine below_set ?_ (IsS123.ge HI0.out) | refine below_set ?_ GE854.out | refine below_set ?_ GE861.out) | exact HB.out), by repeat (first | (with_reducible first | exact HK.out | apply KeepBut.set_ | apply keep_drewN | apply keep_drew | apply keep_alloc | refine keep_far ?_ GW854.out _ | refine keep_far ?_ GW861.out _) | exact HK.out)⟩
          · replace c50 := Bool.eq_false_iff.mpr c50
            subst c50
            have H1 : (some (0, 0, 0, 0, 0, 0, 0, 0, 600, x1001_23, x1002_23)) = some (r1, r2, r3, r4, r5, r6, r7, r8, r9, r10, r11) := by rw [if_neg (show ¬ (false = true) by decide)] at H; exact H
            clear H
            have H := H1
            clear H1
            simp only [Option.some.injEq, Prod.mk.injEq] at H
            obtain ⟨rfl, rfl, rfl, rfl, rfl, rfl, rfl, rfl, rfl, rfl, rfl⟩ := H
            go_wp2_with (first | ((with_reducible refine gate_callee (f := 79) rfl ?_); refine goesL_ (some 74) rfl rfl Try.func79 (by kernel_rfl) rfl #[.pointer (some ⟨gb861, 0, none⟩)] rfl (by (try simp only [List.map_toArray, List.map_cons, List.map_nil]); first | done | rfl | (simp only [List.length_drop, List.length_take]; rfl)) ?_; (with_reducible refine (spec_l04Is.calls kj23 gb861 x862000_23 (wrap64 ((wrap64 ((wrap64 (t856 + (wrap64 (2 * (wrap64 ((wrap64 (t858 + t871)) - 4)))))) + t877)) - 30)) (wrap64 ((wrap64 (t857 + t868)) - 4)) (wrap64 ((wrap64 (t858 + t871)) - 4)) t855 t856 t857 t858 x862008_4 false _ ?side1 A49.out).mono ?_); (case side1 => (with_reducible repeat (first | refine blk_drewN ?_ _ | refine blk_drew ?_ | refine blk_alloc ?_ _)); exact BK861.out); rintro e w57 ⟨rfl, hb⟩; refine ⟨_, rfl, ?_⟩; have n0_ := Aside0.mk (blk_below (g := gb854) (o := .cells #[.int .i64 0, .int .i64 0, .int .i64 0, .int .i64 0, .int .i64 0, .int .i64 0, .int .i64 0, .int .i64 0, .int .i64 0] 58 (0, 0)) (by (with_reducible repeat (first | refine blk_drewN ?_ _ | refine blk_drew ?_ | refine blk_alloc ?_ _)); exact BK854.out) hb); have n1_ := Aside0.mk (blk_below (g := gb861) (o := .cells #[.int .i64 x862000_23, .int .i64 (wrap64 ((wrap64 ((wrap64 (t856 + (wrap64 (2 * (wrap64 ((wrap64 (t858 + t871)) - 4)))))) + t877)) - 30)), .int .i64 (wrap64 ((wrap64 (t857 + t868)) - 4)), .int .i64 (wrap64 ((wrap64 (t858 + t871)) - 4)), .int .i64 t855, .int .i64 t856, .int .i64 t857, .int .i64 t858, .int .i64 x862008_4] 58 (0, 0)) (by (with_reducible repeat (first | refine blk_drewN ?_ _ | refine blk_drew ?_ | refine blk_alloc ?_ _)); exact BK861.out) hb); have n2_ := Aside0.mk (IsS123.below (by repeat (first | (with_reducible first | exact HI0.out | apply IsS123.alloc | apply IsS123.drewN | apply IsS123.drew | apply IsS123.set_1 | apply IsS123.set_2 | refine IsS123.far ?_ NB0_854.out _ | refine IsS123.far ?_ NB0_861.out _) | exact HI0.out)) hb); have n3_ := Aside0.mk (KeepBut.trans (by repeat (first | (with_reducible first | exact HK.out | apply KeepBut.set_ | apply keep_drewN | apply keep_drew | apply keep_alloc | refine keep_far ?_ GW854.out _ | refine keep_far ?_ GW861.out _) | exact HK.out)) (KeepBut.of_below hb g none) (.inl rfl)); have n4_ := Aside0.mk (below_step (by repeat (first | (with_reducible first | exact HB.out | apply below_alloc | apply pw_below_drewN | apply below_drew1 | refine below_set ?_ (IsS123.ge HI0.out) | refine below_set ?_ GE854.out | refine below_set ?_ GE861.out) | exact HB.out)) hb); clear BK854; clear BK861; clear HI0; clear HK; clear HB; have BK854 := n0_; have BK861 := n1_; have HI0 := n2_; have HK := n3_; have HB := n4_; clear n0_ n1_ n2_ n3_ n4_; (try clear hb); (try clear hb2); (try clear hk); (try clear hi); have hnb58 := NB861_854.out; have hnc58 := NB854_861.out; have hnb59 := NB861_0.out; have hnc59 := NB0_861.out; have hcz60_0 : w57.cell? ⟨gb861, 0, none⟩ = some (.int .i64 x862000_23) := (blk_cell BK861.out 0).trans rfl; have hcz60_1 : w57.cell? ⟨gb861, 1, none⟩ = some (.int .i64 (wrap64 ((wrap64 ((wrap64 (t856 + (wrap64 (2 * (wrap64 ((wrap64 (t858 + t871)) - 4)))))) + t877)) - 30))) := (blk_cell BK861.out 1).trans rfl; have hcz60_2 : w57.cell? ⟨gb861, 2, none⟩ = some (.int .i64 (wrap64 ((wrap64 (t857 + t868)) - 4))) := (blk_cell BK861.out 2).trans rfl; have hcz60_3 : w57.cell? ⟨gb861, 3, none⟩ = some (.int .i64 (wrap64 ((wrap64 (t858 + t871)) - 4))) := (blk_cell BK861.out 3).trans rfl; have hcz60_4 : w57.cell? ⟨gb861, 4, none⟩ = some (.int .i64 t855) := (blk_cell BK861.out 4).trans rfl; have hcz60_5 : w57.cell? ⟨gb861, 5, none⟩ = some (.int .i64 t856) := (blk_cell BK861.out 5).trans rfl; have hcz60_6 : w57.cell? ⟨gb861, 6, none⟩ = some (.int .i64 t857) := (blk_cell BK861.out 6).trans rfl; have hcz60_7 : w57.cell? ⟨gb861, 7, none⟩ = some (.int .i64 t858) := (blk_cell BK861.out 7).trans rfl; have hcz60_8 : w57.cell? ⟨gb861, 8, none⟩ = some (.int .i64 x862008_4) := (blk_cell BK861.out 8).trans rfl; have hfz60_0 := blk_frozen BK861.out 0; have hfz60_1 := blk_frozen BK861.out 1; have hfz60_2 := blk_frozen BK861.out 2; have hfz60_3 := blk_frozen BK861.out 3; have hfz60_4 := blk_frozen BK861.out 4; have hfz60_5 := blk_frozen BK861.out 5; have hfz60_6 := blk_frozen BK861.out 6; have hfz60_7 := blk_frozen BK861.out 7; have hfz60_8 := blk_frozen BK861.out 8; have hnb61 := NB854_0.out; have hnc61 := NB0_854.out; have hcz62_0 : w57.cell? ⟨gb854, 0, none⟩ = some (.int .i64 0) := (blk_cell BK854.out 0).trans rfl; have hcz62_1 : w57.cell? ⟨gb854, 1, none⟩ = some (.int .i64 0) := (blk_cell BK854.out 1).trans rfl; have hcz62_2 : w57.cell? ⟨gb854, 2, none⟩ = some (.int .i64 0) := (blk_cell BK854.out 2).trans rfl; have hcz62_3 : w57.cell? ⟨gb854, 3, none⟩ = some (.int .i64 0) := (blk_cell BK854.out 3).trans rfl; have hcz62_4 : w57.cell? ⟨gb854, 4, none⟩ = some (.int .i64 0) := (blk_cell BK854.out 4).trans rfl; have hcz62_5 : w57.cell? ⟨gb854, 5, none⟩ = some (.int .i64 0) := (blk_cell BK854.out 5).trans rfl; have hcz62_6 : w57.cell? ⟨gb854, 6, none⟩ = some (.int .i64 0) := (blk_cell BK854.out 6).trans rfl; have hcz62_7 : w57.cell? ⟨gb854, 7, none⟩ = some (.int .i64 0) := (blk_cell BK854.out 7).trans rfl; have hcz62_8 : w57.cell? ⟨gb854, 8, none⟩ = some (.int .i64 0) := (blk_cell BK854.out 8).trans rfl; have hfz62_0 := blk_frozen BK854.out 0; have hfz62_1 := blk_frozen BK854.out 1; have hfz62_2 := blk_frozen BK854.out 2; have hfz62_3 := blk_frozen BK854.out 3; have hfz62_4 := blk_frozen BK854.out 4; have hfz62_5 := blk_frozen BK854.out 5; have hfz62_6 := blk_frozen BK854.out 6; have hfz62_7 := blk_frozen BK854.out 7; have hfz62_8 := blk_frozen BK854.out 8))
            refine bodyPost_ret (results_cell_row rfl _ _ gb854 58 #[.int .i64 0, .int .i64 0, .int .i64 0, .int .i64 0, .int .i64 0, .int .i64 0, .int .i64 0, .int .i64 0, .int .i64 600] (0, 0) _ rfl (by (with_reducible repeat (first | refine blk_drewN ?_ _ | refine blk_drew ?_ | refine blk_alloc ?_ _)); refine blk_put (cs := #[.int .i64 0, .int .i64 0, .int .i64 0, .int .i64 0, .int .i64 0, .int .i64 0, .int .i64 0, .int .i64 0, .int .i64 0]) ?_ 8 _ rfl; (with_reducible repeat (first | refine blk_drewN ?_ _ | refine blk_drew ?_ | refine blk_alloc ?_ _)); refine blk_put (cs := #[.int .i64 0, .int .i64 0, .int .i64 0, .int .i64 0, .int .i64 0, .int .i64 0, .int .i64 0, .int .i64 0, .int .i64 0]) ?_ 7 _ rfl; (with_reducible repeat (first | refine blk_drewN ?_ _ | refine blk_drew ?_ | refine blk_alloc ?_ _)); refine blk_put (cs := #[.int .i64 0, .int .i64 0, .int .i64 0, .int .i64 0, .int .i64 0, .int .i64 0, .int .i64 0, .int .i64 0, .int .i64 0]) ?_ 6 _ rfl; (with_reducible repeat (first | refine blk_drewN ?_ _ | refine blk_drew ?_ | refine blk_alloc ?_ _)); refine blk_put (cs := #[.int .i64 0, .int .i64 0, .int .i64 0, .int .i64 0, .int .i64 0, .int .i64 0, .int .i64 0, .int .i64 0, .int .i64 0]) ?_ 5 _ rfl; (with_reducible repeat (first | refine blk_drewN ?_ _ | refine blk_drew ?_ | refine blk_alloc ?_ _)); refine blk_put (cs := #[.int .i64 0, .int .i64 0, .int .i64 0, .int .i64 0, .int .i64 0, .int .i64 0, .int .i64 0, .int .i64 0, .int .i64 0]) ?_ 4 _ rfl; (with_reducible repeat (first | refine blk_drewN ?_ _ | refine blk_drew ?_ | refine blk_alloc ?_ _)); refine blk_put (cs := #[.int .i64 0, .int .i64 0, .int .i64 0, .int .i64 0, .int .i64 0, .int .i64 0, .int .i64 0, .int .i64 0, .int .i64 0]) ?_ 3 _ rfl; (with_reducible repeat (first | refine blk_drewN ?_ _ | refine blk_drew ?_ | refine blk_alloc ?_ _)); refine blk_put (cs := #[.int .i64 0, .int .i64 0, .int .i64 0, .int .i64 0, .int .i64 0, .int .i64 0, .int .i64 0, .int .i64 0, .int .i64 0]) ?_ 2 _ rfl; (with_reducible repeat (first | refine blk_drewN ?_ _ | refine blk_drew ?_ | refine blk_alloc ?_ _)); refine blk_put (cs := #[.int .i64 0, .int .i64 0, .int .i64 0, .int .i64 0, .int .i64 0, .int .i64 0, .int .i64 0, .int .i64 0, .int .i64 0]) ?_ 1 _ rfl; (with_reducible repeat (first | refine blk_drewN ?_ _ | refine blk_drew ?_ | refine blk_alloc ?_ _)); refine blk_put (cs := #[.int .i64 0, .int .i64 0, .int .i64 0, .int .i64 0, .int .i64 0, .int .i64 0, .int .i64 0, .int .i64 0, .int .i64 0]) ?_ 0 _ rfl; (with_reducible repeat (first | refine blk_drewN ?_ _ | refine blk_drew ?_ | refine blk_alloc ?_ _)); refine blk_far ?_ NB854_861.out _; (with_reducible repeat (first | refine blk_drewN ?_ _ | refine blk_drew ?_ | refine blk_alloc ?_ _)); refine blk_far ?_ NB854_861.out _; (with_reducible repeat (first | refine blk_drewN ?_ _ | refine blk_drew ?_ | refine blk_alloc ?_ _)); refine blk_far ?_ NB854_861.out _; (with_reducible repeat (first | refine blk_drewN ?_ _ | refine blk_drew ?_ | refine blk_alloc ?_ _)); refine blk_far ?_ NB854_861.out _; (with_reducible repeat (first | refine blk_drewN ?_ _ | refine blk_drew ?_ | refine blk_alloc ?_ _)); refine blk_far ?_ NB854_861.out _; (with_reducible repeat (first | refine blk_drewN ?_ _ | refine blk_drew ?_ | refine blk_alloc ?_ _)); refine blk_far ?_ NB854_861.out _; (with_reducible repeat (first | refine blk_drewN ?_ _ | refine blk_drew ?_ | refine blk_alloc ?_ _)); refine blk_far ?_ NB854_861.out _; (with_reducible repeat (first | refine blk_drewN ?_ _ | refine blk_drew ?_ | refine blk_alloc ?_ _)); refine blk_far ?_ NB854_861.out _; (with_reducible repeat (first | refine blk_drewN ?_ _ | refine blk_drew ?_ | refine blk_alloc ?_ _)); refine blk_far ?_ NB854_861.out _; (with_reducible repeat (first | refine blk_drewN ?_ _ | refine blk_drew ?_ | refine blk_alloc ?_ _)); exact BK854.out) Try.underlying58 rfl (by kernel_rfl)) rfl ?_
            exact ⟨by first | rfl | (simp [errW_none, errW_some] <;> rfl) | (simp [*, errW_none, errW_some] <;> rfl), by repeat (first | (with_reducible first | exact HI0.out | apply IsS123.alloc | apply IsS123.drewN | apply IsS123.drew | apply IsS123.set_1 | apply IsS123.set_2 | refine IsS123.far ?_ NB0_854.out _ | refine IsS123.far ?_ NB0_861.out _) | exact HI0.out), by repeat (first | (with_reducible first | exact HB.out | apply below_alloc | apply pw_below_drewN | apply below_drew1 | refine below_set ?_ (IsS123.ge HI0.out) | refine below_set ?_ GE854.out | refine below_set ?_ GE861.out) | exact HB.out), by repeat (first | (with_reducible first | exact HK.out | apply KeepBut.set_ | apply keep_drewN | apply keep_drew | apply keep_alloc | refine keep_far ?_ GW854.out _ | refine keep_far ?_ GW861.out _) | exact HK.out)⟩

/-! ### spec_R8Machine: function 56 -/
def spec_R8Machine.f (k : Nat) (l0 : List Int) : Option (Int × Int × Int × Int × Int × Int × Int × Int × Int) := (spec_l00From.f l0).bind fun bt891 => ((spec_l04DrawOk.f k bt891.1 bt891.2.1 bt891.2.2).bind fun bt895 => (some (bt895.1, bt895.2.1, bt895.2.2.1, bt895.2.2.2.1, bt895.2.2.2.2.1, bt895.2.2.2.2.2.1, bt895.2.2.2.2.2.2.1, bt895.2.2.2.2.2.2.2.1, bt895.2.2.2.2.2.2.2.2.1)))
theorem spec_R8Machine.mono : ∀ a0 k, LeO (spec_R8Machine.f k a0) (spec_R8Machine.f (k + 1) a0) := by
  intro a0 k
  unfold spec_R8Machine.f
  repeat' first
      | (with_reducible exact spec_l04DrawOk.mono _ _ _ _)
      | (with_reducible exact LeO.refl _)
      | (with_reducible exact LeO.none _)
      | (with_reducible refine LeO.ite ?_ ?_)
      | (with_reducible refine LeO.bind ?_ (fun _ => ?_))
      | exact spec_l04DrawOk.mono _ _ _ _
      | exact LeO.none _
      | refine LeO.ite ?_ ?_
      | refine LeO.bind ?_ (fun _ => ?_)
set_option maxHeartbeats 8000000 in
set_option maxRecDepth 100000 in
theorem spec_R8Machine.calls (k : Nat) (A0 : Option Addr) (c0 : Nat) (l0 : List Int) (r1 : Int) (r2 : Int) (r3 : Int) (r4 : Int) (r5 : Int) (r6 : Int) (r7 : Int) (r8 : Int) (r9 : Int) (w : World) (hr0 : Kd.C (Kd.int .u8) w A0 l0.length l0) (hc0 : l0.length ≤ c0) (h : spec_R8Machine.f k l0 = some (r1, r2, r3, r4, r5, r6, r7, r8, r9)) :
    Calls Try.prog 56 #[.slice A0 l0.length c0] w fun e w' => e = .returned (.agg #[.int .i64 r1, .int .i64 r2, .int .i64 r3, .int .i64 r4, .int .i64 r5, .int .i64 r6, .int .i64 r7, .int .i64 r8, .int .i64 r9]) ∧ Below w.heap.size w w' := by
  have hu58 := Try.underlying58
  have HR0 := Aside0.mk hr0
  have HC0 := Aside0.mk hc0
  clear hr0 hc0
  have HB := Aside0.mk (Below.refl w.heap.size w)
  have H : ((spec_l00From.f l0).bind fun bt891 => ((spec_l04DrawOk.f k bt891.1 bt891.2.1 bt891.2.2).bind fun bt895 => (some (bt895.1, bt895.2.1, bt895.2.2.1, bt895.2.2.2.1, bt895.2.2.2.2.1, bt895.2.2.2.2.2.1, bt895.2.2.2.2.2.2.1, bt895.2.2.2.2.2.2.2.1, bt895.2.2.2.2.2.2.2.2.1)))) = some (r1, r2, r3, r4, r5, r6, r7, r8, r9) := h
  clear h
  replace H := Option.bind_eq_some_iff.mp H
  obtain ⟨⟨t891, t892, t893⟩, A20, H⟩ := H
  replace H : ((spec_l04DrawOk.f k t891 t892 t893).bind fun bt895 => (some (bt895.1, bt895.2.1, bt895.2.2.1, bt895.2.2.2.1, bt895.2.2.2.2.1, bt895.2.2.2.2.2.1, bt895.2.2.2.2.2.2.1, bt895.2.2.2.2.2.2.2.1, bt895.2.2.2.2.2.2.2.2.1))) = some (r1, r2, r3, r4, r5, r6, r7, r8, r9) := H
  have A2 := Aside0.mk A20
  clear A20
  replace H := Option.bind_eq_some_iff.mp H
  obtain ⟨⟨t895, t896, t897, t898, t899, t900, t901, t902, t903, t904, t905⟩, A30, H⟩ := H
  replace H : (some (t895, t896, t897, t898, t899, t900, t901, t902, t903)) = some (r1, r2, r3, r4, r5, r6, r7, r8, r9) := H
  have A3 := Aside0.mk A30
  clear A30
  simp only [Option.some.injEq, Prod.mk.injEq] at H
  obtain ⟨rfl, rfl, rfl, rfl, rfl, rfl, rfl, rfl, rfl⟩ := H
  go_enter Try.func56, Try.ntmps56
  go_wp2_with (first | ((with_reducible refine gate_dst (N := 2) rfl ?_); refine box_event ?hg (N := 2) ?hd (cs := #[.int .i64 0, .int .i64 0, .int .i64 0, .int .i64 0, .int .i64 0, .int .i64 0, .int .i64 0, .int .i64 0, .int .i64 0]) (t := 58) ?hr ?_; (case hd => rfl); (case hg => rfl); (case hr => first | (go_simp; done) | (go_simp; rfl)); intro gb890 hg w4 hbox hb; have n0_ := Aside0.mk (below_step (by repeat (first | (with_reducible first | exact HB.out | apply below_alloc | apply pw_below_drewN | apply below_drew1) | exact HB.out)) hb); have n1_ := Aside0.mk (hbox); have n2_ := Aside0.mk ((by rw [hg]; exact (below_size (by repeat (first | (with_reducible first | exact HB.out | apply below_alloc | apply pw_below_drewN | apply below_drew1) | exact HB.out))) : w.heap.size ≤ gb890)); have n3_ := Aside0.mk ((by rw [hg]; exact (below_size (by repeat (first | (with_reducible first | exact HB.out | apply below_alloc | apply pw_below_drewN | apply below_drew1) | exact HB.out))) : w.heap.size ≤ gb890)); clear HB; have HB := n0_; have BK890 := n1_; have GW890 := n2_; have GE890 := n3_; clear n0_ n1_ n2_ n3_; clear hb hbox hg) | ((with_reducible refine gate_callee (f := 77) rfl ?_); refine goesL_ (some 5) rfl rfl Try.func77 (by kernel_rfl) rfl #[.slice A0 l0.length c0] rfl (by (try simp only [List.map_toArray, List.map_cons, List.map_nil]); first | done | rfl | (simp only [List.length_drop, List.length_take]; rfl)) ?_; (with_reducible refine (spec_l00From.calls _ _ l0 t891 t892 t893 w _ ?side1 ?side2 ?side3 A2.out).mono ?_); (case side1 => repeat (first | (with_reducible first | exact HB.out | apply below_alloc | apply pw_below_drewN | apply below_drew1 | refine below_set ?_ GE890.out) | exact HB.out)); (case side2 => exact HR0.out); (case side3 => exact HC0.out); rintro e w5 ⟨g894, rfl, hi, hb, hb2⟩; refine ⟨_, rfl, ?_⟩; have n0_ := Aside0.mk (blk_below (g := gb890) (o := .cells #[.int .i64 0, .int .i64 0, .int .i64 0, .int .i64 0, .int .i64 0, .int .i64 0, .int .i64 0, .int .i64 0, .int .i64 0] 58 (0, 0)) (by (with_reducible repeat (first | refine blk_drewN ?_ _ | refine blk_drew ?_ | refine blk_alloc ?_ _)); exact BK890.out) hb2); have n1_ := Aside0.mk (hb); have n2_ := Aside0.mk (hi); have n3_ := Aside0.mk (IsS123.ne_blk hi (blk_below (g := gb890) (o := .cells #[.int .i64 0, .int .i64 0, .int .i64 0, .int .i64 0, .int .i64 0, .int .i64 0, .int .i64 0, .int .i64 0, .int .i64 0] 58 (0, 0)) (by (with_reducible repeat (first | refine blk_drewN ?_ _ | refine blk_drew ?_ | refine blk_alloc ?_ _)); exact BK890.out) hb2) (by decide)); have n4_ := Aside0.mk (Ne.symm (IsS123.ne_blk hi (blk_below (g := gb890) (o := .cells #[.int .i64 0, .int .i64 0, .int .i64 0, .int .i64 0, .int .i64 0, .int .i64 0, .int .i64 0, .int .i64 0, .int .i64 0] 58 (0, 0)) (by (with_reducible repeat (first | refine blk_drewN ?_ _ | refine blk_drew ?_ | refine blk_alloc ?_ _)); exact BK890.out) hb2) (by decide))); clear BK890; clear HB; have BK890 := n0_; have HB := n1_; have HI894 := n2_; have NB894_890 := n3_; have NB890_894 := n4_; clear n0_ n1_ n2_ n3_ n4_; (try clear hb); (try clear hb2); (try clear hk); (try clear hi)) | ((with_reducible refine gate_callee (f := 92) rfl ?_); refine goesL_ (some 7) rfl rfl Try.func92 (by kernel_rfl) rfl #[.pointer (some ⟨g894, 0, none⟩)] rfl (by (try simp only [List.map_toArray, List.map_cons, List.map_nil]); first | done | rfl | (simp only [List.length_drop, List.length_take]; rfl)) ?_; (with_reducible refine (spec_l04DrawOk.calls k g894 t891 t892 t893 t895 t896 t897 t898 t899 t900 t901 t902 t903 t904 t905 w _ ?side1 ?side2 A3.out).mono ?_); (case side1 => repeat (first | (with_reducible first | exact HI894.out | apply IsS123.alloc | apply IsS123.drewN | apply IsS123.drew | apply IsS123.set_1 | apply IsS123.set_2 | refine IsS123.far ?_ NB894_890.out _) | exact HI894.out)); (case side2 => repeat (first | (with_reducible first | exact HB.out | apply below_alloc | apply pw_below_drewN | apply below_drew1 | refine below_set ?_ (IsS123.ge HI894.out) | refine below_set ?_ GE890.out) | exact HB.out)); rintro e w6 ⟨rfl, hi, hb, hk⟩; refine ⟨_, rfl, ?_⟩; have n0_ := Aside0.mk (KeepBut.blk hk (g' := gb890) (o := .cells #[.int .i64 0, .int .i64 0, .int .i64 0, .int .i64 0, .int .i64 0, .int .i64 0, .int .i64 0, .int .i64 0, .int .i64 0] 58 (0, 0)) (by (with_reducible repeat (first | refine blk_drewN ?_ _ | refine blk_drew ?_ | refine blk_alloc ?_ _)); exact BK890.out) NB890_894.out (by simp)); have n1_ := Aside0.mk (hb); have n2_ := Aside0.mk (hi); clear BK890; clear HB; clear HI894; have BK890 := n0_; have HB := n1_; have HI894 := n2_; clear n0_ n1_ n2_; (try clear hb); (try clear hb2); (try clear hk); (try clear hi); have hnb7 := NB890_894.out; have hnc7 := NB894_890.out; have hcz8_0 : w6.cell? ⟨gb890, 0, none⟩ = some (.int .i64 0) := (blk_cell BK890.out 0).trans rfl; have hcz8_1 : w6.cell? ⟨gb890, 1, none⟩ = some (.int .i64 0) := (blk_cell BK890.out 1).trans rfl; have hcz8_2 : w6.cell? ⟨gb890, 2, none⟩ = some (.int .i64 0) := (blk_cell BK890.out 2).trans rfl; have hcz8_3 : w6.cell? ⟨gb890, 3, none⟩ = some (.int .i64 0) := (blk_cell BK890.out 3).trans rfl; have hcz8_4 : w6.cell? ⟨gb890, 4, none⟩ = some (.int .i64 0) := (blk_cell BK890.out 4).trans rfl; have hcz8_5 : w6.cell? ⟨gb890, 5, none⟩ = some (.int .i64 0) := (blk_cell BK890.out 5).trans rfl; have hcz8_6 : w6.cell? ⟨gb890, 6, none⟩ = some (.int .i64 0) := (blk_cell BK890.out 6).trans rfl; have hcz8_7 : w6.cell? ⟨gb890, 7, none⟩ = some (.int .i64 0) := (blk_cell BK890.out 7).trans rfl; have hcz8_8 : w6.cell? ⟨gb890, 8, none⟩ = some (.int .i64 0) := (blk_cell BK890.out 8).trans rfl; have hfz8_0 := blk_frozen BK890.out 0; have hfz8_1 := blk_frozen BK890.out 1; have hfz8_2 := blk_frozen BK890.out 2; have hfz8_3 := blk_frozen BK890.out 3; have hfz8_4 := blk_frozen BK890.out 4; have hfz8_5 := blk_frozen BK890.out 5; have hfz8_6 := blk_frozen BK890.out 6; have hfz8_7 := blk_frozen BK890.out 7; have hfz8_8 := blk_frozen BK890.out 8))
  refine bodyPost_ret (results_cell_row rfl _ _ gb890 58 #[.int .i64 t895, .int .i64 t896, .int .i64 t897, .int .i64 t898, .int .i64 t899, .int .i64 t900, .int .i64 t901, .int .i64 t902, .int .i64 t903] (0, 0) _ rfl (by (with_reducible repeat (first | refine blk_drewN ?_ _ | refine blk_drew ?_ | refine blk_alloc ?_ _)); refine blk_put (cs := #[.int .i64 t895, .int .i64 t896, .int .i64 t897, .int .i64 t898, .int .i64 t899, .int .i64 t900, .int .i64 t901, .int .i64 t902, .int .i64 0]) ?_ 8 _ rfl; (with_reducible repeat (first | refine blk_drewN ?_ _ | refine blk_drew ?_ | refine blk_alloc ?_ _)); refine blk_put (cs := #[.int .i64 t895, .int .i64 t896, .int .i64 t897, .int .i64 t898, .int .i64 t899, .int .i64 t900, .int .i64 t901, .int .i64 0, .int .i64 0]) ?_ 7 _ rfl; (with_reducible repeat (first | refine blk_drewN ?_ _ | refine blk_drew ?_ | refine blk_alloc ?_ _)); refine blk_put (cs := #[.int .i64 t895, .int .i64 t896, .int .i64 t897, .int .i64 t898, .int .i64 t899, .int .i64 t900, .int .i64 0, .int .i64 0, .int .i64 0]) ?_ 6 _ rfl; (with_reducible repeat (first | refine blk_drewN ?_ _ | refine blk_drew ?_ | refine blk_alloc ?_ _)); refine blk_put (cs := #[.int .i64 t895, .int .i64 t896, .int .i64 t897, .int .i64 t898, .int .i64 t899, .int .i64 0, .int .i64 0, .int .i64 0, .int .i64 0]) ?_ 5 _ rfl; (with_reducible repeat (first | refine blk_drewN ?_ _ | refine blk_drew ?_ | refine blk_alloc ?_ _)); refine blk_put (cs := #[.int .i64 t895, .int .i64 t896, .int .i64 t897, .int .i64 t898, .int .i64 0, .int .i64 0, .int .i64 0, .int .i64 0, .int .i64 0]) ?_ 4 _ rfl; (with_reducible repeat (first | refine blk_drewN ?_ _ | refine blk_drew ?_ | refine blk_alloc ?_ _)); refine blk_put (cs := #[.int .i64 t895, .int .i64 t896, .int .i64 t897, .int .i64 0, .int .i64 0, .int .i64 0, .int .i64 0, .int .i64 0, .int .i64 0]) ?_ 3 _ rfl; (with_reducible repeat (first | refine blk_drewN ?_ _ | refine blk_drew ?_ | refine blk_alloc ?_ _)); refine blk_put (cs := #[.int .i64 t895, .int .i64 t896, .int .i64 0, .int .i64 0, .int .i64 0, .int .i64 0, .int .i64 0, .int .i64 0, .int .i64 0]) ?_ 2 _ rfl; (with_reducible repeat (first | refine blk_drewN ?_ _ | refine blk_drew ?_ | refine blk_alloc ?_ _)); refine blk_put (cs := #[.int .i64 t895, .int .i64 0, .int .i64 0, .int .i64 0, .int .i64 0, .int .i64 0, .int .i64 0, .int .i64 0, .int .i64 0]) ?_ 1 _ rfl; (with_reducible repeat (first | refine blk_drewN ?_ _ | refine blk_drew ?_ | refine blk_alloc ?_ _)); refine blk_put (cs := #[.int .i64 0, .int .i64 0, .int .i64 0, .int .i64 0, .int .i64 0, .int .i64 0, .int .i64 0, .int .i64 0, .int .i64 0]) ?_ 0 _ rfl; (with_reducible repeat (first | refine blk_drewN ?_ _ | refine blk_drew ?_ | refine blk_alloc ?_ _)); exact BK890.out) Try.underlying58 rfl (by kernel_rfl)) rfl ?_
  exact ⟨by first | rfl | (simp [errW_none, errW_some] <;> rfl) | (simp [*, errW_none, errW_some] <;> rfl), by repeat (first | (with_reducible first | exact HB.out | apply below_alloc | apply pw_below_drewN | apply below_drew1 | refine below_set ?_ (IsS123.ge HI894.out) | refine below_set ?_ GE890.out) | exact HB.out)⟩

end Go.Proofs.Ythlbcjoogcanmaa.Q
