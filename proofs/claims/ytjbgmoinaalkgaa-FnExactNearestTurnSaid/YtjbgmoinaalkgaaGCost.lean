/- A contract by hand for the closure of impl.NearestTurn: how far a tube's turn is from the wanted one. -/
import Derived.Test.YtjbgmoinaalkgaaQ0
import Derived.Test.YtjbgmoinaalkgaaQ5
import Derived.Test.YtjbgmoinaalkgaaQ6
import Derived.Test.YtjbgmoinaalkgaaGClone
namespace Go.Proofs.Ytjbgmoinaalkgaa.Q
open Go.RowKit Go.Proofs.YtjbgmoinaalkgaaW.PrintWords Go.Proofs.YtjbgmoinaalkgaaW.PrintLast Go.Proofs.YtjbgmoinaalkgaaW.PrintMore
set_option linter.unusedVariables false
set_option linter.unusedSimpArgs false

def iab (x : Int) : Int := mx x (-x)
theorem iab_eq {x : Int} (h : -9223372036854775807 ≤ x ∧ x ≤ 9223372036854775807) : impl_abs.f x = some (iab x) := by
  unfold impl_abs.f iab
  rw [show wrap64 (-x) = -x from by unfold wrap64; omega]
theorem iab_le {x m : Int} (h : -m ≤ x ∧ x ≤ m) : 0 ≤ iab x ∧ iab x ≤ m := by
  unfold iab mx; split <;> omega

def cost_T : Bool × List (List Nat × List Nat) := (true,
  [([], []), ([], []), ([0, 1], [0, 1]), ([2], [2]), ([], []), ([], []), ([4, 5], [4, 5]), ([6, 3], [6]),
    ([3, 7], [3, 7]), ([8, 7, 0, 1, 2, 3, 4, 5, 6, 7, 8], [8]), ([9, 0, 1, 2, 3, 4, 5, 6, 7, 8, 9], [])])
def cost_B : List Nat := [0, 0, 3, 7, 0, 0, 48, 127, 255, 511, 1023]
theorem cost_tab : rtab .any (opsOf Try.f16 2) = cost_T := by kernel_rfl
theorem cost_bits : waitsOk cost_T.2 cost_B = true := by kernel_rfl

set_option maxHeartbeats 4000000 in
set_option maxRecDepth 100000 in
theorem cost_calls (k : Nat) (A0 : Option Addr) (c0 : Nat) (l0 : List S27) (gb gr : Nat) (B R b h : Int) (w : World) (hr0 : Kd.C k27 w A0 l0.length l0) (hc0 : l0.length ≤ c0)
    (hgb : w.heap[gb]? = some (.cells #[.int .i64 B] 2 (0, 0))) (hgr : w.heap[gr]? = some (.cells #[.int .i64 R] 2 (0, 0))) (ht : impl_totalTurn.f k l0 = some (b, h))
    (hB : -100000 ≤ B ∧ B ≤ 100000) (hR : -100000 ≤ R ∧ R ≤ 100000) (hb : -1000 ≤ b ∧ b ≤ 1000) (hh : -1000 ≤ h ∧ h ≤ 1000) :
    Calls Try.prog 16 #[.slice A0 l0.length c0, .pointer (some ⟨gb, 0, none⟩), .pointer (some ⟨gr, 0, none⟩)] w fun e w' => e = .returned (.tuple #[.int .i64 (iab (B - b) + iab (R - h)), .bool true]) ∧ Below w.heap.size w w' := by
  have HR0 := Aside0.mk hr0
  have HC0 := Aside0.mk hc0
  have HGB := Aside0.mk hgb
  have HGR := Aside0.mk hgr
  have HT := Aside0.mk ht
  have l1 := iab_le (x := B - b) (m := 200000) (by omega)
  have l2 := iab_le (x := R - h) (m := 200000) (by omega)
  have w1_ : wrap64 (B - b) = B - b := by unfold wrap64; omega
  have w2_ : wrap64 (R - h) = R - h := by unfold wrap64; omega
  have w3_ : wrap64 (iab (B - b) + iab (R - h)) = iab (B - b) + iab (R - h) := by unfold wrap64; omega
  have HAB : Aside0 (impl_abs.f (wrap64 (B - b)) = some (iab (B - b))) := ⟨by rw [w1_]; exact iab_eq (by omega)⟩
  have HAR : Aside0 (impl_abs.f (wrap64 (R - h)) = some (iab (R - h))) := ⟨by rw [w2_]; exact iab_eq (by omega)⟩
  clear w1_ w2_ hr0 hc0 hgb hgr ht hB hR hb hh l1 l2
  go_enter Try.func16, Try.ntmps16
  go_wp2_with (go_at_call 17; go_loud (refine (impl_totalTurn.calls k A0 c0 l0 b h _ HR0.out HC0.out HT.out).mono ?_; rintro e w1 ⟨rfl, hb1⟩; have HB2 := Aside0.mk (blk_drew (blk_below HGB.out hb1)); have HR2 := Aside0.mk (blk_drew (blk_below HGR.out hb1)); have HL2 := Aside0.mk (below_drew1 hb1); clear hb1))
  refine start_ (n := 11) (S := fun w' => w'.cell? ⟨gb, 0, none⟩ = some (.int .i64 B) ∧ w'.cell? ⟨gr, 0, none⟩ = some (.int .i64 R)) (ds := []) #[false, false, false, false, false, false, false, false, false, false, false] (by kernel_rfl) rfl rfl ⟨(blk_cell HB2.out 0).trans rfl, (blk_cell HR2.out 0).trans rfl⟩ (fun hHeld => ?_)
  refine with_tabW cost_tab cost_bits (fun HT_ HW_ => ?_)
  generalize w1.drew = w2 at HB2 HR2 HL2 hHeld ⊢
  refine take_ (i := 0) (N := some 13) (v := ?_) (a' := ?_) #[true, false, false, false, false, false, false, false, false, false, false] rfl rfl (take_ofW HT_.out HW_.out (by kernel_rfl)) (fun _ _ _ h => h) (Or.inl ⟨by rfl, ?_⟩) hHeld ?_ ?_
  rotate_left
  · rintro w' ⟨s0, s1⟩
    go_simp
    with_reducible rfl
  rotate_left
  · simp only [Act.put, List.setIfInBounds_toArray, List.set_cons_zero, List.set_cons_succ, i64_w, i32_w]
    rfl
  refine take_ (i := 4) (N := some 17) (v := ?_) (a' := ?_) #[true, false, false, false, true, false, false, false, false, false, false] rfl rfl (take_ofW HT_.out HW_.out (by kernel_rfl)) (fun _ _ _ h => h) (Or.inl ⟨by rfl, ?_⟩) hHeld ?_ ?_
  rotate_left
  · rintro w' ⟨s0, s1⟩
    go_simp
    with_reducible rfl
  rotate_left
  · simp only [Act.put, List.setIfInBounds_toArray, List.set_cons_zero, List.set_cons_succ, i64_w, i32_w]
    rfl
  refine pure_ (i := 1) (N := some 14) (v := ?_) (a' := ?_) #[true, true, false, false, true, false, false, false, false, false, false] rfl rfl (any_of HT_.out (by kernel_rfl)) (fun _ _ _ h => h) (Or.inl ⟨by rfl, ?_⟩) ?_ ?_
  rotate_left
  · intro w'
    go_simp
    with_reducible rfl
  rotate_left
  · simp only [Act.put, List.setIfInBounds_toArray, List.set_cons_zero, List.set_cons_succ, i64_w, i32_w]
    rfl
  refine pure_ (i := 2) (N := some 15) (v := ?_) (a' := ?_) #[true, true, true, false, true, false, false, false, false, false, false] rfl rfl (any_of HT_.out (by kernel_rfl)) (fun _ _ _ h => h) (Or.inl ⟨by rfl, ?_⟩) ?_ ?_
  rotate_left
  · intro w'
    go_simp
    with_reducible rfl
  rotate_left
  · simp only [Act.put, List.setIfInBounds_toArray, List.set_cons_zero, List.set_cons_succ, i64_w, i32_w]
    rfl
  refine pure_ (i := 5) (N := some 18) (v := ?_) (a' := ?_) #[true, true, true, false, true, true, false, false, false, false, false] rfl rfl (any_of HT_.out (by kernel_rfl)) (fun _ _ _ h => h) (Or.inl ⟨by rfl, ?_⟩) ?_ ?_
  rotate_left
  · intro w'
    go_simp
    with_reducible rfl
  rotate_left
  · simp only [Act.put, List.setIfInBounds_toArray, List.set_cons_zero, List.set_cons_succ, i64_w, i32_w]
    rfl
  refine pure_ (i := 6) (N := some 19) (v := ?_) (a' := ?_) #[true, true, true, false, true, true, true, false, false, false, false] rfl rfl (any_of HT_.out (by kernel_rfl)) (fun _ _ _ h => h) (Or.inl ⟨by rfl, ?_⟩) ?_ ?_
  rotate_left
  · intro w'
    go_simp
    with_reducible rfl
  rotate_left
  · simp only [Act.put, List.setIfInBounds_toArray, List.set_cons_zero, List.set_cons_succ, i64_w, i32_w]
    rfl
  refine one_ (i := 3) (N := some 16) #[true, true, true, true, true, true, true, false, false, false, false] rfl rfl (one_of HT_.out (by kernel_rfl)) (by decide) (fun K hK => ?_)
  refine goes_ Try.func18 (by kernel_rfl) rfl #[.int .i64 (wrap64 (B - b))] (by rfl) rfl rfl (by (try simp only [List.map_toArray, List.map_cons, List.map_nil]); first | done | rfl | (simp only [List.length_drop, List.length_take]; rfl)) ?_
  refine (impl_abs.calls (wrap64 (B - b)) (iab (B - b)) _ HAB.out).mono ?_
  rintro e w3 ⟨rfl, hb3⟩
  refine ⟨_, rfl, ?_⟩
  have HB3 := Aside0.mk (blk_below HB2.out hb3)
  have HR3 := Aside0.mk (blk_below HR2.out hb3)
  have HL3 := Aside0.mk (below_step HL2.out hb3)
  clear hb3
  refine hK.out _ _ ⟨(blk_cell HB3.out 0).trans rfl, (blk_cell HR3.out 0).trans rfl⟩ (fun hHeld => ?_)
  clear hK K
  refine norm_ (a' := ?_) ?_ ?_
  rotate_left
  · show Act.put _ (some 16) _ = _
    simp only [Act.put, List.setIfInBounds_toArray, List.set_cons_zero, List.set_cons_succ, i64_w, i32_w]
    rfl
  refine one_ (i := 7) (N := some 20) #[true, true, true, true, true, true, true, true, false, false, false] rfl rfl (one_of HT_.out (by kernel_rfl)) (by decide) (fun K hK => ?_)
  refine goes_ Try.func18 (by kernel_rfl) rfl #[.int .i64 (wrap64 (R - h))] (by rfl) rfl rfl (by (try simp only [List.map_toArray, List.map_cons, List.map_nil]); first | done | rfl | (simp only [List.length_drop, List.length_take]; rfl)) ?_
  refine (impl_abs.calls (wrap64 (R - h)) (iab (R - h)) _ HAR.out).mono ?_
  rintro e w4 ⟨rfl, hb4⟩
  refine ⟨_, rfl, ?_⟩
  have HB4 := Aside0.mk (blk_below HB3.out hb4)
  have HR4 := Aside0.mk (blk_below HR3.out hb4)
  have HL4 := Aside0.mk (below_step HL3.out hb4)
  clear hb4
  refine hK.out _ _ ⟨(blk_cell HB4.out 0).trans rfl, (blk_cell HR4.out 0).trans rfl⟩ (fun hHeld => ?_)
  clear hK K
  refine norm_ (a' := ?_) ?_ ?_
  rotate_left
  · show Act.put _ (some 20) _ = _
    simp only [Act.put, List.setIfInBounds_toArray, List.set_cons_zero, List.set_cons_succ, i64_w, i32_w]
    rfl
  refine pure_ (i := 8) (N := some 21) (v := ?_) (a' := ?_) #[true, true, true, true, true, true, true, true, true, false, false] rfl rfl (any_of HT_.out (by kernel_rfl)) (fun _ _ _ h => h) (Or.inl ⟨by rfl, ?_⟩) ?_ ?_
  rotate_left
  · intro w'
    go_simp
    with_reducible rfl
  rotate_left
  · simp only [Act.put, List.setIfInBounds_toArray, List.set_cons_zero, List.set_cons_succ, i64_w, i32_w]
    rfl
  refine pure_ (i := 9) (N := some 4) (v := ?_) (a' := ?_) #[true, true, true, true, true, true, true, true, true, true, false] rfl rfl (any_of HT_.out (by kernel_rfl)) (fun _ _ _ h => h) (Or.inl ⟨by rfl, ?_⟩) ?_ ?_
  rotate_left
  · intro w'
    go_simp
    with_reducible rfl
  rotate_left
  · simp only [Act.put, List.setIfInBounds_toArray, List.set_cons_zero, List.set_cons_succ, i64_w, i32_w]
    rfl
  refine pure_ (i := 10) (N := some 5) (v := ?_) (a' := ?_) #[true, true, true, true, true, true, true, true, true, true, true] rfl rfl (any_of HT_.out (by kernel_rfl)) (fun _ _ _ h => h) (Or.inl ⟨by rfl, ?_⟩) ?_ ?_
  rotate_left
  · intro w'
    go_simp
    with_reducible rfl
  rotate_left
  · simp only [Act.put, List.setIfInBounds_toArray, List.set_cons_zero, List.set_cons_succ, i64_w, i32_w]
    rfl
  refine done_ (done_of HT_.out (by kernel_rfl)) ?_
  go_wp2
  go_ret2
  exact ⟨by rw [w3_]; rfl, HL4.out⟩

end Go.Proofs.Ytjbgmoinaalkgaa.Q
