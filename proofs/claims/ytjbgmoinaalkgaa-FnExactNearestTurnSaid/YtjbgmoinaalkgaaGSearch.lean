/- Contracts by hand for impl.search, impl.found and impl.NearestTurn. -/
import Derived.Test.YtjbgmoinaalkgaaQ0
import Derived.Test.YtjbgmoinaalkgaaQ1
import Derived.Test.YtjbgmoinaalkgaaQ7
import Derived.Test.YtjbgmoinaalkgaaGNear
import Derived.Laws.EntriesVeiled
namespace Go.Proofs.Ytjbgmoinaalkgaa.Q
open Go.RowKit Go.Proofs.YtjbgmoinaalkgaaW.PrintWords Go.Proofs.YtjbgmoinaalkgaaW.PrintLast Go.Proofs.YtjbgmoinaalkgaaW.PrintMore
set_option linter.unusedVariables false
set_option linter.unusedSimpArgs false

/-- The boxes of the search: those that were there, and four new ones. -/
def bxOf (gB gR bp bc bk n : Nat) : Bx := ⟨gB, gR, bp, bc, bk, n + 1, n + 1 + 1, n + 1 + 1 + 1, n + 1 + 1 + 1 + 1⟩
abbrev startW (W : World) (a b c d e : Obj) : World := ((((W.alloc a).alloc b).alloc c).alloc d).alloc e
theorem XS.start {gB gR bp bc bk : Nat} {B R cnt : Int} {before : S27} {wz W : World}
    (hgB : W.heap[gB]? = some (.cells #[.int .i64 B] 2 (0, 0))) (hgR : W.heap[gR]? = some (.cells #[.int .i64 R] 2 (0, 0))) (hbp : W.heap[bp]? = some (.cells #[.int .i64 before.f0, .int .i64 before.f1] 27 (0, 0)))
    (hbc : W.heap[bc]? = some (.cells #[.int .i64 cnt] 2 (0, 0))) (hbk : W.heap[bk]? = some (.cells #[.func (.func 16) #[] #[.pointer (some ⟨gB, 0, none⟩), .pointer (some ⟨gR, 0, none⟩)]] 43 (0, 0))) (hm : Below wz.heap.size wz W) :
    XS (bxOf gB gR bp bc bk W.heap.size) B R cnt before wz (.slice (some ⟨W.heap.size, 0, none⟩) 0 0) ([], 0, false)
      (startW W (.cells #[] 27) (.cells #[.slice (some ⟨W.heap.size, 0, none⟩) 0 0] 24) (.cells #[.int .i64 0] 2) (.cells #[.bool false] 4) (.cells #[.func (.func 28) #[] (bxOf gB gR bp bc bk W.heap.size).caps] 49)) := by
  have old : ∀ {g : Nat} {o : Obj}, W.heap[g]? = some o → (startW W (.cells #[] 27) (.cells #[.slice (some ⟨W.heap.size, 0, none⟩) 0 0] 24) (.cells #[.int .i64 0] 2) (.cells #[.bool false] 4) (.cells #[.func (.func 28) #[] (bxOf gB gR bp bc bk W.heap.size).caps] 49)).heap[g]? = some o :=
    fun h => blk_alloc (blk_alloc (blk_alloc (blk_alloc (blk_alloc h _) _) _) _) _
  have nw : ∀ (V : World) (o : Obj) (k : Nat), V.heap.size = k → (V.alloc o).heap[k]? = some o := fun V o k e => by subst e; exact blk_new V o
  refine ⟨old hgB, old hgR, old hbp, old hbc, old hbk, ?_, ?_, ?_, ?_, ?_, ?_, ?_⟩
  · exact blk_alloc (blk_alloc (blk_alloc (nw _ _ _ (by simp [bxOf])) _) _) _
  · exact blk_alloc (blk_alloc (nw _ _ _ (by simp [bxOf])) _) _
  · exact blk_alloc (nw _ _ _ (by simp [bxOf])) _
  · exact nw _ _ _ (by simp [bxOf])
  · have h0 : Kd.R k27 27 (W.alloc (.cells #[] 27)) wz.heap.size (fun k => ¬ (bxOf gB gR bp bc bk W.heap.size).mut k) (.slice (some ⟨W.heap.size, 0, none⟩) 0 0) [] := by
      refine ⟨fun k hk hmu => ?_, [], ?_, Reps.none _ _⟩
      · have : W.heap.size = k := by simpa [Value.ownBlock] using hk
        unfold Bx.mut bxOf at hmu
        simp only at hmu
        omega
      · exact World.ownsRow_lit (base := wz.heap.size) (e := 27) (size := 2) W #[] 0 hm.size (by decide) rfl
    exact Kd.R_below (Kd.R_below (Kd.R_below (Kd.R_below h0 (below_alloc (Below.refl _ _) _)) (below_alloc (Below.refl _ _) _)) (below_alloc (Below.refl _ _) _)) (below_alloc (Below.refl _ _) _)
  · exact below_alloc (below_alloc (below_alloc (below_alloc (below_alloc hm _) _) _) _) _
  · show wz.heap.size ≤ W.heap.size + 1
    have := hm.size
    omega

def search_T : Bool × List (List Nat × List Nat) := (true, [([], []), ([], []), ([], []), ([0, 0], [0]), ([1, 3, 0, 1, 3], [1]), ([2, 4, 0, 1, 2, 3, 4], [2])])
def search_B : List Nat := [0, 0, 0, 1, 11, 31]
theorem search_tab : rtab .any (opsOf Try.f15 7) = search_T := by kernel_rfl
theorem search_bits : waitsOk search_T.2 search_B = true := by kernel_rfl

set_option maxHeartbeats 16000000 in
set_option maxRecDepth 100000 in
/-- The search, of a ring and a number of rings that are allowed. -/
theorem search_calls (B R : Int) (hB : -100000 ≤ B ∧ B ≤ 100000) (hR : -100000 ≤ R ∧ R ≤ 100000) (cnt : Int) (hcnt4 : 1 ≤ cnt ∧ cnt ≤ 4) (before : S27) (hb : ringB before.f0 before.f1 = true) (gB gR : Nat) (w : World) (hgR : gB < gR)
    (hgb : w.heap[gB]? = some (.cells #[.int .i64 B] 2 (0, 0))) (hgr : w.heap[gR]? = some (.cells #[.int .i64 R] 2 (0, 0))) :
    Calls Try.prog 15 #[.agg #[.int .i64 before.f0, .int .i64 before.f1], .int .i64 cnt, .func (.func 16) #[] #[.pointer (some ⟨gB, 0, none⟩), .pointer (some ⟨gR, 0, none⟩)]] w fun e w' => ∃ v, e = .returned (.tuple #[v, .int .i64 (near B R cnt.toNat before []).2, .bool true]) ∧ Kd.R k27 27 w' w.heap.size (fun _ => True) v (near B R cnt.toNat before []).1 ∧ Below w.heap.size w w' := by
  have hu24 := Try.underlying24
  have hu27 := Try.underlying27
  obtain ⟨p, hp⟩ : ∃ p, p = near B R cnt.toNat before [] := ⟨_, rfl⟩
  rw [← hp]
  obtain ⟨F, hF⟩ : ∃ F : Ending → World → Prop, F = fun e w' => ∃ v, e = .returned (.tuple #[v, .int .i64 p.2, .bool true]) ∧ Kd.R k27 27 w' w.heap.size (fun _ => True) v p.1 ∧ Below w.heap.size w w' := ⟨_, rfl⟩
  rw [← hF]
  have HF := Aside0.mk hF
  have HVR : Aside0 (impl_ValidRing.f before.f0 before.f1 = some true) := ⟨by
    have h1 := ninR (Bool.and_eq_true_iff.1 hb).1
    have h2 := ninR (Bool.and_eq_true_iff.1 hb).2
    unfold impl_ValidRing.f impl_within.f
    rw [if_pos (by omega), decide_eq_true (by omega), Option.bind_some, if_pos rfl, if_pos (by omega), decide_eq_true (by omega)]
    rfl⟩
  have HWI : Aside0 (impl_within.f cnt 1 4 = some true) := ⟨by
    unfold impl_within.f
    rw [if_pos (by omega), decide_eq_true (by omega)]⟩
  have hpe : ext B R cnt.toNat before [] ([], 0, false) = (p.1, p.2, true) := by
    rw [ext_eq B R _ _ _ _ hb, ← hp]
    have h0 : ¬ p.2 < 0 := by
      have := near_nn B R cnt.toNat before [] hb
      rw [← hp] at this
      omega
    unfold mrg
    rw [if_neg h0, if_pos (Or.inl rfl)]
  obtain ⟨p1, p2⟩ := p
  simp only at hpe ⊢
  have HPE := Aside0.mk hpe
  have HBo := Aside0.mk hb
  have HBB := Aside0.mk hB
  have HRR := Aside0.mk hR
  have HC4 := Aside0.mk hcnt4
  have HGB := Aside0.mk hgb
  have HGR := Aside0.mk hgr
  have HLT := Aside0.mk hgR
  obtain ⟨b0, b1⟩ := before
  clear hF hp hpe hb hB hR hcnt4 hgb hgr hgR
  have eg : ∀ args w, (callFunc 28 args).run Try.prog w = .ok (.enter 28 args) w := enters_of Try.func28 (by kernel_rfl) rfl
  have HEX : Aside0 (∀ (w4 : World) (nd bp bc bk : Nat), w4.heap[bp]? = some (.cells #[.int .i64 b0, .int .i64 b1] 27 (0, 0)) → w4.heap[bc]? = some (.cells #[.int .i64 cnt] 2 (0, 0)) →
      w4.heap[bk]? = some (.cells #[.func (.func 16) #[] #[.pointer (some ⟨gB, 0, none⟩), .pointer (some ⟨gR, 0, none⟩)]] 43 (0, 0)) → w4.heap[gB]? = some (.cells #[.int .i64 B] 2 (0, 0)) → w4.heap[gR]? = some (.cells #[.int .i64 R] 2 (0, 0)) → Below w.heap.size w w4 → (gR < bp ∧ bp < bc ∧ bc < bk ∧ bk < w4.heap.size) →
      Calls Try.prog 28 #[.slice none 0 0, .pointer (some ⟨bc, 0, none⟩), .pointer (some ⟨bk, 0, none⟩), .pointer (some ⟨w4.heap.size + 1 + 1 + 1, 0, none⟩), .pointer (some ⟨w4.heap.size + 1 + 1, 0, none⟩), .pointer (some ⟨w4.heap.size + 1, 0, none⟩), .pointer (some ⟨bp, 0, none⟩), .pointer (some ⟨w4.heap.size + 1 + 1 + 1 + 1, 0, none⟩)]
        (startW (w4.drewN nd) (.cells #[] 27) (.cells #[.slice (some ⟨w4.heap.size, 0, none⟩) 0 0] 24) (.cells #[.int .i64 0] 2) (.cells #[.bool false] 4) (.cells #[.func (.func 28) #[] (bxOf gB gR bp bc bk w4.heap.size).caps] 49))
        (fun e w' => e = .returned (.tuple #[]) ∧ ∃ v', XS (bxOf gB gR bp bc bk w4.heap.size) B R cnt ⟨b0, b1⟩ w v' (p1, p2, true) w')) :=
    ⟨fun w4 nd bp bc bk h1 h2 h3 h4 h5 h6 h7 => by
      have hord : (bxOf gB gR bp bc bk w4.heap.size).ord := by
        have := HLT.out
        unfold Bx.ord bxOf
        simp only
        omega
      have hs := XS.start (W := w4.drewN nd) (wz := w) (B := B) (R := R) (cnt := cnt) (before := ⟨b0, b1⟩) h4 h5 h1 h2 h3 (pw_below_drewN h6 nd)
      have := ext_calls (bxOf gB gR bp bc bk w4.heap.size) hord B R HBB.out HRR.out cnt HC4.out ⟨b0, b1⟩ w cnt.toNat ⟨b0, b1⟩ [] none 0 0 _ ([], 0, false) _ HBo.out ⟨by simp, fun z hz => by cases hz⟩ (by have := HC4.out; simp; omega) ⟨fun _ => rfl, fun h => absurd rfl h⟩ (Kd.R_nil _ _ _ _ _) hs
      refine this.mono ?_
      rintro e w' ⟨he, v', hx', hk'⟩
      rw [HPE.out] at hx'
      exact ⟨he, v', hx'⟩⟩
  go_enter Try.func15, Try.ntmps15
  go_wp2_with (first
    | ((with_reducible refine gate_dst (N := 3) rfl ?_); go_loud (refine box_event ?hg (N := 3) ?hd (cs := #[.int .i64 b0, .int .i64 b1]) (t := 27) ?hr ?_; (case hd => rfl); (case hg => rfl); (case hr => first | (go_simp; done) | (go_simp; rfl)); intro bp hbp w1 hbox hbw; have HBP := Aside0.mk hbp; have H1p := Aside0.mk hbox; have HB1 := Aside0.mk hbw; clear hbp hbox hbw))
    | ((with_reducible refine gate_dst (N := 4) rfl ?_); go_loud (refine box_event ?hg (N := 4) ?hd (cs := #[.int .i64 cnt]) (t := 2) ?hr ?_; (case hd => rfl); (case hg => rfl); (case hr => first | (go_simp; done) | (go_simp; rfl)); intro bc hbc w2 hbox hbw; have HBC := Aside0.mk hbc; have H2c := Aside0.mk hbox; have H2p := Aside0.mk (blk_below H1p.out hbw); have HB2 := Aside0.mk (below_step HB1.out hbw); clear hbc hbox hbw))
    | ((with_reducible refine gate_dst (N := 5) rfl ?_); go_loud (refine box_event ?hg (N := 5) ?hd (cs := #[.func (.func 16) #[] #[.pointer (some ⟨gB, 0, none⟩), .pointer (some ⟨gR, 0, none⟩)]]) (t := 43) ?hr ?_; (case hd => rfl); (case hg => rfl); (case hr => first | (go_simp; done) | (go_simp; rfl)); intro bk hbk w3 hbox hbw; have HBK := Aside0.mk hbk; have H3k := Aside0.mk hbox; have H3p := Aside0.mk (blk_below H2p.out hbw); have H3c := Aside0.mk (blk_below H2c.out hbw); have HB3 := Aside0.mk (below_step HB2.out hbw); clear hbk hbox hbw; have hz0 : w3.cell? ⟨bp, 0, none⟩ = some (.int .i64 b0) := (blk_cell H3p.out 0).trans rfl; have hz1 : w3.cell? ⟨bp, 1, none⟩ = some (.int .i64 b1) := (blk_cell H3p.out 1).trans rfl))
    | (go_at_call 27; go_loud (refine (impl_ValidRing.calls b0 b1 true _ HVR.out).mono ?_; rintro e w4 ⟨rfl, hb4⟩; have H4p := Aside0.mk (blk_below H3p.out hb4); have H4c := Aside0.mk (blk_below H3c.out hb4); have H4k := Aside0.mk (blk_below H3k.out hb4); have HB4 := Aside0.mk (below_step HB3.out hb4); clear hb4; have hz2 : w4.cell? ⟨bc, 0, none⟩ = some (.int .i64 cnt) := (blk_cell H4c.out 0).trans rfl))
    | (go_at_call 26; go_loud (refine (impl_within.calls cnt 1 4 true _ HWI.out).mono ?_; rintro e w' ⟨rfl, ⟨nd, rfl⟩⟩))
    | (go_at_fn 28; go_loud (refine (HEX.out w4 nd bp bc bk H4p.out H4c.out H4k.out (blk_below HGB.out HB4.out) (blk_below HGR.out HB4.out) HB4.out (by have := HBP.out; have := HBC.out; have := HBK.out; have := blk_lt HGR.out; have := HB1.out.size; have := HB2.out.size; have := blk_lt H1p.out; have := blk_lt H2c.out; have := blk_lt H3k.out; have := blk_lt H4k.out; omega)).mono ?_; rintro e w6 ⟨rfl, v6, hx6⟩; obtain ⟨A6, c6, e6⟩ := Kd.R_slice hx6.own; subst e6; have HX6 := Aside0.mk hx6; clear hx6)))
  refine start_ (n := 6) (S := fun w' => w'.cell? ⟨w4.heap.size + 1, 0, none⟩ = some (.slice A6 p1.length c6) ∧ w'.cell? ⟨w4.heap.size + 1 + 1, 0, none⟩ = some (.int .i64 p2) ∧ w'.cell? ⟨w4.heap.size + 1 + 1 + 1, 0, none⟩ = some (.bool true)) (ds := []) #[false, false, false, false, false, false] (by kernel_rfl) rfl rfl ⟨(blk_cell (blk_drew HX6.out.bb) 0).trans rfl, (blk_cell (blk_drew HX6.out.bl) 0).trans rfl, (blk_cell (blk_drew HX6.out.bf) 0).trans rfl⟩ (fun hHeld => ?_)
  refine with_tabW search_tab search_bits (fun HT_ HW_ => ?_)
  refine take_ (i := 0) (N := some 25) (v := ?_) (a' := ?_) #[true, false, false, false, false, false] rfl rfl (take_ofW HT_.out HW_.out (by kernel_rfl)) (fun _ _ _ h => h) (Or.inl ⟨by rfl, ?_⟩) hHeld ?_ ?_
  rotate_left
  · rintro w' ⟨s0, s1, s2⟩
    go_simp
    with_reducible rfl
  rotate_left
  · simp only [Act.put, List.setIfInBounds_toArray, List.set_cons_zero, List.set_cons_succ, i64_w, i32_w]
    rfl
  refine take_ (i := 1) (N := some 26) (v := ?_) (a' := ?_) #[true, true, false, false, false, false] rfl rfl (take_ofW HT_.out HW_.out (by kernel_rfl)) (fun _ _ _ h => h) (Or.inl ⟨by rfl, ?_⟩) hHeld ?_ ?_
  rotate_left
  · rintro w' ⟨s0, s1, s2⟩
    go_simp
    with_reducible rfl
  rotate_left
  · simp only [Act.put, List.setIfInBounds_toArray, List.set_cons_zero, List.set_cons_succ, i64_w, i32_w]
    rfl
  refine take_ (i := 2) (N := some 27) (v := ?_) (a' := ?_) #[true, true, true, false, false, false] rfl rfl (take_ofW HT_.out HW_.out (by kernel_rfl)) (fun _ _ _ h => h) (Or.inl ⟨by rfl, ?_⟩) hHeld ?_ ?_
  rotate_left
  · rintro w' ⟨s0, s1, s2⟩
    go_simp
    with_reducible rfl
  rotate_left
  · simp only [Act.put, List.setIfInBounds_toArray, List.set_cons_zero, List.set_cons_succ, i64_w, i32_w]
    rfl
  refine pure_ (i := 3) (N := some 6) (v := ?_) (a' := ?_) #[true, true, true, true, false, false] rfl rfl (any_of HT_.out (by kernel_rfl)) (fun _ _ _ h => h) (Or.inl ⟨by rfl, ?_⟩) ?_ ?_
  rotate_left
  · intro w'
    go_simp
    with_reducible rfl
  rotate_left
  · simp only [Act.put, List.setIfInBounds_toArray, List.set_cons_zero, List.set_cons_succ, i64_w, i32_w]
    rfl
  refine pure_ (i := 4) (N := some 7) (v := ?_) (a' := ?_) #[true, true, true, true, true, false] rfl rfl (any_of HT_.out (by kernel_rfl)) (fun _ _ _ h => h) (Or.inl ⟨by rfl, ?_⟩) ?_ ?_
  rotate_left
  · intro w'
    go_simp
    with_reducible rfl
  rotate_left
  · simp only [Act.put, List.setIfInBounds_toArray, List.set_cons_zero, List.set_cons_succ, i64_w, i32_w]
    rfl
  refine pure_ (i := 5) (N := some 8) (v := ?_) (a' := ?_) #[true, true, true, true, true, true] rfl rfl (any_of HT_.out (by kernel_rfl)) (fun _ _ _ h => h) (Or.inl ⟨by rfl, ?_⟩) ?_ ?_
  rotate_left
  · intro w'
    go_simp
    with_reducible rfl
  rotate_left
  · simp only [Act.put, List.setIfInBounds_toArray, List.set_cons_zero, List.set_cons_succ, i64_w, i32_w]
    rfl
  refine done_ (done_of HT_.out (by kernel_rfl)) ?_
  go_wp2
  go_ret3
  rw [HF.out]
  exact ⟨_, rfl, Kd.R_below (Kd.R_mono HX6.out.own (fun _ _ => trivial)) (below_drew (Below.refl _ _)), below_drew1 HX6.out.made⟩

theorem found_calls (v : Value) (c : Int) (b : Bool) (w : World) : Calls Try.prog 14 #[v, .int .i64 c, .bool b] w fun e w' => e = .returned (if b = true then .tuple #[v, .int .i64 c, .bool true] else .tuple #[.slice none 0 0, .int .i64 0, .bool false]) ∧ w' = w := by
  cases b
  · go_enter Try.func14, Try.ntmps14
    go_wp2
    go_ret3
    exact ⟨rfl, rfl⟩
  · go_enter Try.func14, Try.ntmps14
    go_wp2
    go_ret3
    exact ⟨rfl, rfl⟩

end Go.Proofs.Ytjbgmoinaalkgaa.Q
