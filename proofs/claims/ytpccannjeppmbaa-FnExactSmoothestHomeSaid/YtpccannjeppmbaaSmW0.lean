/- impl.smooth where no ring is left: home or no plan. -/
import Derived.Test.YtpccannjeppmbaaSmQ
namespace Go.Proofs.Ytpccannjeppmbaa.Q
open Go.RowKit Go.Maps Go.Proofs.YtpccannjeppmbaaW.PrintWords Go.Proofs.YtpccannjeppmbaaW.PrintLast Go.Proofs.YtpccannjeppmbaaW.PrintMore
set_option linter.unusedVariables false
set_option linter.unusedSimpArgs false

theorem eql31 (c0 c1 c2 : Int) (W : World) : (binOp .eql 31 (.agg #[.int .i64 c0, .int .i64 c1, .int .i64 c2]) (.agg #[.int .i64 0, .int .i64 0, .int .i64 0])).run Try.prog W = .ok (.bool (decide ((⟨c0, c1, c2⟩ : S31) = home))) W := by
  have hu31 := Try.underlying31
  have hu2 := Try.underlying2
  by_cases h0 : c0 = 0
  · by_cases h1 : c1 = 0
    · by_cases h2 : c2 = 0
      · subst h0 h1 h2
        rw [decide_eq_true (show (⟨0, 0, 0⟩ : S31) = home from rfl)]
        go_simp
      · rw [decide_eq_false (fun e => h2 (congrArg S31.f2 e))]
        subst h0 h1
        go_simp
    · rw [decide_eq_false (fun e => h1 (congrArg S31.f1 e))]
      subst h0
      go_simp
  · rw [decide_eq_false (fun e => h0 (congrArg S31.f0 e))]
    go_simp

theorem size44 : (Try.prog.info? 44).map (·.size) = some 3 := by kernel_rfl
/-- The answer of impl.smooth is the cell of its result. -/
theorem ret8 {R : Ending → World → Prop} {a : Act} {W : World} {g : Nat} {cs : Array Value} (hg : W.heap[g]? = some (.cells cs 44 (0, 0))) (ha : a.tmps.getD 8 undef = .pointer (some ⟨g, 0, none⟩)) (hd : a.defers = []) (hn : cs.size = 3)
    (h : R (.returned (.agg cs)) W) : bodyPost Try.prog Try.f18 R Exit.ret a W :=
  bodyPost_ret (results_cell_row (P := Try.prog) (p := 8) (ty := 44) rfl a.tmps W g 44 cs (0, 0) _ ha hg Try.underlying44 rfl (by rw [size44, hn])) hd h

set_option maxHeartbeats 8000000 in
set_option maxRecDepth 100000 in
theorem smooth0 (a b : Int) (c : S31) (gm : Nat) (w : World) :
    Calls Try.prog 18 #[.agg #[.int .i64 a, .int .i64 b], .agg #[.int .i64 c.f0, .int .i64 c.f1, .int .i64 c.f2], .int .i64 0, .map (some gm)] w (fun e w' => e = .returned (.agg #[.int .i64 0, .slice none 0 0, .bool (decide (c = home))]) ∧ Below w.heap.size w w') := by
  have hu29 := Try.underlying29
  have hu31 := Try.underlying31
  have hu44 := Try.underlying44
  have hu26 := Try.underlying26
  obtain ⟨c0, c1, c2⟩ := c
  obtain ⟨r, hr⟩ : ∃ r, r = decide ((⟨c0, c1, c2⟩ : S31) = home) := ⟨_, rfl⟩
  rw [← hr]
  have hq := eql31 c0 c1 c2
  rw [← hr] at hq
  clear hr
  go_enter Try.func18, Try.ntmps18
  go_wp2_with (first
    | ((with_reducible refine gate_dst (N := 4) rfl ?_); go_loud (refine box_event ?hg (N := 4) ?hd (cs := #[.int .i64 a, .int .i64 b]) (t := 29) ?hr ?_; (case hd => rfl); (case hg => rfl); (case hr => first | (go_simp; done) | (go_simp; rfl)); intro gl hgl w1 hbox hbw; have HL1 := Aside0.mk hbox; have HB1 := Aside0.mk hbw; clear hgl hbox hbw))
    | ((with_reducible refine gate_dst (N := 5) rfl ?_); go_loud (refine box_event ?hg (N := 5) ?hd (cs := #[.int .i64 c0, .int .i64 c1, .int .i64 c2]) (t := 31) ?hr ?_; (case hd => rfl); (case hg => rfl); (case hr => first | (go_simp; done) | (go_simp; rfl)); intro gc hgc w2 hbox hbw; have HC2 := Aside0.mk hbox; have HB2 := Aside0.mk (below_step HB1.out hbw); clear hgc hbox hbw))
    | ((with_reducible refine gate_dst (N := 8) rfl ?_); go_loud (refine box_event ?hg (N := 8) ?hd (cs := #[.int .i64 0, .slice none 0 0, .bool false]) (t := 44) ?hr ?_; (case hd => rfl); (case hg => rfl); (case hr => first | (go_simp; done) | (go_simp; rfl)); intro g8 hg8 w3 hbox hbw; have HG : Aside0 (w.heap.size ≤ g8) := ⟨by rw [hg8]; exact HB2.out.size⟩; have H83 := Aside0.mk hbox; have HC3 := Aside0.mk (blk_below HC2.out hbw); have HB3 := Aside0.mk (below_step HB2.out hbw); clear hg8 hbox hbw; have hc0 : w3.cell? ⟨gc, 0, none⟩ = some (.int .i64 c0) := (blk_cell HC3.out 0).trans rfl; have hc1 : w3.cell? ⟨gc, 1, none⟩ = some (.int .i64 c1) := (blk_cell HC3.out 1).trans rfl; have hc2 : w3.cell? ⟨gc, 2, none⟩ = some (.int .i64 c2) := (blk_cell HC3.out 2).trans rfl; have h80 : w3.cell? ⟨g8, 0, none⟩ = some (.int .i64 0) := (blk_cell H83.out 0).trans rfl; have h81 : w3.cell? ⟨g8, 1, none⟩ = some (.slice none 0 0) := (blk_cell H83.out 1).trans rfl; have h82 : w3.cell? ⟨g8, 2, none⟩ = some (.bool false) := (blk_cell H83.out 2).trans rfl; have hf0 := blk_frozen H83.out 0; have hf1 := blk_frozen H83.out 1; have hf2 := blk_frozen H83.out 2)))
  have H84 := blk_put (cs' := #[.int .i64 0, .slice none 0 0, .bool r]) (blk_put (blk_put H83.out 0 (.int .i64 0) rfl) 1 (.slice none 0 0) rfl) 2 (.bool r) rfl
  refine ret8 H84 rfl rfl rfl ?_
  exact ⟨rfl, below_set (below_set (below_set HB3.out HG.out) HG.out) HG.out⟩

end Go.Proofs.Ytpccannjeppmbaa.Q
