/- impl.smooth where the table knows the plan. -/
import Derived.Test.YtpccannjeppmbaaSmW0
namespace Go.Proofs.Ytpccannjeppmbaa.Q
open Go.RowKit Go.Maps Go.Proofs.YtpccannjeppmbaaW.PrintWords Go.Proofs.YtpccannjeppmbaaW.PrintLast Go.Proofs.YtpccannjeppmbaaW.PrintMore
set_option linter.unusedVariables false
set_option linter.unusedSimpArgs false

set_option maxHeartbeats 8000000 in
set_option maxRecDepth 100000 in
theorem smooth_hit (a b : Int) (ha : 1 ≤ a ∧ a ≤ 3) (k : Int) (hk : 1 ≤ k ∧ k ≤ 8) (c : S31) (hc : insS a c = true) (B gm n : Nat) (w : World) (G : S31 → Option Nat) (H : S31 → Int → Option Value) (hm : Memo a b B gm n G H w)
    (g : Nat) (hG : G c = some g) (s : Int) (A : Option Addr) (m cp : Nat) (ok : Bool) (hv : H c k = some (.agg #[.int .i64 s, .slice A m cp, .bool ok])) :
    Calls Try.prog 18 #[.agg #[.int .i64 a, .int .i64 b], .agg #[.int .i64 c.f0, .int .i64 c.f1, .int .i64 c.f2], .int .i64 k, .map (some gm)] w (fun e w' => e = .returned (.agg #[.int .i64 s, .slice A m cp, .bool ok]) ∧ Below w.heap.size w w') := by
  have hu29 := Try.underlying29
  have hu31 := Try.underlying31
  have hu44 := Try.underlying44
  have hu26 := Try.underlying26
  have hu46 := Try.underlying46
  have hu52 := Try.underlying52
  obtain ⟨kc, hkc⟩ := keyC c (wf64 (by have := insS_iff.1 hc; omega)) (wf64 (by have := insS_iff.1 hc; omega)) (wf64 (by have := insS_iff.1 hc; omega))
  obtain ⟨kk, hkk⟩ := keyI k (wf64 (by omega))
  have HKC := Aside0.mk hkc
  have HKK := Aside0.mk hkk
  have HM := Aside0.mk hm
  have HGc := Aside0.mk hG
  have HV := Aside0.mk hv
  have hk0 : (k == 0) = false := beq_eq_false_iff_ne.2 (by omega)
  obtain ⟨c0, c1, c2⟩ := c
  clear hkc hkk hm hG hv ha hk hc
  go_enter Try.func18, Try.ntmps18
  go_wp2_with (first
    | ((with_reducible refine gate_dst (N := 4) rfl ?_); go_loud (refine box_event ?hg (N := 4) ?hd (cs := #[.int .i64 a, .int .i64 b]) (t := 29) ?hr ?_; (case hd => rfl); (case hg => rfl); (case hr => first | (go_simp; done) | (go_simp; rfl)); intro gl hgl w1 hbox hbw; have HL1 := Aside0.mk hbox; have HB1 := Aside0.mk hbw; clear hgl hbox hbw))
    | ((with_reducible refine gate_dst (N := 5) rfl ?_); go_loud (refine box_event ?hg (N := 5) ?hd (cs := #[.int .i64 c0, .int .i64 c1, .int .i64 c2]) (t := 31) ?hr ?_; (case hd => rfl); (case hg => rfl); (case hr => first | (go_simp; done) | (go_simp; rfl)); intro gc hgc w2 hbox hbw; have HC2 := Aside0.mk hbox; have HB2 := Aside0.mk (below_step HB1.out hbw); clear hgc hbox hbw))
    | ((with_reducible refine gate_dst (N := 8) rfl ?_); go_loud (refine box_event ?hg (N := 8) ?hd (cs := #[.int .i64 0, .slice none 0 0, .bool false]) (t := 44) ?hr ?_; (case hd => rfl); (case hg => rfl); (case hr => first | (go_simp; done) | (go_simp; rfl)); intro g8 hg8 w3 hbox hbw; have HG : Aside0 (w.heap.size ≤ g8) := ⟨by rw [hg8]; exact HB2.out.size⟩; have H83 := Aside0.mk hbox; have HC3 := Aside0.mk (blk_below HC2.out hbw); have HB3 := Aside0.mk (below_step HB2.out hbw); clear hg8 hbox hbw; have hc0 : w3.cell? ⟨gc, 0, none⟩ = some (.int .i64 c0) := (blk_cell HC3.out 0).trans rfl; have hc1 : w3.cell? ⟨gc, 1, none⟩ = some (.int .i64 c1) := (blk_cell HC3.out 1).trans rfl; have hc2 : w3.cell? ⟨gc, 2, none⟩ = some (.int .i64 c2) := (blk_cell HC3.out 2).trans rfl))
    | ((with_reducible refine gate_dst (N := 27) rfl ?_); go_loud (refine wpList_look (x := (⟨c0, c1, c2⟩ : S31)) false rfl _ _ rfl keyedC hu46 (by rfl) rfl (HM.out.below HB3.out).map rfl HKC.out ?_; rw [HGc.out]; simp only [Option.map, Option.getD]))
    | ((with_reducible refine gate_dst (N := 29) rfl ?_); go_loud (refine wpList_look (x := k) true rfl _ _ rfl keyedI hu52 (by rfl) rfl ((HM.out.below HB3.out).inn _ _ HGc.out).2 rfl HKK.out ?_; rw [HV.out]; simp only [Option.getD, Option.isSome, if_true]))
    | ((with_reducible refine gate_dst (N := 33) rfl ?_); (with_reducible refine gen_alloc ?_); go_loud (intro w4 hbox hbw; have H94 := Aside0.mk hbox; have H84 := Aside0.mk (blk_below H83.out hbw); have HB4 := Aside0.mk (below_step HB3.out hbw); clear hbox hbw; have h90 : w4.cell? ⟨w3.heap.size, 0, none⟩ = some (.int .i64 s) := (blk_cell H94.out 0).trans rfl; have h91 : w4.cell? ⟨w3.heap.size, 1, none⟩ = some (.slice A m cp) := (blk_cell H94.out 1).trans rfl; have h92 : w4.cell? ⟨w3.heap.size, 2, none⟩ = some (.bool ok) := (blk_cell H94.out 2).trans rfl; have h80 : w4.cell? ⟨g8, 0, none⟩ = some (.int .i64 0) := (blk_cell H84.out 0).trans rfl; have h81 : w4.cell? ⟨g8, 1, none⟩ = some (.slice none 0 0) := (blk_cell H84.out 1).trans rfl; have h82 : w4.cell? ⟨g8, 2, none⟩ = some (.bool false) := (blk_cell H84.out 2).trans rfl; have hf0 := blk_frozen H84.out 0; have hf1 := blk_frozen H84.out 1; have hf2 := blk_frozen H84.out 2)))
  have H85 := blk_put (cs' := #[.int .i64 s, .slice A m cp, .bool ok]) (blk_put (blk_put H84.out 0 (.int .i64 s) rfl) 1 (.slice A m cp) rfl) 2 (.bool ok) rfl
  refine ret8 H85 rfl rfl rfl ?_
  exact ⟨rfl, below_set (below_set (below_set HB4.out HG.out) HG.out) HG.out⟩

end Go.Proofs.Ytpccannjeppmbaa.Q
