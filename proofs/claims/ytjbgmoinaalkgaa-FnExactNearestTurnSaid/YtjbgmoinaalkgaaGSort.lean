/- A contract by hand for the library's sort of at most twelve whole numbers: it is the insertion sort, whose printed contract stands in Q. -/
import Derived.Test.YtjbgmoinaalkgaaQ0
import Derived.Test.YtjbgmoinaalkgaaQ3
import Derived.Test.YtjbgmoinaalkgaaGLen
namespace Go.Proofs.Ytjbgmoinaalkgaa.Q
open Go.RowKit Go.Proofs.YtjbgmoinaalkgaaW.PrintWords Go.Proofs.YtjbgmoinaalkgaaW.PrintLast Go.Proofs.YtjbgmoinaalkgaaW.PrintMore
set_option linter.unusedVariables false
set_option linter.unusedSimpArgs false

theorem len_calls (x : Int) (w : World) (h0 : 0 ≤ x) (h1 : x ≤ 18446744073709551615) :
    Calls Try.prog 41 #[.int .u64 x] w fun e w' => e = .returned (.int .i64 (Lib.bitLen x.toNat)) ∧ w' = w := Go.Proofs.Any.bits_Len Try.lays125 x w h0 h1

set_option maxHeartbeats 4000000 in
set_option maxRecDepth 100000 in
theorem pdq_calls (k : Nat) (P0_ : Nat → Prop) (u9000_ : Value) (l0 : List Int) (lim : Int) (r : List Int) (w0 w : World) (hB : Below w0.heap.size w0 w) (ho0 : Kd.R (Kd.int .i64) 2 w w0.heap.size P0_ u9000_ l0) (hl : l0.length ≤ 12) (h : slices_insertionSortOrdered_int64.f k l0 0 (l0.length : Int) = some r) :
    Calls Try.prog 40 #[u9000_, .int .i64 0, .int .i64 (l0.length : Int), .int .i64 lim] w fun e w' => e = .returned (.tuple #[]) ∧ Kd.R (Kd.int .i64) 2 w' w0.heap.size (fun k_ => (P0_ k_ ∨ w.heap.size ≤ k_)) u9000_ r ∧ Below w0.heap.size w0 w' ∧ Kept w w' (fun k_ => P0_ k_) := by
  have HB := Aside0.mk hB
  have HO := Aside0.mk ho0
  have HH := Aside0.mk h
  clear hB ho0 h
  go_enter Try.func40, Try.ntmps40
  go_wp2
  go_loopg [1, 2] 1 (fun gg v1 v2 w' => v1 = .int .i64 0 ∧ v2 = .int .i64 (l0.length : Int) ∧ Drawn0 w w')
  case atStart => exact ⟨rfl, rfl, by repeat (first | exact Drawn0.refl _ | apply Drawn0.step)⟩
  case round =>
    obtain ⟨rfl, rfl, ⟨m1, rfl⟩⟩ := hrel
    have hw : IntKind.i64.wrap ((l0.length : Int) - 0) = (l0.length : Int) := by rw [i64_w]; unfold wrap64; omega
    have hle : decide ((l0.length : Int) ≤ 12) = true := decide_eq_true (by omega)
    go_wp2_with (go_at_call 42; refine (slices_insertionSortOrdered_int64.calls k P0_ u9000_ l0 0 (l0.length : Int) r w0 _ ?hB ?ho HH.out).mono ?_; (case hB => repeat (first | exact HB.out | apply pw_below_drewN | apply below_drew1)); (case ho => repeat (first | exact HO.out | apply Kd.R_drewN | apply Kd.R_drew)); rintro e w' ⟨rfl, hr, hb, hk⟩)
    first | go_end0 | ((try simp only [Exit.inBlock, Exit.then]); refine bodyPost_ret (results_none rfl _ _ _) rfl ?_)
    exact ⟨rfl, hr, hb, hk⟩

def slices_Sort_int64_int64.f (k : Nat) (l0 : List Int) : Option (List Int) := if l0.length ≤ 12 then slices_insertionSortOrdered_int64.f k l0 0 (l0.length : Int) else none
theorem slices_Sort_int64_int64.mono : ∀ a0 k, LeO (slices_Sort_int64_int64.f k a0) (slices_Sort_int64_int64.f (k + 1) a0) := by
  intro a0 k
  unfold slices_Sort_int64_int64.f
  by_cases h : a0.length ≤ 12
  · rw [if_pos h, if_pos h]; exact slices_insertionSortOrdered_int64.mono _ _ _ _
  · rw [if_neg h, if_neg h]; exact LeO.refl _
theorem slices_Sort_int64_int64.calls (k : Nat) (P0_ : Nat → Prop) (u9000_ : Value) (l0 : List Int) (r : List Int) (w0 w : World) (hB : Below w0.heap.size w0 w) (ho0 : Kd.R (Kd.int .i64) 2 w w0.heap.size P0_ u9000_ l0) (h : slices_Sort_int64_int64.f k l0 = some r) :
    Calls Try.prog 38 #[u9000_] w fun e w' => e = .returned (.tuple #[]) ∧ Kd.R (Kd.int .i64) 2 w' w0.heap.size (fun k_ => (P0_ k_ ∨ w.heap.size ≤ k_)) u9000_ r ∧ Below w0.heap.size w0 w' ∧ Kept w w' (fun k_ => P0_ k_) := by
  unfold slices_Sort_int64_int64.f at h
  by_cases hl : l0.length ≤ 12
  · rw [if_pos hl] at h
    have HB := Aside0.mk hB
    have HO := Aside0.mk ho0
    have HH := Aside0.mk h
    obtain ⟨Ao, co, eo⟩ := Kd.R_slice HO.out
    subst eo
    clear hB ho0 h
    have hu : IntKind.u64.wrap (l0.length : Int) = (l0.length : Int) := by rw [IntKind.wrap_u64]; omega
    go_enter Try.func38, Try.ntmps38
    go_wp2_with (first
      | (go_at_call 41; refine (len_calls (l0.length : Int) _ (by omega) (by omega)).mono ?_; rintro e w' ⟨rfl, rfl⟩)
      | (go_at_call 40; refine (pdq_calls k P0_ _ l0 _ r w0 _ ?hB ?ho hl HH.out).mono ?_; (case hB => repeat (first | exact HB.out | apply pw_below_drewN | apply below_drew1)); (case ho => repeat (first | exact HO.out | apply Kd.R_drewN | apply Kd.R_drew)); rintro e w' ⟨rfl, hr, hb, hk⟩))
    first | go_end0 | ((try simp only [Exit.inBlock, Exit.then]); refine bodyPost_ret (results_none rfl _ _ _) rfl ?_)
    exact ⟨rfl, hr, hb, hk⟩
  · rw [if_neg hl] at h
    cases h

end Go.Proofs.Ytjbgmoinaalkgaa.Q
