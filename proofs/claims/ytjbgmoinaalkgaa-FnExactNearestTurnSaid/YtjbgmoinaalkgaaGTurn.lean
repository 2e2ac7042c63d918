/- A contract by hand for the turn of a ring: a straight ring turns by nothing, a tapered one by what the table of its key says; nothing that was there changes. -/
import Derived.Test.YtjbgmoinaalkgaaQ0
import Derived.BigQuiet
import Derived.Laws.Tables
import Derived.Laws.CopyOwn
import Derived.Deep.QuietTactic
namespace Go.Proofs.Ytjbgmoinaalkgaa.Q
open Go.RowKit Go.Proofs.YtjbgmoinaalkgaaW.PrintWords Go.Proofs.YtjbgmoinaalkgaaW.PrintLast Go.Proofs.YtjbgmoinaalkgaaW.PrintMore
set_option linter.unusedVariables false
set_option linter.unusedSimpArgs false

def turnTab : List (Int × Int) := [(10, 0), (9, 4), (7, 7), (4, 9), (0, 10), (-4, 9), (-7, 7), (-9, 4), (-10, 0), (-9, -4), (-7, -7), (-4, -9), (0, -10), (4, -9), (7, -7), (9, -4)]
def impl_Ring_turn.f (a0_0 : Int) (a0_1 : Int) : Option (Int × Int) := if a0_0 = 0 then some (0, 0) else if 0 ≤ a0_1 then turnTab[a0_1.toNat]? else none

theorem turn_straight (a0_1 : Int) (w : World) : Calls Try.prog 31 #[.agg #[.int .i64 0, .int .i64 a0_1]] w fun e w' => e = .returned (.tuple #[.int .i64 0, .int .i64 0]) ∧ Below w.heap.size w w' := by
  go_enter Try.func31, Try.ntmps31
  go_wp2
  go_ret2
  exact ⟨rfl, by repeat (first | exact Below.refl _ _ | apply pw_below_drewN | apply below_alloc)⟩

def turnArr : Array Value := #[.int .i64 10, .int .i64 0, .int .i64 9, .int .i64 4, .int .i64 7, .int .i64 7, .int .i64 4, .int .i64 9, .int .i64 0, .int .i64 10, .int .i64 (-4), .int .i64 9, .int .i64 (-7), .int .i64 7, .int .i64 (-9), .int .i64 4, .int .i64 (-10), .int .i64 0, .int .i64 (-9), .int .i64 (-4), .int .i64 (-7), .int .i64 (-7), .int .i64 (-4), .int .i64 (-9), .int .i64 0, .int .i64 (-10), .int .i64 4, .int .i64 (-9), .int .i64 7, .int .i64 (-7), .int .i64 9, .int .i64 (-4)]
def zeroArr : Array Value := #[.int .i64 0, .int .i64 0, .int .i64 0, .int .i64 0, .int .i64 0, .int .i64 0, .int .i64 0, .int .i64 0, .int .i64 0, .int .i64 0, .int .i64 0, .int .i64 0, .int .i64 0, .int .i64 0, .int .i64 0, .int .i64 0, .int .i64 0, .int .i64 0, .int .i64 0, .int .i64 0, .int .i64 0, .int .i64 0, .int .i64 0, .int .i64 0, .int .i64 0, .int .i64 0, .int .i64 0, .int .i64 0, .int .i64 0, .int .i64 0, .int .i64 0, .int .i64 0]
theorem turnArr_at (key : Nat) (x y : Int) (h : turnTab[key]? = some (x, y)) : turnArr[2 * key]? = some (.int .i64 x) ∧ turnArr[2 * key + 1]? = some (.int .i64 y) := by
  have hlt : key < 16 := by
    have := (List.getElem?_eq_some_iff.1 h).1
    simpa [turnTab] using this
  have hc : key = 0 ∨ key = 1 ∨ key = 2 ∨ key = 3 ∨ key = 4 ∨ key = 5 ∨ key = 6 ∨ key = 7 ∨ key = 8 ∨ key = 9 ∨ key = 10 ∨ key = 11 ∨ key = 12 ∨ key = 13 ∨ key = 14 ∨ key = 15 := by omega
  rcases hc with rfl | rfl | rfl | rfl | rfl | rfl | rfl | rfl | rfl | rfl | rfl | rfl | rfl | rfl | rfl | rfl <;> (simp [turnTab] at h; obtain ⟨rfl, rfl⟩ := h; exact ⟨rfl, rfl⟩)

section
variable {P : Program} {ops : Array Oper} {rest : List Oper} {o : Oper} {a : Act} {Q : Exit → Act → World → Prop}
theorem build_to {w : World} (hg : o.guard = none) (t : TypeId) (parts : Array (Nat × Operand)) (ho : o.op = .build t parts) (arr : Array Value)
    (hf : P.built t (parts.map fun (i, x) => (i, a.eval x)).toList = some arr) (h : wpList P ops Q rest (a.put o.dst (.agg arr)) w) : wpList P ops Q (o :: rest) a w :=
  wpList_build hg t parts ho (by rw [hf]; rfl) (by rw [hf]; exact h)
end

set_option maxHeartbeats 4000000 in
theorem turn_tapered (a0_0 : Int) (key : Nat) (x y : Int) (w : World) (hk1 : ((a0_0 : Int) == 0) = false) (hlt : key < 16) (h : turnTab[key]? = some (x, y)) :
    Calls Try.prog 31 #[.agg #[.int .i64 a0_0, .int .i64 (key : Int)]] w fun e w' => e = .returned (.tuple #[.int .i64 x, .int .i64 y]) ∧ Below w.heap.size w w' := by
  obtain ⟨hx0, hy0⟩ := turnArr_at key x y h
  have HX0 := Aside0.mk hx0
  have HY0 := Aside0.mk hy0
  clear hx0 hy0 h
  go_enter Try.func31, Try.ntmps31
  go_wp2_with (first
    | ((with_reducible refine gate_dst (N := 24) rfl ?_); refine build_to rfl 61 _ rfl turnArr (by kernel_rfl) ?_)
    | ((with_reducible refine gate_dst (N := 4) rfl ?_); refine box_event ?hg (N := 4) ?hd (cs := zeroArr) (t := 61) ?hr ?_; (case hd => rfl); (case hg => rfl); (case hr => first | (go_simp; done) | (go_simp; rfl)); intro gb hg w2 hbox hb; have HG := Aside0.mk hg; have HBX := Aside0.mk hbox; have HBB := Aside0.mk hb; clear hg hbox hb)
    | ((with_reducible refine gate_store (t := 61) (p := 4) rfl ?_); go_loud (refine wpList_store_row rfl 61 _ _ rfl gb turnArr rfl rfl 61 zeroArr HBX.out (by kernel_rfl) (by kernel_rfl) (by kernel_rfl) ?_; have HRW := Aside0.mk (setRow_heap w2 gb zeroArr turnArr 61 (0, 0) HBX.out); have HW3 := Aside0.mk (below_setRow (B := w.heap.size) (g := gb) (below_step (below_alloc (Below.refl _ _) _) HBB.out) (by rw [HG.out]; simp) turnArr); have HK3 := Aside0.mk ((cell_setRow_other w2 gb turnArr ⟨w.heap.size, 1, none⟩ (by rw [HG.out]; simp)).trans ((HBB.out.cell (p := ⟨w.heap.size, 1, none⟩) (by simp)).trans (by go_simp)) : (w2.setRow gb turnArr).cell? ⟨w.heap.size, 1, none⟩ = some (.int .i64 (key : Int))); obtain ⟨w3, hw3⟩ : ∃ w3, w3 = w2.setRow gb turnArr := ⟨_, rfl⟩; rw [← hw3]; rw [← hw3] at HRW HW3 HK3; clear hw3)))
  have hk3 := HK3.out
  have hi2 : (0 : Int) ≤ (key : Int) := by omega
  have hi3 : (key : Int) < 16 := by omega
  have hi4 : (key : Int).toNat = key := by omega
  have hx3 : w3.cell? ⟨gb, key * 2, none⟩ = some (.int .i64 x) := by rw [cell_of_row _ _ _ _ _ _ HRW.out, Nat.mul_comm]; exact HX0.out
  have hy3 : w3.cell? ⟨gb, key * 2 + 1, none⟩ = some (.int .i64 y) := by rw [cell_of_row _ _ _ _ _ _ HRW.out, Nat.mul_comm]; exact HY0.out
  go_quiet (fail)
  go_wp2
  go_ret2
  exact ⟨rfl, by repeat (first | exact HW3.out | apply pw_below_drewN | apply below_drew)⟩

theorem impl_Ring_turn.calls (a0_0 : Int) (a0_1 : Int) (r1 : Int) (r2 : Int) (w : World) (h : impl_Ring_turn.f a0_0 a0_1 = some (r1, r2)) :
    Calls Try.prog 31 #[.agg #[.int .i64 a0_0, .int .i64 a0_1]] w fun e w' => e = .returned (.tuple #[.int .i64 r1, .int .i64 r2]) ∧ Below w.heap.size w w' := by
  unfold impl_Ring_turn.f at h
  by_cases c : a0_0 = 0
  · rw [if_pos c] at h
    subst c
    simp only [Option.some.injEq, Prod.mk.injEq] at h
    obtain ⟨rfl, rfl⟩ := h
    exact turn_straight a0_1 w
  · rw [if_neg c] at h
    by_cases d : 0 ≤ a0_1
    · rw [if_pos d] at h
      have hlt : a0_1.toNat < 16 := by
        have := (List.getElem?_eq_some_iff.1 h).1
        simpa [turnTab] using this
      have e : ((a0_1.toNat : Nat) : Int) = a0_1 := by omega
      have := turn_tapered a0_0 a0_1.toNat r1 r2 w (by simpa using c) hlt h
      rwa [e] at this
    · rw [if_neg d] at h
      cases h

end Go.Proofs.Ytjbgmoinaalkgaa.Q
