/- The way home as plain functions, and what the program's own functions on the next course and on the turns answer; the state of the walk of impl.plan. -/
import Derived.Test.YtibmehephlngfaaQ0
import Derived.Test.YtibmehephlngfaaQ7
import Derived.Test.YtibmehephlngfaaQ11
import Derived.Test.YtibmehephlngfaaGSteps
namespace Go.Proofs.Ytibmehephlngfaa.Q
open Go.RowKit Go.Maps Go.Proofs.YtibmehephlngfaaW.PrintWords Go.Proofs.YtibmehephlngfaaW.PrintLast Go.Proofs.YtibmehephlngfaaW.PrintMore
set_option linter.unusedVariables false
set_option linter.unusedSimpArgs false

def stepTo (c : S24) (u : Int) : S24 := ⟨c.f0 + c.f1, c.f1 + u, u⟩
def okTo (a b : Int) (c : S24) (u : Int) : Bool := decide (-b ≤ u - c.f2 ∧ u - c.f2 ≤ b) && insS a (stepTo c u)
/-- All turns from u on, so many, that may be made. -/
def turnsG (a b : Int) (c : S24) : Nat → Int → List Int
  | 0, _ => []
  | k + 1, u => if okTo a b c u = true then u :: turnsG a b c k (u + 1) else turnsG a b c k (u + 1)
def turnsP (a b : Int) (c : S24) : List Int := turnsG a b c (2 * a + 1).toNat (-a)
/-- The first of these turns that leads to a course that is m rings from home. -/
def findL (M : List (S24 × Int)) (m : Int) (c : S24) : List Int → Option Int
  | [] => none
  | u :: r => if mget M (stepTo c u) = some m then some u else findL M m c r
def planP (M : List (S24 × Int)) (a b : Int) : Nat → Int → S24 → List Int → List Int
  | 0, _, _, out => out
  | k + 1, n, c, out => match findL M (n - 1) c (turnsP a b c) with
    | some u => planP M a b k (n - 1) (stepTo c u) (out ++ [u])
    | none => planP M a b k (n - 1) c out

theorem dnextTo {a b : Int} (ha : 1 ≤ a ∧ a ≤ 3) (hb : 1 ≤ b ∧ b ≤ 6) {c : S24} (hc : insS a c = true) {u : Int} (hu : -a ≤ u ∧ u ≤ a) (k : Nat) :
    impl_Limits_next.f (k + 1) a b c.f0 c.f1 c.f2 u = some (if okTo a b c u = true then ((stepTo c u).f0, (stepTo c u).f1, (stepTo c u).f2, true) else (0, 0, 0, false)) := by
  obtain ⟨h0, h1, h2⟩ := insS_iff.1 hc
  unfold impl_Limits_next.f impl_Limits_next.j0 impl_abs.f okTo
  simp only [dwithin, Option.bind_some]
  rw [dw64 (x := -a) (by omega), dw64 (x := u - c.f2) (by omega), dw64 (x := -(u - c.f2)) (by omega), dw64 (x := c.f0 + c.f1) (by omega), dw64 (x := c.f1 + u) (by omega), dcourse ha, decide_eq_true hu, if_pos rfl]
  by_cases hq : -b ≤ u - c.f2 ∧ u - c.f2 ≤ b
  · have : decide (mx (u - c.f2) (-(u - c.f2)) > b) = false := decide_eq_false (by unfold mx; split <;> omega)
    rw [this, decide_eq_true hq, Bool.true_and]
    have hst : (⟨c.f0 + c.f1, c.f1 + u, u⟩ : S24) = stepTo c u := rfl
    rw [hst]
    cases insS a (stepTo c u) <;> rfl
  · have : decide (mx (u - c.f2) (-(u - c.f2)) > b) = true := decide_eq_true (by unfold mx; split <;> omega)
    rw [this, decide_eq_false hq, Bool.false_and]
    rfl
theorem turnsG_mem {a b : Int} {c : S24} : ∀ (k : Nat) (u : Int), ∀ x ∈ turnsG a b c k u, okTo a b c x = true ∧ u ≤ x ∧ x < u + k
  | 0, u, x, h => by cases h
  | k + 1, u, x, h => by
    unfold turnsG at h
    by_cases hk : okTo a b c u = true
    · rw [if_pos hk] at h
      rcases List.mem_cons.1 h with e | h
      · subst e; exact ⟨hk, by omega, by omega⟩
      · have := turnsG_mem k (u + 1) x h; exact ⟨this.1, by omega, by omega⟩
    · rw [if_neg hk] at h
      have := turnsG_mem k (u + 1) x h; exact ⟨this.1, by omega, by omega⟩
theorem turnsP_mem {a b : Int} (ha : 1 ≤ a ∧ a ≤ 3) {c : S24} {x : Int} (h : x ∈ turnsP a b c) : okTo a b c x = true ∧ -a ≤ x ∧ x ≤ a := by
  have := turnsG_mem _ _ x h
  exact ⟨this.1, by omega, by omega⟩
theorem turnsG_len {a b : Int} {c : S24} : ∀ (k : Nat) (u : Int), (turnsG a b c k u).length ≤ k
  | 0, u => Nat.le_refl _
  | k + 1, u => by
    unfold turnsG
    have := turnsG_len (a := a) (b := b) (c := c) k (u + 1)
    split
    · simp only [List.length_cons]; omega
    · omega
theorem turnsP_len {a b : Int} (ha : 1 ≤ a ∧ a ≤ 3) {c : S24} : (turnsP a b c).length ≤ 7 := Nat.le_trans (turnsG_len _ _) (by omega)
theorem dturns0 {a b : Int} (ha : 1 ≤ a ∧ a ≤ 3) (hb : 1 ≤ b ∧ b ≤ 6) {c : S24} (hc : insS a c = true) : ∀ (d : Nat) (u : Int) (pre : List Int), -a ≤ u → u + d = a + 1 → pre.length + d ≤ 100 → ∀ k, d + 1 < k → impl_Limits_turns.l0 k pre u a b c.f0 c.f1 c.f2 = some (pre ++ turnsG a b c d u)
  | 0, u, pre, h0, h1, hp, k, hk => by
    obtain ⟨k, rfl⟩ : ∃ m, k = m + 1 := ⟨k - 1, by omega⟩
    rw [impl_Limits_turns.l0, if_neg (by omega)]
    simp [turnsG]
  | d + 1, u, pre, h0, h1, hp, k, hk => by
    obtain ⟨k, rfl⟩ : ∃ m, k = m + 2 := ⟨k - 2, by omega⟩
    rw [impl_Limits_turns.l0, if_pos (by omega), dnextTo ha hb hc ⟨h0, by omega⟩, Option.bind_some, dw64 (x := u + 1) (by omega)]
    unfold turnsG
    by_cases hk2 : okTo a b c u = true
    · rw [if_pos hk2, if_pos rfl, if_pos (by omega), if_pos hk2]
      rw [dturns0 ha hb hc d (u + 1) (pre ++ [u]) (by omega) (by omega) (by simp; omega) (k + 1) (by omega)]
      simp
    · rw [if_neg hk2, if_neg hk2, if_neg (by simp)]
      exact dturns0 ha hb hc d (u + 1) pre (by omega) (by omega) (by omega) (k + 1) (by omega)
theorem dturns {a b : Int} (ha : 1 ≤ a ∧ a ≤ 3) (hb : 1 ≤ b ∧ b ≤ 6) {c : S24} (hc : insS a c = true) (k : Nat) (hk : 20 ≤ k) : impl_Limits_turns.f k a b c.f0 c.f1 c.f2 = some (turnsP a b c) := by
  unfold impl_Limits_turns.f
  rw [dw64 (x := -a) (by omega)]
  exact dturns0 ha hb hc (2 * a + 1).toNat (-a) [] (by omega) (by omega) (by simp; omega) k (by omega)
theorem findL_at (M : List (S24 × Int)) (m : Int) (c : S24) (l : List Int) (x : Int) (h0 : 0 ≤ x) (h1 : x < l.length) :
    findL M m c (l.drop x.toNat) = if mget M (stepTo c (rd l x)) = some m then some (rd l x) else findL M m c (l.drop (x + 1).toNat) := by
  have hl : x.toNat < l.length := by omega
  rw [List.drop_eq_getElem_cons hl]
  have e1 : (x + 1).toNat = x.toNat + 1 := by omega
  have e2 : rd l x = l[x.toNat] := by simp [rd, hl]
  rw [e1, e2]
  rfl

/-! ### the state -/
structure PS (w0 : World) (a b : Int) (gm gl gc : Nat) (M : List (S24 × Int)) (c : S24) (v9 : Value) (out : List Int) (w : World) : Prop where
  map : MapG Try.prog 24 valS w gm M.length (mgv M)
  box : w.heap[gl]? = some (.cells #[.int .i64 a, .int .i64 b] 40 (0, 0))
  cur : w.heap[gc]? = some (.cells #[.int .i64 c.f0, .int .i64 c.f1, .int .i64 c.f2] 24 (0, 0))
  out : Kd.R (Kd.int .i64) 2 w w0.heap.size (fun _ => True) v9 out
  made : Below w0.heap.size w0 w
  gcs : w0.heap.size ≤ gc
section
variable {w0 w w' : World} {a b : Int} {gm gl gc : Nat} {M : List (S24 × Int)} {c : S24} {v9 v9' : Value} {out out' : List Int}
theorem PS.size (h : PS w0 a b gm gl gc M c v9 out w) : w0.heap.size ≤ w.heap.size := h.made.size
theorem PS.below (h : PS w0 a b gm gl gc M c v9 out w) (hb : Below w.heap.size w w') : PS w0 a b gm gl gc M c v9 out w' :=
  ⟨h.map.below hb, blk_below h.box hb, blk_below h.cur hb, Kd.R_below h.out hb, below_step h.made hb, h.gcs⟩
theorem PS.app (h : PS w0 a b gm gl gc M c v9 out w) (hg : w.grownBy w' v9.ownBlock) (hb : Below w0.heap.size w0 w') (ho : Kd.R (Kd.int .i64) 2 w' w0.heap.size (fun _ => True) v9' out') : PS w0 a b gm gl gc M c v9' out' w' :=
  ⟨h.map.grown hg (fun he => by
      obtain ⟨cells, hc⟩ := Kd.R_typed h.out gm he.symm
      exact h.map.ne hc rfl), blk_grown h.box hg (Kd.R_ne h.out h.box (by decide)), blk_grown h.cur hg (Kd.R_ne h.out h.cur (by decide)), ho, hb, h.gcs⟩
theorem PS.one (h : PS w0 a b gm gl gc M c v9 out w) (i : Nat) (u : Value) {cs : Array Value} (e : (#[.int .i64 c.f0, .int .i64 c.f1, .int .i64 c.f2] : Array Value).setIfInBounds i u = cs) {c' : S24} (ec : cs = #[.int .i64 c'.f0, .int .i64 c'.f1, .int .i64 c'.f2]) : PS w0 a b gm gl gc M c' v9 out (w.setCell ⟨gc, i, none⟩ u) :=
  ⟨h.map.far (h.map.ne h.cur) u, blk_far h.box (blk_ne h.box h.cur (by decide)) u, by rw [← ec]; exact blk_put h.cur i u e, Kd.R_mono (Kd.R_far (p := ⟨gc, i, none⟩) (Kd.R_types h.out h.cur (by decide)) (fun _ hk => hk.2) u) (fun _ _ => trivial), below_set h.made h.gcs, h.gcs⟩
theorem PS.store (h : PS w0 a b gm gl gc M c v9 out w) (x y z : Int) : PS w0 a b gm gl gc M ⟨x, y, z⟩ v9 out (((w.setCell ⟨gc, 0, none⟩ (.int .i64 x)).setCell ⟨gc, 1, none⟩ (.int .i64 y)).setCell ⟨gc, 2, none⟩ (.int .i64 z)) :=
  ((h.one 0 (.int .i64 x) rfl (c' := ⟨x, c.f1, c.f2⟩) rfl).one 1 (.int .i64 y) rfl (c' := ⟨x, y, c.f2⟩) rfl).one 2 (.int .i64 z) rfl (c' := ⟨x, y, z⟩) rfl
end

end Go.Proofs.Ytibmehephlngfaa.Q
