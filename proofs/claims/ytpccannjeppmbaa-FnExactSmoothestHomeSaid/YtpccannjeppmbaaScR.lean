/- The reference's plan over its tables as plain functions; for the walk of spec.SmoothestHome: what its calls answer, its frame and how a step keeps it. -/
import Derived.Test.YtpccannjeppmbaaQ0
import Derived.Test.YtpccannjeppmbaaQ9
import Derived.Test.YtpccannjeppmbaaQ10
import Derived.Test.YtpccannjeppmbaaScQ
namespace Go.Proofs.Ytpccannjeppmbaa.Q
open Go.RowKit Go.Proofs.YtpccannjeppmbaaW.PrintWords Go.Proofs.YtpccannjeppmbaaW.PrintLast Go.Proofs.YtpccannjeppmbaaW.PrintMore
set_option linter.unusedVariables false
set_option linter.unusedSimpArgs false

def hitC (D : List (List Int)) (a b m : Int) (c : S31) (u : Int) : Bool :=
  okTo a b c u && (decide (0 < rd (rdL D (m - 1)) (spotZ (stepTo c u))) && decide (rd (rdL D (m - 1)) (spotZ (stepTo c u)) + (u - c.f2) * (u - c.f2) = rd (rdL D m) (spotZ c)))
/-- The first turn from u on, so many, that leads on to a least plan. -/
def findC (D : List (List Int)) (a b m : Int) (c : S31) : Nat → Int → Option Int
  | 0, _ => none
  | n + 1, u => if hitC D a b m c u = true then some u else findC D a b m c n (u + 1)
def planC (D : List (List Int)) (a b : Int) : Nat → Int → S31 → List Int → List Int
  | 0, _, _, out => out
  | k + 1, m, c, out => match findC D a b m c (2 * a + 1).toNat (-a) with
    | some u => planC D a b k (m - 1) (stepTo c u) (out ++ [u])
    | none => planC D a b k (m - 1) c out
/-- The reference's answer. -/
def ansC (a b k : Int) (c : S31) : List Int × Int × Bool :=
  if rd (rdL (costsP a b k) k) (spotZ c) = 0 then ([], 0, false) else (planC (costsP a b k) a b k.toNat k c [], rd (rdL (costsP a b k) k) (spotZ c) - 1, true)
theorem TabOk.mono {M M' : Int} {t : List Int} (h : TabOk M t) (hm : M ≤ M') : TabOk M' t := ⟨h.1, fun j => by have := h.2 j; omega⟩
theorem rdL_init (outs : List (List Int)) (t : List Int) (j : Int) (h0 : 0 ≤ j) (h : j < outs.length) : rdL (outs ++ [t]) j = rdL outs j := by
  unfold rdL
  simp only [List.getD_eq_getElem?_getD]
  rw [List.getElem?_append_left (by omega)]
theorem levelsC_ok {a b : Int} (ha : 1 ≤ a ∧ a ≤ 3) : ∀ (n : Nat) (i : Int) (outs : List (List Int)) (nows : List S31), 0 ≤ i → i + n ≤ 8 → (outs.length : Int) = i + 1 → (∀ j, 0 ≤ j → j ≤ i → TabOk (1 + 36 * j) (rdL outs j)) → (∀ c ∈ nows, insS a c = true) →
    ((levelsC a b n i outs nows).length : Int) = i + 1 + n ∧ ∀ j, 0 ≤ j → j ≤ i + n → TabOk (1 + 36 * j) (rdL (levelsC a b n i outs nows) j)
  | 0, i, outs, nows, h0, h8, hl, ht, hn => ⟨by simpa [levelsC] using hl, fun j hj hj' => ht j hj (by omega)⟩
  | n + 1, i, outs, nows, h0, h8, hl, ht, hn => by
    have hr := ringC_inv (b := b) ha (ht i h0 (Int.le_refl i)) nows 0 (zerosC, []) hn ⟨zeros_ok (by omega), (fun c hc => by cases hc), Nat.le_refl _⟩
    have := levelsC_ok (b := b) ha n (i + 1) (outs ++ [(ringC a b (rdL outs i) nows (zerosC, [])).1]) (ringC a b (rdL outs i) nows (zerosC, [])).2 (by omega) (by omega) (by simp only [List.length_append, List.length_cons, List.length_nil]; omega) ?_ hr.2.1
    · rw [levelsC]
      exact ⟨by rw [this.1]; omega, fun j hj hj' => this.2 j hj (by omega)⟩
    · intro j hj hj'
      by_cases e : j = i + 1
      · subst e
        rw [rdL_last _ _ _ hl.symm, show 1 + 36 * (i + 1) = 1 + 36 * i + 36 from by omega]
        exact hr.1
      · rw [rdL_init _ _ _ hj (by omega)]
        exact ht j hj (by omega)
theorem costs_ok {a b k : Int} (ha : 1 ≤ a ∧ a ≤ 3) (hk : 0 ≤ k ∧ k ≤ 8) : ((costsP a b k).length : Int) = k + 1 ∧ ∀ j, 0 ≤ j → j ≤ k → TabOk 289 (rdL (costsP a b k) j) := by
  have h := levelsC_ok (b := b) ha k.toNat 0 [firstC] [home] (Int.le_refl 0) (by omega) rfl (fun j h0 h1 => by
    have : j = 0 := by omega
    subst this
    exact first_ok) (fun c hc => by
    simp only [List.mem_singleton] at hc
    rw [hc]
    exact insS_iff.2 ⟨by decide, by decide, by show -a ≤ 0 ∧ 0 ≤ a; omega⟩)
  exact ⟨by have := h.1; unfold costsP; omega, fun j h0 h1 => (h.2 j h0 (by omega)).mono (by omega)⟩
theorem findC_step (D : List (List Int)) (a b m : Int) (c : S31) (u : Int) (h : u ≤ a) : findC D a b m c (a + 1 - u).toNat u = if hitC D a b m c u = true then some u else findC D a b m c (a + 1 - (u + 1)).toNat (u + 1) := by
  rw [show (a + 1 - u).toNat = (a + 1 - (u + 1)).toNat + 1 from by omega, findC]

/-! ### what the calls answer -/
theorem snextTo {a b : Int} (ha : 1 ≤ a ∧ a ≤ 3) (hb : 1 ≤ b ∧ b ≤ 6) {c : S31} (hc : insS a c = true) {u : Int} (hu : -a ≤ u ∧ u ≤ a) (k : Nat) :
    spec_l05Next.f (k + 1) a b c.f0 c.f1 c.f2 u = some (if okTo a b c u = true then ((stepTo c u).f0, (stepTo c u).f1, (stepTo c u).f2, true) else (0, 0, 0, false)) := by
  obtain ⟨h0, h1, h2⟩ := insS_iff.1 hc
  unfold spec_l05Next.f spec_l05Next.j0 okTo
  simp only [cin_eq, Option.bind_some]
  rw [cw64 (x := -a) (by omega), cw64 (x := -b) (by omega), cw64 (x := u - c.f2) (by omega), cw64 (x := c.f0 + c.f1) (by omega), cw64 (x := c.f1 + u) (by omega), cins_eq ha, decide_eq_true hu, if_pos rfl]
  by_cases hq : -b ≤ u - c.f2 ∧ u - c.f2 ≤ b
  · rw [decide_eq_true hq, Bool.true_and]
    have hst : (⟨c.f0 + c.f1, c.f1 + u, u⟩ : S31) = stepTo c u := rfl
    rw [hst]
    cases insS a (stepTo c u) <;> rfl
  · rw [decide_eq_false hq, Bool.false_and]
    rfl
theorem svalid {a b o h t : Int} (hv : spec_l05Is.f a b o h t = some true) : (1 ≤ a ∧ a ≤ 3) ∧ (1 ≤ b ∧ b ≤ 6) ∧ insS a ⟨o, h, t⟩ = true := by
  unfold spec_l05Is.f spec_l05Limits.f at hv
  simp only [cin_eq, Option.bind_some] at hv
  by_cases ha : 1 ≤ a ∧ a ≤ 3
  · by_cases hb : 1 ≤ b ∧ b ≤ 6
    · rw [decide_eq_true ha, if_pos rfl, decide_eq_true hb, cins_eq ha] at hv
      simp only [Option.bind_some, if_true, Option.some.injEq] at hv
      exact ⟨ha, hb, hv⟩
    · rw [decide_eq_true ha, if_pos rfl, decide_eq_false hb] at hv
      simp at hv
  · rw [decide_eq_false ha] at hv
    simp at hv

/-! ### the frame -/
structure PC (w0 : World) (a b : Int) (gl gc B : Nat) (v9 : Value) (D : List (List Int)) (c : S31) (v11 : Value) (acc : List Int) (w : World) : Prop where
  out : Kd.N (Kd.slice 2 (Kd.int .i64)) 26 w w0.heap.size (fun k => gc + 1 ≤ k ∧ k < B) v9 D
  box : w.heap[gl]? = some (.cells #[.int .i64 a, .int .i64 b] 29 (0, 0))
  cur : w.heap[gc]? = some (.cells #[.int .i64 c.f0, .int .i64 c.f1, .int .i64 c.f2] 31 (0, 0))
  acc : Kd.R (Kd.int .i64) 2 w w0.heap.size (fun k => B ≤ k) v11 acc
  made : Below w0.heap.size w0 w
  ord : w0.heap.size ≤ gc ∧ gl < B ∧ gc < B ∧ B ≤ w.heap.size
section
variable {w0 w w' : World} {a b : Int} {gl gc B : Nat} {v9 v11 v' : Value} {D : List (List Int)} {c : S31} {acc acc' : List Int}
theorem PC.size (h : PC w0 a b gl gc B v9 D c v11 acc w) : w0.heap.size ≤ w.heap.size := h.made.size
theorem PC.below (h : PC w0 a b gl gc B v9 D c v11 acc w) (hb : Below w.heap.size w w') : PC w0 a b gl gc B v9 D c v11 acc w' :=
  ⟨Kd.N_below h.out hb, blk_below h.box hb, blk_below h.cur hb, Kd.R_below h.acc hb, below_step h.made hb, h.ord.1, h.ord.2.1, h.ord.2.2.1, Nat.le_trans h.ord.2.2.2 hb.size⟩
theorem PC.app (h : PC w0 a b gl gc B v9 D c v11 acc w) (hg : w.grownBy w' v11.ownBlock) (hb : Below w0.heap.size w0 w') (ho : Kd.R (Kd.int .i64) 2 w' w0.heap.size (fun k => B ≤ k) v' acc') : PC w0 a b gl gc B v9 D c v' acc' w' :=
  ⟨N_keepLow h.out hg (fun k hk => h.acc.1 k hk), blk_grown h.box hg (Kd.R_ne h.acc h.box (by decide)), blk_grown h.cur hg (Kd.R_ne h.acc h.cur (by decide)), ho, hb, h.ord.1, h.ord.2.1, h.ord.2.2.1, Nat.le_trans h.ord.2.2.2 hg.size⟩
theorem PC.one (h : PC w0 a b gl gc B v9 D c v11 acc w) (i : Nat) (u : Value) {cs : Array Value} (e : (#[.int .i64 c.f0, .int .i64 c.f1, .int .i64 c.f2] : Array Value).setIfInBounds i u = cs) {c' : S31} (ec : cs = #[.int .i64 c'.f0, .int .i64 c'.f1, .int .i64 c'.f2]) : PC w0 a b gl gc B v9 D c' v11 acc (w.setCell ⟨gc, i, none⟩ u) :=
  ⟨Kd.N_far (p := ⟨gc, i, none⟩) h.out (fun k hk => by have := hk.1; show k ≠ gc; omega) u, blk_far h.box (blk_ne h.box h.cur (by decide)) u, by rw [← ec]; exact blk_put h.cur i u e, Kd.R_mono (Kd.R_far (p := ⟨gc, i, none⟩) (Kd.R_types h.acc h.cur (by decide)) (fun _ hk => hk.2) u) (fun _ hk => hk.1), below_set h.made h.ord.1, h.ord.1, h.ord.2.1, h.ord.2.2.1, by simpa [World.setCell] using h.ord.2.2.2⟩
theorem PC.store (h : PC w0 a b gl gc B v9 D c v11 acc w) (x y z : Int) : PC w0 a b gl gc B v9 D ⟨x, y, z⟩ v11 acc (((w.setCell ⟨gc, 0, none⟩ (.int .i64 x)).setCell ⟨gc, 1, none⟩ (.int .i64 y)).setCell ⟨gc, 2, none⟩ (.int .i64 z)) :=
  ((h.one 0 (.int .i64 x) rfl (c' := ⟨x, c.f1, c.f2⟩) rfl).one 1 (.int .i64 y) rfl (c' := ⟨x, y, c.f2⟩) rfl).one 2 (.int .i64 z) rfl (c' := ⟨x, y, z⟩) rfl
end

end Go.Proofs.Ytpccannjeppmbaa.Q
