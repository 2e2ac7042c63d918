/- For the walk of impl.distances: what its calls answer, the state of its loops and how a step keeps it, and the two operations that the words lack. -/
import Derived.Test.YtibmehephlngfaaQ0
import Derived.Test.YtibmehephlngfaaQ5
import Derived.Test.YtibmehephlngfaaQ7
import Derived.Test.YtibmehephlngfaaGKey
import Derived.Test.YtibmehephlngfaaGDistP
namespace Go.Proofs.Ytibmehephlngfaa.Q
open Go.RowKit Go.Maps Go.Proofs.YtibmehephlngfaaW.PrintWords Go.Proofs.YtibmehephlngfaaW.PrintLast Go.Proofs.YtibmehephlngfaaW.PrintMore
set_option linter.unusedVariables false
set_option linter.unusedSimpArgs false

section
variable {α : Type} {P : Program} {k : TypeId} {enc : α → Value} {w : World} {b n : Nat} {G : α → Option Value} {t e : TypeId} {x : α} {kl : Lit}
variable {ops : Array Oper} {rest : List Oper} {o : Oper} {a : Act} {Q : Exit → Act → World → Prop}
variable [DecidableEq α]
/-- A literal's entry at the operation. -/
theorem wpList_ins (hg : o.guard = none) (m y v : Operand) (hop : o.op = Op.insert t m y v) (K : Keyed P k) (hinj : ∀ x y, enc x = enc y → x = y) (ht : P.underlying t = some (.map k e)) (hn : n < maxLen)
    (hm : a.eval m = .map (some b)) (h : MapG P k enc w b n G) (hx : a.eval y = enc x) (hkey : keyOf P k (enc x) = some kl)
    (hK : ∀ w', MapG P k enc w' b (n + 1) (fun q => if q = x then some (a.eval v) else G q) → w.grownBy w' (some b) → wpList P ops Q rest (a.put o.dst undef) w') : wpList P ops Q (o :: rest) a w := by
  refine wpList_plain hg fun K' hK' => ?_
  obtain ⟨w', hrun, h', hgr⟩ := h.update K hinj ht hn hkey (a.eval v)
  unfold Oper.wp
  simp [execOp, hop, hm, hx, hrun, Result.andThen]
  exact hK' _ _ (hK w' h' hgr)
omit [DecidableEq α] in
/-- An empty map is made at the operation. -/
theorem wpList_map (k : TypeId) (enc : α → Value) (hg : o.guard = none) (hop : o.op = Op.makeMap t none)
    (hK : ∀ g, g = w.heap.size → ∀ w', MapG P k enc w' g 0 (fun _ => none) → Below w.heap.size w w' → wpList P ops Q rest (a.put o.dst (.map (some g))) w') : wpList P ops Q (o :: rest) a w := by
  refine wpList_plain hg fun K' hK' => ?_
  have hrun : (Instr.makeMap t none).run P w = .ok (.map (some w.heap.size)) (w.alloc (.map #[] 0)) := rfl
  unfold Oper.wp
  simp [execOp, hop, hrun, Result.andThen]
  exact hK' _ _ (hK _ rfl _ (MapG.made w P k enc) (below_alloc (Below.refl _ _) _))
end

/-! ### what the calls answer -/
theorem dw64 {x : Int} (h : -9223372036854775808 ≤ x ∧ x ≤ 9223372036854775807) : wrap64 x = x := by unfold wrap64; omega
theorem dwithin (a lo hi : Int) : impl_within.f a lo hi = some (decide (lo ≤ a ∧ a ≤ hi)) := by
  unfold impl_within.f
  by_cases h : lo ≤ a
  · rw [if_pos h]; simp [h]
  · rw [if_neg h]; simp [h]
theorem dcourse {a b : Int} (ha : 1 ≤ a ∧ a ≤ 3) (x y z : Int) : impl_Limits_isCourse.f a b x y z = some (insS a ⟨x, y, z⟩) := by
  unfold impl_Limits_isCourse.f insS
  simp only [dwithin, Option.bind_some]
  rw [dw64 (x := -a) (by omega)]
  by_cases h1 : -40 ≤ x ∧ x ≤ 40 <;> by_cases h2 : -10 ≤ y ∧ y ≤ 10 <;> simp [h1, h2]
/-- The next course of the one before c, by c's own turn. -/
theorem dnext {a b : Int} (ha : 1 ≤ a ∧ a ≤ 3) (hb : 1 ≤ b ∧ b ≤ 6) {c : S24} (hc : insS a c = true) {u : Int} (hu : -a ≤ u ∧ u ≤ a) :
    ∃ x y z ok, impl_Limits_next.f 1 a b (prevOf c u).f0 (prevOf c u).f1 (prevOf c u).f2 c.f2 = some (x, y, z, ok) ∧ ok = decide (-b ≤ c.f2 - u ∧ c.f2 - u ≤ b) ∧ (ok = true → x = c.f0 ∧ y = c.f1 ∧ z = c.f2) := by
  obtain ⟨h0, h1, h2⟩ := insS_iff.1 hc
  have e0 : (prevOf c u).f0 = c.f0 - (c.f1 - c.f2) := rfl
  have e1 : (prevOf c u).f1 = c.f1 - c.f2 := rfl
  have e2 : (prevOf c u).f2 = u := rfl
  unfold impl_Limits_next.f impl_Limits_next.j0 impl_abs.f
  simp only [dwithin, e0, e1, e2, Option.bind_some]
  rw [dw64 (x := -a) (by omega), dw64 (x := c.f2 - u) (by omega), dw64 (x := -(c.f2 - u)) (by omega), dw64 (x := c.f0 - (c.f1 - c.f2) + (c.f1 - c.f2)) (by omega), dw64 (x := c.f1 - c.f2 + c.f2) (by omega)]
  have g0 : c.f0 - (c.f1 - c.f2) + (c.f1 - c.f2) = c.f0 := by omega
  have g1 : c.f1 - c.f2 + c.f2 = c.f1 := by omega
  have hins : insS a ⟨c.f0, c.f1, c.f2⟩ = true := hc
  rw [g0, g1, dcourse ha, hins]
  have hw : decide (-a ≤ c.f2 ∧ c.f2 ≤ a) = true := decide_eq_true h2
  rw [hw, if_pos rfl]
  by_cases hq : -b ≤ c.f2 - u ∧ c.f2 - u ≤ b
  · have : decide (mx (c.f2 - u) (-(c.f2 - u)) > b) = false := decide_eq_false (by unfold mx; split <;> omega)
    rw [this]
    exact ⟨c.f0, c.f1, c.f2, true, by simp, by simp [hq], fun _ => ⟨rfl, rfl, rfl⟩⟩
  · have : decide (mx (c.f2 - u) (-(c.f2 - u)) > b) = true := decide_eq_true (by unfold mx; split <;> omega)
    rw [this]
    exact ⟨0, 0, 0, false, by simp, by rw [decide_eq_false hq], fun h => by cases h⟩

/-! ### the loops' state -/
def mgv (M : List (S24 × Int)) : S24 → Option Value := fun c => (mget M c).map (Value.int .i64)
structure DS (w0 : World) (a b : Int) (gm gl B4 : Nat) (v4 : Value) (ring : List S24) (ok : Nat → Prop) (v6 : Value) (s : MB) (w : World) : Prop where
  inv : InvB a s
  map : MapG Try.prog 24 valS w gm s.1.length (mgv s.1)
  old : Kd.R k24 24 w w0.heap.size (fun k => k < B4) v4 ring
  new : Kd.R k24 24 w w0.heap.size (fun k => B4 ≤ k ∧ ok k) v6 s.2
  box : w.heap[gl]? = some (.cells #[.int .i64 a, .int .i64 b] 40 (0, 0))
  made : Below w0.heap.size w0 w
  gml : w0.heap.size ≤ gm
  lim : B4 ≤ w.heap.size
section
variable {w0 w w' : World} {a b : Int} {gm gl B4 : Nat} {v4 v6 : Value} {ring : List S24} {ok ok' : Nat → Prop} {s : MB}
theorem DS.size (h : DS w0 a b gm gl B4 v4 ring ok v6 s w) : w0.heap.size ≤ w.heap.size := h.made.size
theorem DS.below (h : DS w0 a b gm gl B4 v4 ring ok v6 s w) (hb : Below w.heap.size w w') : DS w0 a b gm gl B4 v4 ring ok v6 s w' :=
  ⟨h.inv, h.map.below hb, Kd.R_below h.old hb, Kd.R_below h.new hb, blk_below h.box hb, below_step h.made hb, h.gml, Nat.le_trans h.lim hb.size⟩
theorem DS.elder (h : DS w0 a b gm gl B4 v4 ring ok v6 s w) (g : Nat) (hg : w.heap.size ≤ g) : DS w0 a b gm gl B4 v4 ring (fun k => k ≠ g) v6 s w :=
  ⟨h.inv, h.map, h.old, Kd.R_mono (Kd.R_bound h.new) (fun k hk => ⟨hk.1.1, by have := hk.2.2.1; omega⟩), h.box, h.made, h.gml, h.lim⟩
theorem DS.mono (h : DS w0 a b gm gl B4 v4 ring ok v6 s w) (hm : ∀ k, ok k → ok' k) : DS w0 a b gm gl B4 v4 ring ok' v6 s w :=
  ⟨h.inv, h.map, h.old, Kd.R_mono h.new (fun k hk => ⟨hk.1, hm k hk.2⟩), h.box, h.made, h.gml, h.lim⟩
theorem mgv_snoc (M : List (S24 × Int)) (c : S24) (n : Int) (h : ¬ (mget M c).isSome = true) : mgv (M ++ [(c, n)]) = fun q => if q = c then some (Value.int .i64 n) else mgv M q := by
  funext q
  unfold mgv
  rw [mget_snoc M c n h q]
  by_cases e : q = c
  · rw [if_pos e, if_pos e]; rfl
  · rw [if_neg e, if_neg e]
theorem R_new_map {e base : Nat} {okk : Nat → Prop} {v : Value} {xs : List S24} {G : S24 → Option Value} {n : Nat} {P : Program} {k : TypeId} (h : Kd.R k24 e w base okk v xs) (hm : MapG P k valS w gm n G) : some gm ≠ v.ownBlock := by
  intro he
  obtain ⟨cells, hc⟩ := Kd.R_typed h gm he.symm
  exact hm.ne hc rfl
theorem R_past_map {e base : Nat} {okk : Nat → Prop} {v : Value} {xs : List S24} {G : S24 → Option Value} {n : Nat} {P : Program} {k : TypeId} (h : Kd.R k24 e w base okk v xs) (hm : MapG P k valS w gm n G) (hg : w.grownBy w' (some gm)) : Kd.R k24 e w' base okk v xs :=
  Kd.R_mono (Kd.R_grown (Kd.R_bound h) hg (fun k hk he => by
    injection he with he
    obtain ⟨_, _, _, _, _, cells, hc⟩ := hk
    exact hm.ne hc he.symm)) (fun k hk => hk.1)
theorem InvB.put (h : InvB a s) {c : S24} {n : Int} (hn : ¬ (mget s.1 c).isSome = true) (hc : insS a c = true) : InvB a (s.1 ++ [(c, n)], s.2) :=
  ⟨h.1.push hn hc, by have := h.2.1; simp only [List.length_append, List.length_cons, List.length_nil]; omega, h.2.2⟩
theorem DS.put (h : DS w0 a b gm gl B4 v4 ring ok v6 s w) {c : S24} {n : Int} (hn : ¬ (mget s.1 c).isSome = true) (hc : insS a c = true) (hg : w.grownBy w' (some gm))
    (hm : MapG Try.prog 24 valS w' gm (s.1.length + 1) (fun q => if q = c then some (Value.int .i64 n) else mgv s.1 q)) : DS w0 a b gm gl B4 v4 ring ok v6 (s.1 ++ [(c, n)], s.2) w' :=
  ⟨h.inv.put hn hc, by rw [mgv_snoc _ _ _ hn, List.length_append]; exact hm, R_past_map h.old h.map hg, R_past_map h.new h.map hg,
    blk_grown h.box hg (fun he => by injection he with he; exact h.map.ne h.box he.symm), h.made.grown hg h.size (fun k hk => by injection hk with hk; subst hk; exact h.gml), h.gml, Nat.le_trans h.lim hg.size⟩
theorem DS.app (h : DS w0 a b gm gl B4 v4 ring ok v6 s w) {c : S24} {v6' : Value} (hs : s.2.length + 1 ≤ s.1.length) (hc : insS a c = true) (hg : w.grownBy w' v6.ownBlock) (hb : Below w0.heap.size w0 w')
    (ho : Kd.R k24 24 w' w0.heap.size (fun k => B4 ≤ k ∧ ok k) v6' (s.2 ++ [c])) : DS w0 a b gm gl B4 v4 ring ok v6' (s.1, s.2 ++ [c]) w' :=
  ⟨⟨h.inv.1, by simp only [List.length_append, List.length_cons, List.length_nil]; exact hs, fun x hx => by
      rcases List.mem_append.1 hx with hx | hx
      · exact h.inv.2.2 x hx
      · simp only [List.mem_singleton] at hx; rw [hx]; exact hc⟩,
    h.map.grown hg (R_new_map h.new h.map), Kd.R_grown h.old hg (fun k hk he => by have := (h.new.1 k he.symm).1; omega), ho,
    blk_grown h.box hg (Kd.R_ne h.new h.box (by decide)), hb, h.gml, Nat.le_trans h.lim hg.size⟩
end

end Go.Proofs.Ytibmehephlngfaa.Q
