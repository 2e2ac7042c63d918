/- For the walk of impl.smooth: what its calls answer, its table (a map of maps with plans), the frame of one call, and how a step keeps them. -/
import Derived.Test.YtpccannjeppmbaaQ0
import Derived.Test.YtpccannjeppmbaaQ1
import Derived.Test.YtpccannjeppmbaaQ5
import Derived.Test.YtpccannjeppmbaaQ7
import Derived.Test.YtpccannjeppmbaaSmK
import Derived.Maps.OwnSet
import Derived.WalkSpells
namespace Go.Proofs.Ytpccannjeppmbaa.Q
open Go.RowKit Go.Maps Go.Proofs.YtpccannjeppmbaaW.PrintWords Go.Proofs.YtpccannjeppmbaaW.PrintLast Go.Proofs.YtpccannjeppmbaaW.PrintMore
set_option linter.unusedVariables false
set_option linter.unusedSimpArgs false

/-! ### what the calls answer -/
theorem dw64 {x : Int} (h : -9223372036854775808 ≤ x ∧ x ≤ 9223372036854775807) : wrap64 x = x := by unfold wrap64; omega
theorem dwithin (a lo hi : Int) : impl_within.f a lo hi = some (decide (lo ≤ a ∧ a ≤ hi)) := by
  unfold impl_within.f
  by_cases h : lo ≤ a
  · rw [if_pos h]; simp [h]
  · rw [if_neg h]; simp [h]
theorem dcourse {a : Int} (ha : 1 ≤ a ∧ a ≤ 3) (b x y z : Int) : impl_Limits_isCourse.f a b x y z = some (insS a ⟨x, y, z⟩) := by
  unfold impl_Limits_isCourse.f insS
  simp only [dwithin, Option.bind_some]
  rw [dw64 (x := -a) (by omega)]
  by_cases h1 : -40 ≤ x ∧ x ≤ 40 <;> by_cases h2 : -10 ≤ y ∧ y ≤ 10 <;> simp [h1, h2]
theorem dnextTo {a b : Int} (ha : 1 ≤ a ∧ a ≤ 3) (hb : 1 ≤ b ∧ b ≤ 6) {c : S31} (hc : insS a c = true) {u : Int} (hu : -a ≤ u ∧ u ≤ a) (k : Nat) :
    impl_Limits_next.f (k + 1) a b c.f0 c.f1 c.f2 u = some (if okTo a b c u = true then ((stepTo c u).f0, (stepTo c u).f1, (stepTo c u).f2, true) else (0, 0, 0, false)) := by
  obtain ⟨h0, h1, h2⟩ := insS_iff.1 hc
  unfold impl_Limits_next.f impl_Limits_next.j0 impl_abs.f okTo
  simp only [dwithin, Option.bind_some]
  rw [dw64 (x := -a) (by omega), dw64 (x := u - c.f2) (by omega), dw64 (x := -(u - c.f2)) (by omega), dw64 (x := c.f0 + c.f1) (by omega), dw64 (x := c.f1 + u) (by omega), dcourse ha, decide_eq_true hu, if_pos rfl]
  by_cases hq : -b ≤ u - c.f2 ∧ u - c.f2 ≤ b
  · have : decide (mx (u - c.f2) (-(u - c.f2)) > b) = false := decide_eq_false (by unfold mx; split <;> omega)
    rw [this, decide_eq_true hq, Bool.true_and]
    have hst : (⟨c.f0 + c.f1, c.f1 + u, u⟩ : S31) = stepTo c u := rfl
    rw [hst]
    cases insS a (stepTo c u) <;> rfl
  · have : decide (mx (u - c.f2) (-(u - c.f2)) > b) = true := decide_eq_true (by unfold mx; split <;> omega)
    rw [this, decide_eq_false hq, Bool.false_and]
    rfl
theorem dturns0 {a b : Int} (ha : 1 ≤ a ∧ a ≤ 3) (hb : 1 ≤ b ∧ b ≤ 6) {c : S31} (hc : insS a c = true) : ∀ (d : Nat) (u : Int) (pre : List Int), -a ≤ u → u + d = a + 1 → pre.length + d ≤ 100 → ∀ k, d + 1 < k → impl_Limits_turns.l0 k pre u a b c.f0 c.f1 c.f2 = some (pre ++ turnsG a b c d u)
  | 0, u, pre, h0, h1, hp, k, hk => by
    obtain ⟨k, rfl⟩ : ∃ m, k = m + 1 := ⟨k - 1, by omega⟩
    rw [impl_Limits_turns.l0, if_neg (by omega)]
    simp [turnsG]
  | d + 1, u, pre, h0, h1, hp, k, hk => by
    obtain ⟨k, rfl⟩ : ∃ m, k = m + 2 := ⟨k - 2, by omega⟩
    rw [impl_Limits_turns.l0, if_pos (by omega), dnextTo ha hb hc ⟨h0, by omega⟩, Option.bind_some, dw64 (x := u + 1) (by omega)]
    unfold turnsG
    by_cases hk2 : okTo a b c u = true
    · rw [if_pos hk2, if_pos rfl, if_pos (by omega), if_pos hk2]
      rw [dturns0 ha hb hc d (u + 1) (pre ++ [u]) (by omega) (by omega) (by simp; omega) (k + 1) (by omega)]
      simp
    · rw [if_neg hk2, if_neg hk2, if_neg (by simp)]
      exact dturns0 ha hb hc d (u + 1) pre (by omega) (by omega) (by omega) (k + 1) (by omega)
theorem dturns {a b : Int} (ha : 1 ≤ a ∧ a ≤ 3) (hb : 1 ≤ b ∧ b ≤ 6) {c : S31} (hc : insS a c = true) (k : Nat) (hk : 20 ≤ k) : impl_Limits_turns.f k a b c.f0 c.f1 c.f2 = some (turnsP a b c) := by
  unfold impl_Limits_turns.f
  rw [dw64 (x := -a) (by omega)]
  exact dturns0 ha hb hc (2 * a + 1).toNat (-a) [] (by omega) (by omega) (by simp; omega) k (by omega)

/-! ### operations that the words lack -/
section
variable {P : Program} {ops : Array Oper} {rest : List Oper} {o : Oper} {a : Act} {Q : Exit → Act → World → Prop} {W : World}
theorem gate_upd {t : TypeId} {m y v : Operand} (_ho : o.op = Op.mapUpdate t m y v) (h : wpList P ops Q (o :: rest) a W) : wpList P ops Q (o :: rest) a W := h
theorem gen_alloc {l : List Oper} {cs : Array Value} {t : TypeId} (h : ∀ w1 : World, w1.heap[W.heap.size]? = some (.cells cs t (0, 0)) → Below W.heap.size W w1 → wpList P ops Q l a w1) : wpList P ops Q l a (W.alloc (.cells cs t (0, 0))) :=
  h _ (blk_new W _) (below_alloc (Below.refl _ _) _)
variable {α : Type} {k : TypeId} {enc : α → Value} {t e : TypeId} {z : Value} {x : α} {kl : Lit}
/-- An empty map is made at the operation. -/
theorem wpList_map (k : TypeId) (enc : α → Value) (hg : o.guard = none) (hop : o.op = Op.makeMap t none)
    (hK : ∀ g, g = W.heap.size → ∀ w', MapG P k enc w' g 0 (fun _ => none) → Below W.heap.size W w' → wpList P ops Q rest (a.put o.dst (.map (some g))) w') : wpList P ops Q (o :: rest) a W := by
  refine wpList_plain hg fun K' hK' => ?_
  have hrun : (Instr.makeMap t none).run P W = .ok (.map (some W.heap.size)) (W.alloc (.map #[] 0)) := rfl
  unfold Oper.wp
  simp [execOp, hop, hrun, Result.andThen]
  exact hK' _ _ (hK _ rfl _ (MapG.made W P k enc) (below_alloc (Below.refl _ _) _))
/-- The look-up in no map. -/
theorem wpList_look0 (enc : α → Value) (x : α) (c : Bool) (hg : o.guard = none) (m y : Operand) (hop : o.op = Op.lookup t m y c) (K : Keyed P k) (ht : P.underlying t = some (.map k e)) (hz : (zeroValue e).run P W = .ok z W)
    (hm : a.eval m = .map none) (hx : a.eval y = enc x) (hkey : keyOf P k (enc x) = some kl)
    (hK : wpList P ops Q rest (a.put o.dst (if c then .tuple #[z, .bool false] else z)) W) : wpList P ops Q (o :: rest) a W := by
  refine wpList_plain hg fun K' hK' => ?_
  have hrun := Maps.look_nil (w := W) c K ht hz hkey
  unfold Oper.wp
  simp [execOp, hop, hm, hx, hrun, Result.andThen]
  exact hK' _ _ hK
variable {Kc : Act → World → Prop} {b n : Nat} {G : α → Option Value}
/-- A look-up as one step of a region that draws its order. -/
theorem look_ {oi : Oper} {N : Option Tmp} (c : Bool) (hw : Region.wanted oi (yielded ops a.tmps) = true) (hN : oi.dst = N) (m y : Operand) (hop : oi.op = Op.lookup t m y c) (K : Keyed P k) (ht : P.underlying t = some (.map k e)) (hz : (zeroValue e).run P W = .ok z W)
    (hm : a.eval m = .map (some b)) (h : MapG P k enc W b n G) (hx : a.eval y = enc x) (hkey : keyOf P k (enc x) = some kl)
    (hK : Kc (a.put N (if c then .tuple #[(G x).getD z, .bool (G x).isSome] else (G x).getD z)) W) : if Region.wanted oi (yielded ops a.tmps) = true then Oper.wp P oi a W Kc Q else Kc (a.put N undef) W := by
  have hrun := h.look c K ht hz hkey
  refine value_ hw hN ?_ hK
  unfold execOp
  simp [hop, hm, hx, hrun]
variable [DecidableEq α]
/-- A store into a map as one step of a region that draws its order. -/
theorem put_ {oi : Oper} (hw : Region.wanted oi (yielded ops a.tmps) = true) (hN : oi.dst = none) (m y v : Operand) (hop : oi.op = Op.mapUpdate t m y v) (K : Keyed P k) (hinj : ∀ x y, enc x = enc y → x = y) (ht : P.underlying t = some (.map k e)) (hn : n < maxLen)
    (hm : a.eval m = .map (some b)) (h : MapG P k enc W b n G) (hx : a.eval y = enc x) (hkey : keyOf P k (enc x) = some kl)
    (hK : ∀ w', MapG P k enc w' b (n + 1) (fun q => if q = x then some (a.eval v) else G q) → W.grownBy w' (some b) → Kc a w') : if Region.wanted oi (yielded ops a.tmps) = true then Oper.wp P oi a W Kc Q else Kc (a.put none undef) W := by
  obtain ⟨w', hrun, h', hgr⟩ := h.update K hinj ht hn hkey (a.eval v)
  refine skip_ hw hN (w1 := w') ?_ (hK w' h' hgr)
  unfold execOp
  simp [hop, hm, hx, hrun]
end

/-! ### what a call keeps: all blocks but those of maps -/
def isMap (w : World) (g : Nat) : Prop := ∃ es cl, w.heap[g]? = some (.map es cl)
theorem keptM_trans {w w1 w2 : World} (h : Kept w w1 (isMap w)) (k : Kept w1 w2 (isMap w1)) : Kept w w2 (isMap w) :=
  h.then_ k (fun g hg => by
    by_cases hlt : g < w.heap.size
    · left
      by_cases hm : isMap w g
      · exact hm
      · unfold isMap at hg
        rw [h.2 g hlt hm] at hg
        exact hg
    · right; omega)
theorem blk_keptM {w w1 : World} {g : Nat} {cs : Array Value} {t : TypeId} {fr : Nat × Nat} (hb : w.heap[g]? = some (.cells cs t fr)) (hk : Kept w w1 (isMap w)) : w1.heap[g]? = some (.cells cs t fr) :=
  blk_kept hb hk (by rintro ⟨es, cl, h⟩; rw [hb] at h; cases h)
theorem R_keptM {α : Type} {d : Kd α} {e base : Nat} {ok : Nat → Prop} {w w1 : World} {v : Value} {xs : List α} (h : d.R e w base ok v xs) (hk : Kept w w1 (isMap w)) : d.R e w1 base ok v xs :=
  Kd.R_mono (Kd.R_kept (Kd.R_bound h) hk (fun k hk' => by
    obtain ⟨_, _, _, _, _, cells, hc⟩ := hk'
    rintro ⟨es, cl, hm⟩
    rw [hc] at hm
    cases hm)) (fun k hk => hk.1)
theorem Kept.far {w w1 : World} {S : Nat → Prop} (h : Kept w w1 S) {g i : Nat} (hg : w.heap.size ≤ g) (u : Value) : Kept w (w1.setCell ⟨g, i, none⟩ u) S := h.setCell (Or.inr hg) u

theorem MapG.mono {α : Type} {P : Program} {k : TypeId} {enc : α → Value} {w : World} {b n m : Nat} {G : α → Option Value} (h : MapG P k enc w b n G) (hn : n ≤ m) : MapG P k enc w b m G := by
  obtain ⟨D, h, hG⟩ := h
  exact ⟨D, h.mono hn, hG⟩
theorem MapG.cong {α : Type} {P : Program} {k : TypeId} {enc : α → Value} {w : World} {b n : Nat} {G G' : α → Option Value} (h : MapG P k enc w b n G) (he : ∀ x, G x = G' x) : MapG P k enc w b n G' := by
  obtain rfl : G = G' := funext he
  exact h

/-! ### the table -/
/-- A plan as a value: the turns stand in a row of the call's own. -/
def Ans (B : Nat) (w : World) (s : Pl) (v : Value) : Prop := ∃ sl, v = .agg #[.int .i64 s.1, sl, .bool s.2.2] ∧ Kd.R (Kd.int .i64) 2 w B (fun _ => True) sl s.2.1
structure Memo (a b : Int) (B gm n : Nat) (G : S31 → Option Nat) (H : S31 → Int → Option Value) (w : World) : Prop where
  map : MapG Try.prog 31 valS w gm n (fun c => (G c).map (fun g => Value.map (some g)))
  base : B ≤ gm
  inn : ∀ c g, G c = some g → B ≤ g ∧ MapG Try.prog 2 valI w g n (H c)
  ne : ∀ c g, G c = some g → g ≠ gm
  inj : ∀ c d g, G c = some g → G d = some g → c = d
  ans : ∀ c g k v, G c = some g → H c k = some v → Ans B w (smP a b k.toNat c) v
section
variable {a b : Int} {B gm n : Nat} {G : S31 → Option Nat} {H : S31 → Int → Option Value} {w w' : World}
theorem Ans.kept {s : Pl} {v : Value} (h : Ans B w s v) (hk : Kept w w' (isMap w)) : Ans B w' s v := by
  obtain ⟨sl, e, hr⟩ := h
  exact ⟨sl, e, R_keptM hr hk⟩
theorem Ans.far {s : Pl} {v : Value} (h : Ans B w s v) {g i : Nat} {cs : Array Value} {t : TypeId} (hb : w.heap[g]? = some (.cells cs t (0, 0))) (ht : ∀ q, q ∈ 2 :: (Kd.int .i64).E → q ≠ t) (u : Value) : Ans B (w.setCell ⟨g, i, none⟩ u) s v := by
  obtain ⟨sl, e, hr⟩ := h
  exact ⟨sl, e, Kd.R_mono (Kd.R_far (p := ⟨g, i, none⟩) (Kd.R_types hr hb ht) (fun _ hk => hk.2) u) (fun _ _ => trivial)⟩
theorem Memo.mono {m : Nat} (h : Memo a b B gm n G H w) (hm : n ≤ m) : Memo a b B gm m G H w :=
  ⟨h.map.mono hm, h.base, fun c g hc => ⟨(h.inn c g hc).1, (h.inn c g hc).2.mono hm⟩, h.ne, h.inj, h.ans⟩
theorem Memo.below (h : Memo a b B gm n G H w) (hb : Below w.heap.size w w') : Memo a b B gm n G H w' :=
  ⟨h.map.below hb, h.base, fun c g hc => ⟨(h.inn c g hc).1, (h.inn c g hc).2.below hb⟩, h.ne, h.inj, fun c g k v hc hk => (h.ans c g k v hc hk).kept (Kept.of_below hb _)⟩
theorem Memo.far (h : Memo a b B gm n G H w) {g i : Nat} {cs : Array Value} {t : TypeId} (hb : w.heap[g]? = some (.cells cs t (0, 0))) (ht : ∀ q, q ∈ 2 :: (Kd.int .i64).E → q ≠ t) (u : Value) : Memo a b B gm n G H (w.setCell ⟨g, i, none⟩ u) :=
  ⟨h.map.far (h.map.ne hb) u, h.base, fun c x hc => ⟨(h.inn c x hc).1, (h.inn c x hc).2.far ((h.inn c x hc).2.ne hb) u⟩, h.ne, h.inj, fun c x k v hc hk => (h.ans c x k v hc hk).far hb ht u⟩
theorem keptM_grown {gb : Nat} {P : Program} {k : TypeId} {α : Type} {enc : α → Value} {m : Nat} {F : α → Option Value} (hm : MapG P k enc w gb m F) (hg : w.grownBy w' (some gb)) : Kept w w' (isMap w) :=
  Kept.of_grown hg (Kept.refl _ _) (fun k hk => by injection hk with hk; subst hk; exact Or.inl hm.obj)
/-- A new table for a course. -/
theorem Memo.outer (h : Memo a b B gm n G H w) {c : S31} {g : Nat} {w1 : World} (hG : G c = none) (hb : Below w.heap.size w w1) (hgw : w.heap.size ≤ g) (hBw : B ≤ w.heap.size) (hm : MapG Try.prog 2 valI w1 g 0 (fun _ => none))
    (hmap : MapG Try.prog 31 valS w' gm (n + 1) (fun q => if q = c then some (Value.map (some g)) else (G q).map (fun g => Value.map (some g)))) (hgr : w1.grownBy w' (some gm)) :
    Memo a b B gm (n + 1) (fun q => if q = c then some g else G q) (fun q k => if q = c then none else H q k) w' := by
  have hgm : g ≠ gm := by have := h.map.lt; omega
  have h1 := h.below hb
  refine ⟨hmap.cong (fun x => ?_), h.base, ?_, ?_, ?_, ?_⟩
  · by_cases e : x = c
    · rw [if_pos e, if_pos e]; rfl
    · rw [if_neg e, if_neg e]
  · intro d x hd
    by_cases e : d = c
    · rw [if_pos e] at hd
      injection hd with hd
      subst hd
      refine ⟨by omega, MapG.mono (MapG.cong (hm.grown hgr (fun he => hgm (by injection he))) (fun k => ?_)) (Nat.zero_le _)⟩
      rw [if_pos e]
    · rw [if_neg e] at hd
      refine ⟨(h1.inn d x hd).1, MapG.mono (MapG.cong ((h1.inn d x hd).2.grown hgr (fun he => h1.ne d x hd (by injection he))) (fun k => ?_)) (by omega)⟩
      rw [if_neg e]
  · intro d x hd
    by_cases e : d = c
    · rw [if_pos e] at hd
      injection hd with hd
      subst hd; exact hgm
    · rw [if_neg e] at hd
      exact h.ne d x hd
  · intro d d' x hd hd'
    by_cases e : d = c
    · by_cases e' : d' = c
      · rw [e, e']
      · rw [if_pos e] at hd
        rw [if_neg e'] at hd'
        injection hd with hd
        have := (h.inn d' x hd').2.lt
        omega
    · by_cases e' : d' = c
      · rw [if_neg e] at hd
        rw [if_pos e'] at hd'
        injection hd' with hd'
        have := (h.inn d x hd).2.lt
        omega
      · rw [if_neg e] at hd
        rw [if_neg e'] at hd'
        exact h.inj d d' x hd hd'
  · intro d x k v hd hv
    by_cases e : d = c
    · rw [if_pos e] at hv; cases hv
    · rw [if_neg e] at hd hv
      exact (h1.ans d x k v hd hv).kept (keptM_grown h1.map hgr)
/-- A plan is put into a course's table. -/
theorem Memo.inner (h : Memo a b B gm n G H w) {c : S31} {g : Nat} {k : Int} {v : Value} (hG : G c = some g) (hv : Ans B w (smP a b k.toNat c) v)
    (hm : MapG Try.prog 2 valI w' g (n + 1) (fun q => if q = k then some v else H c q)) (hgr : w.grownBy w' (some g)) :
    Memo a b B gm (n + 1) G (fun q j => if q = c then (if j = k then some v else H q j) else H q j) w' := by
  have hk := keptM_grown (h.inn c g hG).2 hgr
  refine ⟨(h.map.grown hgr (fun he => h.ne c g hG (by injection he with he; exact he.symm))).mono (by omega), h.base, ?_, h.ne, h.inj, ?_⟩
  · intro d x hd
    by_cases e : d = c
    · subst e
      rw [hG] at hd
      injection hd with hd
      subst hd
      refine ⟨(h.inn d g hG).1, hm.cong (fun q => ?_)⟩
      rw [if_pos rfl]
    · refine ⟨(h.inn d x hd).1, MapG.mono (MapG.cong ((h.inn d x hd).2.grown hgr (fun he => e (h.inj d c x hd (by injection he with he; rw [he]; exact hG)))) (fun q => ?_)) (by omega)⟩
      rw [if_neg e]
  · intro d x j u hd hu
    by_cases e : d = c
    · rw [if_pos e] at hu
      by_cases ej : j = k
      · rw [if_pos ej] at hu
        injection hu with hu
        subst hu ej e
        exact hv.kept hk
      · rw [if_neg ej] at hu
        exact (h.ans d x j u hd hu).kept hk
    · rw [if_neg e] at hu
      exact (h.ans d x j u hd hu).kept hk
end
def MemoE (a b : Int) (B gm n : Nat) (w : World) : Prop := ∃ G H, Memo a b B gm n G H w

/-! ### the frame of one call -/
structure SF (w0 w : World) (a b : Int) (c : S31) (gl gc g8 : Nat) (wr : World) : Prop where
  bl : wr.heap[gl]? = some (.cells #[.int .i64 a, .int .i64 b] 29 (0, 0))
  bc : wr.heap[gc]? = some (.cells #[.int .i64 c.f0, .int .i64 c.f1, .int .i64 c.f2] 31 (0, 0))
  b8 : wr.heap[g8]? = some (.cells #[.int .i64 0, .slice none 0 0, .bool false] 44 (0, 0))
  kept : Kept w wr (isMap w)
  made : Below w0.heap.size w0 wr
  size : w0.heap.size ≤ w.heap.size
  low : w.heap.size ≤ g8
section
variable {w0 w wr w' : World} {a b : Int} {c : S31} {gl gc g8 g11 : Nat} {s : Pl} {v11 : Value} {n gm : Nat}
theorem SF.big (h : SF w0 w a b c gl gc g8 wr) : w0.heap.size ≤ wr.heap.size := h.made.size
theorem SF.below (h : SF w0 w a b c gl gc g8 wr) (hb : Below wr.heap.size wr w') : SF w0 w a b c gl gc g8 w' :=
  ⟨blk_below h.bl hb, blk_below h.bc hb, blk_below h.b8 hb, h.kept.below hb, below_step h.made hb, h.size, h.low⟩
/-- Behind a call that keeps all but maps. -/
theorem SF.call (h : SF w0 w a b c gl gc g8 wr) (hk : Kept wr w' (isMap wr)) (hb : Below w0.heap.size w0 w') : SF w0 w a b c gl gc g8 w' :=
  ⟨blk_keptM h.bl hk, blk_keptM h.bc hk, blk_keptM h.b8 hk, keptM_trans h.kept hk, hb, h.size, h.low⟩
/-- A cell of a newer block is written. -/
theorem SF.far (h : SF w0 w a b c gl gc g8 wr) {g i : Nat} (hl : gl ≠ g) (hc : gc ≠ g) (h8 : g8 ≠ g) (hw : w.heap.size ≤ g) (u : Value) : SF w0 w a b c gl gc g8 (wr.setCell ⟨g, i, none⟩ u) :=
  ⟨blk_far h.bl hl u, blk_far h.bc hc u, blk_far h.b8 h8 u, Kept.far h.kept hw u, below_set h.made (Nat.le_trans h.size hw), h.size, h.low⟩
end
/-- .. and of its loop: the best plan so far. -/
structure SS (w0 w : World) (a b : Int) (c : S31) (gl gc g8 g11 gm n : Nat) (s : Pl) (v11 : Value) (wr : World) : Prop where
  fr : SF w0 w a b c gl gc g8 wr
  memo : MemoE a b w0.heap.size gm n wr
  b11 : wr.heap[g11]? = some (.cells #[.int .i64 s.1, v11, .bool s.2.2] 44 (0, 0))
  out : Kd.R (Kd.int .i64) 2 wr w0.heap.size (fun _ => True) v11 s.2.1
  up : g8 < g11
section
variable {w0 w wr w' : World} {a b : Int} {c : S31} {gl gc g8 g11 : Nat} {s s' : Pl} {v11 v' : Value} {n m gm : Nat}
theorem SS.below (h : SS w0 w a b c gl gc g8 g11 gm n s v11 wr) (hb : Below wr.heap.size wr w') : SS w0 w a b c gl gc g8 g11 gm n s v11 w' := by
  obtain ⟨G, H, hm⟩ := h.memo
  exact ⟨h.fr.below hb, ⟨G, H, hm.below hb⟩, blk_below h.b11 hb, Kd.R_below h.out hb, h.up⟩
theorem SS.call (h : SS w0 w a b c gl gc g8 g11 gm n s v11 wr) (hk : Kept wr w' (isMap wr)) (hb : Below w0.heap.size w0 w') (hm : MemoE a b w0.heap.size gm m w') : SS w0 w a b c gl gc g8 g11 gm m s v11 w' :=
  ⟨h.fr.call hk hb, hm, blk_keptM h.b11 hk, R_keptM h.out hk, h.up⟩
theorem SS.fresh (h : SS w0 w a b c gl gc g8 g11 gm n s v11 wr) : gl ≠ g11 ∧ gc ≠ g11 ∧ g8 ≠ g11 ∧ w.heap.size ≤ g11 :=
  ⟨blk_ne h.fr.bl h.b11 (by decide), blk_ne h.fr.bc h.b11 (by decide), Nat.ne_of_lt h.up, Nat.le_trans h.fr.low (Nat.le_of_lt h.up)⟩
/-- The best plan is written anew. -/
theorem SS.store (h : SS w0 w a b c gl gc g8 g11 gm n s v11 wr) (ho : Kd.R (Kd.int .i64) 2 wr w0.heap.size (fun _ => True) v' s'.2.1) :
    SS w0 w a b c gl gc g8 g11 gm n s' v' (((wr.setCell ⟨g11, 0, none⟩ (.int .i64 s'.1)).setCell ⟨g11, 1, none⟩ v').setCell ⟨g11, 2, none⟩ (.bool s'.2.2)) := by
  obtain ⟨f1, f2, f3, f4⟩ := h.fresh
  obtain ⟨G, H, hm⟩ := h.memo
  have b1 := blk_put h.b11 0 (.int .i64 s'.1) rfl
  have b2 := blk_put b1 1 v' rfl
  have b3 := blk_put b2 2 (.bool s'.2.2) rfl
  have far : ∀ {W : World} {cs : Array Value} {i : Nat} {u : Value}, W.heap[g11]? = some (.cells cs 44 (0, 0)) → Kd.R (Kd.int .i64) 2 W w0.heap.size (fun _ => True) v' s'.2.1 → Kd.R (Kd.int .i64) 2 (W.setCell ⟨g11, i, none⟩ u) w0.heap.size (fun _ => True) v' s'.2.1 :=
    fun hb hr => Kd.R_mono (Kd.R_far (p := ⟨g11, _, none⟩) (Kd.R_types hr hb (by decide)) (fun _ hk => hk.2) _) (fun _ _ => trivial)
  exact ⟨((h.fr.far f1 f2 f3 f4 _).far f1 f2 f3 f4 _).far f1 f2 f3 f4 _, ⟨G, H, ((hm.far h.b11 (by decide) _).far b1 (by decide) _).far b2 (by decide) _⟩, b3, far b2 (far b1 (far h.b11 ho)), h.up⟩
end

end Go.Proofs.Ytpccannjeppmbaa.Q
