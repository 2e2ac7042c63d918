/- More laws on the frame of impl.smooth: the look-ups, what is written last, what is handed back. -/
import Derived.Test.YtpccannjeppmbaaSmW0
namespace Go.Proofs.Ytpccannjeppmbaa.Q
open Go.RowKit Go.Maps Go.Proofs.YtpccannjeppmbaaW.PrintWords Go.Proofs.YtpccannjeppmbaaW.PrintLast Go.Proofs.YtpccannjeppmbaaW.PrintMore
set_option linter.unusedVariables false
set_option linter.unusedSimpArgs false

section
variable {P : Program} {ops : Array Oper} {a : Act} {Q : Exit → Act → World → Prop} {W : World}
theorem gen_alloc2 {l : List Oper} {cs cs' : Array Value} {t t' : TypeId} (h : ∀ w1 : World, w1.heap[W.heap.size + 1]? = some (.cells cs' t' (0, 0)) → Below W.heap.size W w1 → wpList P ops Q l a w1) : wpList P ops Q l a ((W.alloc (.cells cs t (0, 0))).alloc (.cells cs' t' (0, 0))) :=
  h _ (by have := blk_new (W.alloc (.cells cs t (0, 0))) (.cells cs' t' (0, 0)); simpa using this) (below_alloc (below_alloc (Below.refl _ _) _) _)
end
theorem mapv (o : Option Nat) : (o.map (fun g => Value.map (some g))).getD (.map none) = .map o := by cases o <;> rfl
def zero44 : Value := .agg #[.int .i64 0, .slice none 0 0, .bool false]
theorem zeroOf44 (w : World) : (zeroValue 44).run Try.prog w = .ok zero44 w := by rfl
theorem zeroOf52 (w : World) : (zeroValue 52).run Try.prog w = .ok (.map none) w := by rfl
/-- The look-up of a plan that is not known, with or without a table for the course. -/
theorem Memo.miss {a b : Int} {B gm n : Nat} {G : S31 → Option Nat} {H : S31 → Int → Option Value} {w : World} (h : Memo a b B gm n G H w) {c : S31} {k : Int} (hk : 1 ≤ k ∧ k ≤ 8) (hmiss : ∀ g, G c = some g → H c k = none) :
    (Instr.lookup 52 (.map (G c)) (valI k) true).run Try.prog w = .ok (.tuple #[zero44, .bool false]) w := by
  obtain ⟨kl, hkl⟩ := keyI k (wf64 (by omega))
  cases hG : G c with
  | none => exact Maps.look_nil true keyedI Try.underlying52 (zeroOf44 w) hkl
  | some g =>
    have := (h.inn c g hG).2.look (z := zero44) true keyedI Try.underlying52 (zeroOf44 w) hkl
    rw [hmiss g hG] at this
    exact this
section
variable {w0 w wr w' : World} {a b : Int} {c : S31} {gl gc g8 g11 : Nat} {s s' : Pl} {v11 v' : Value} {n m gm gb : Nat} {P : Program} {k : TypeId} {α : Type} {enc : α → Value} {F : α → Option Value}
/-- A map of the call's own is written. -/
theorem SS.grownM (h : SS w0 w a b c gl gc g8 g11 gm n s v11 wr) {q : Nat} (hm : MapG P k enc wr gb q F) (hB : w0.heap.size ≤ gb) (hg : wr.grownBy w' (some gb)) (hE : MemoE a b w0.heap.size gm m w') : SS w0 w a b c gl gc g8 g11 gm m s v11 w' :=
  h.call (keptM_grown hm hg) (h.fr.made.grown hg h.fr.big (fun k hk => by injection hk with hk; subst hk; exact hB)) hE
theorem SS.mono (h : SS w0 w a b c gl gc g8 g11 gm n s v11 wr) (hn : n ≤ m) : SS w0 w a b c gl gc g8 g11 gm m s v11 wr := by
  obtain ⟨G, H, hm⟩ := h.memo
  exact ⟨h.fr, ⟨G, H, hm.mono hn⟩, h.b11, h.out, h.up⟩
/-- A row lives on where the best plan is written anew. -/
theorem SS.farR (h : SS w0 w a b c gl gc g8 g11 gm n s v11 wr) {v : Value} {xs : List Int} (hr : Kd.R (Kd.int .i64) 2 wr w0.heap.size (fun _ => True) v xs) (x y z : Value) : Kd.R (Kd.int .i64) 2 (((wr.setCell ⟨g11, 0, none⟩ x).setCell ⟨g11, 1, none⟩ y).setCell ⟨g11, 2, none⟩ z) w0.heap.size (fun _ => True) v xs := by
  have b1 := blk_put h.b11 0 x rfl
  have b2 := blk_put b1 1 y rfl
  have far : ∀ {W : World} {cs : Array Value} {i : Nat} {u : Value}, W.heap[g11]? = some (.cells cs 44 (0, 0)) → Kd.R (Kd.int .i64) 2 W w0.heap.size (fun _ => True) v xs → Kd.R (Kd.int .i64) 2 (W.setCell ⟨g11, i, none⟩ u) w0.heap.size (fun _ => True) v xs :=
    fun hb hr => Kd.R_mono (Kd.R_far (p := ⟨g11, _, none⟩) (Kd.R_types hr hb (by decide)) (fun _ hk => hk.2) _) (fun _ _ => trivial)
  exact far b2 (far b1 (far h.b11 hr))
/-- What is handed back. -/
theorem SS.ret (h : SS w0 w a b c gl gc g8 g11 gm n s v11 wr) : ∃ W8, W8 = (((wr.setCell ⟨g8, 0, none⟩ (.int .i64 s.1)).setCell ⟨g8, 1, none⟩ v11).setCell ⟨g8, 2, none⟩ (.bool s.2.2)) ∧
    MemoE a b w0.heap.size gm n W8 ∧ Kd.R (Kd.int .i64) 2 W8 w0.heap.size (fun _ => True) v11 s.2.1 ∧ Kept w W8 (isMap w) ∧ Below w0.heap.size w0 W8 ∧ W8.heap[g8]? = some (.cells #[.int .i64 s.1, v11, .bool s.2.2] 44 (0, 0)) := by
  obtain ⟨G, H, hm⟩ := h.memo
  have b1 := blk_put h.fr.b8 0 (.int .i64 s.1) rfl
  have b2 := blk_put b1 1 v11 rfl
  have b3 := blk_put b2 2 (.bool s.2.2) rfl
  have far : ∀ {W : World} {cs : Array Value} {i : Nat} {u : Value}, W.heap[g8]? = some (.cells cs 44 (0, 0)) → Kd.R (Kd.int .i64) 2 W w0.heap.size (fun _ => True) v11 s.2.1 → Kd.R (Kd.int .i64) 2 (W.setCell ⟨g8, i, none⟩ u) w0.heap.size (fun _ => True) v11 s.2.1 :=
    fun hb hr => Kd.R_mono (Kd.R_far (p := ⟨g8, _, none⟩) (Kd.R_types hr hb (by decide)) (fun _ hk => hk.2) _) (fun _ _ => trivial)
  have hw := h.fr.low
  have hB : w0.heap.size ≤ g8 := Nat.le_trans h.fr.size hw
  exact ⟨_, rfl, ⟨G, H, ((hm.far h.fr.b8 (by decide) _).far b1 (by decide) _).far b2 (by decide) _⟩, far b2 (far b1 (far h.fr.b8 h.out)), Kept.far (Kept.far (Kept.far h.fr.kept hw _) hw _) hw _, below_set (below_set (below_set h.fr.made hB) hB) hB, b3⟩
end
/-- What impl.smooth hands back for a plan s. -/
def SmPost (w0 : World) (a b : Int) (gm n : Nat) (s : Pl) (w : World) (e : Ending) (w' : World) : Prop :=
  ∃ A cp, e = .returned (.agg #[.int .i64 s.1, .slice A s.2.1.length cp, .bool s.2.2]) ∧ Kd.R (Kd.int .i64) 2 w' w0.heap.size (fun _ => True) (.slice A s.2.1.length cp) s.2.1 ∧ (∃ m, m ≤ n ∧ MemoE a b w0.heap.size gm m w') ∧ Kept w w' (isMap w) ∧ Below w0.heap.size w0 w'

end Go.Proofs.Ytpccannjeppmbaa.Q
