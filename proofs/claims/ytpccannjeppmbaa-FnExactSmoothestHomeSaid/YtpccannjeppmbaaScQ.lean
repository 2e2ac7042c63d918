/- For the walk of spec.l05Costs: what its calls answer, the frame of its loops and how a step keeps it. -/
import Derived.Test.YtpccannjeppmbaaQ0
import Derived.Test.YtpccannjeppmbaaQ2
import Derived.Test.YtpccannjeppmbaaQ11
import Derived.Test.YtpccannjeppmbaaScP
namespace Go.Proofs.Ytpccannjeppmbaa.Q
open Go.RowKit Go.Proofs.YtpccannjeppmbaaW.PrintWords Go.Proofs.YtpccannjeppmbaaW.PrintLast Go.Proofs.YtpccannjeppmbaaW.PrintMore
set_option linter.unusedVariables false
set_option linter.unusedSimpArgs false

/-! ### what the calls answer -/
theorem cw64 {x : Int} (h : -9223372036854775808 ≤ x ∧ x ≤ 9223372036854775807) : wrap64 x = x := by unfold wrap64; omega
theorem cin_eq (x lo hi : Int) : spec_l00In.f x lo hi = some (decide (lo ≤ x ∧ x ≤ hi)) := by
  unfold spec_l00In.f
  by_cases h : x ≥ lo
  · rw [if_pos h]; have : lo ≤ x := h; simp [this]
  · rw [if_neg h]; have : ¬ lo ≤ x := h; simp [this]
theorem cins_eq {a : Int} (ha : 1 ≤ a ∧ a ≤ 3) (x y z : Int) : spec_l05Inside.f a x y z = some (insS a ⟨x, y, z⟩) := by
  unfold spec_l05Inside.f insS
  simp only [cin_eq, Option.bind_some]
  rw [cw64 (x := -a) (by omega)]
  by_cases h1 : -40 ≤ x ∧ x ≤ 40 <;> by_cases h2 : -10 ≤ y ∧ y ≤ 10 <;> simp [h1, h2]
theorem cspot_eq {a : Int} (ha : 1 ≤ a ∧ a ≤ 3) {x y z : Int} (h : insS a ⟨x, y, z⟩ = true) : spec_l05Spot.f x y z = some (spotZ ⟨x, y, z⟩) := by
  obtain ⟨h1, h2, h3⟩ := insS_iff.1 h
  simp only at h1 h2 h3
  unfold spec_l05Spot.f spotZ
  rw [cw64 (x := x + 40) (by omega), cw64 (x := (x + 40) * 21) (by omega), cw64 (x := (x + 40) * 21 + y) (by omega), cw64 (x := (x + 40) * 21 + y + 10) (by omega), cw64 (x := ((x + 40) * 21 + y + 10) * 7) (by omega), cw64 (x := ((x + 40) * 21 + y + 10) * 7 + z) (by omega), cw64 (by omega)]

section
variable {P : Program} {ops : Array Oper} {rest : List Oper} {o : Oper} {a : Act} {Q : Exit → Act → World → Prop} {W : World}
theorem gen_box {l : List Oper} {cs : Array Value} {t : TypeId} (h : ∀ w1 : World, w1.heap[W.heap.size]? = some (.cells cs t (0, 0)) → Below W.heap.size W w1 → wpList P ops Q l a w1) : wpList P ops Q l a (W.alloc (.cells cs t (0, 0))) :=
  h _ (blk_new W _) (below_alloc (Below.refl _ _) _)
end

theorem FK_tab {W : World} {base n c : Nat} {ok : Nat → Prop} {A : Option Addr} {l : List Int} (h : Kd.R (Kd.int .i64) 2 W base ok (.slice A n c) l) : Kd.FK (Kd.slice 2 (Kd.int .i64)) W ok l [.slice A n c] := by
  obtain ⟨rfl, hle, _⟩ := Kd.R_reads' h
  exact Kd.FK_slice_mk hle (Kd.R_F h)
theorem at_LL {w : World} {A : Option Addr} {n : Nat} {xs : List (List Int)} (h : Kd.C (Kd.slice 2 (Kd.int .i64)) w A n xs) (i : Int) (h0 : 0 ≤ i) (h1 : i < n) : ∃ ad A0 c0, A = some ad ∧ w.cell? (ad.add i.toNat) = some (.slice A0 (rdL xs i).length c0) ∧ (Kd.int .i64).C w A0 (rdL xs i).length (rdL xs i) := by
  obtain ⟨ad, c, e, _, hK, hc0⟩ := Kd.C_get h ([] : List Int) i h0 h1
  have hc : ∀ j u, c[j]? = some u → w.cell? (ad.add (i.toNat * 1 + j)) = some u := hc0
  obtain ⟨A0, c0, rfl, l0, g0⟩ := hK
  exact ⟨ad, A0, c0, e, by have hq := hc 0 _ rfl; rwa [Nat.mul_one, Nat.add_zero] at hq, g0⟩
theorem zlen : (zerosC.length : Int) = 11907 := by unfold zerosC; rw [List.length_replicate]; rfl
theorem info26 : (Try.prog.info? 26).map (fun i => (i.zero, i.size, i.bytes)) = some (some (.slice none 0 0), 1, 24) := by kernel_rfl
theorem info31' : (Try.prog.info? 31).map (fun i => (i.zero, i.size, i.bytes)) = some (some (.agg #[(.int .i64 0), (.int .i64 0), (.int .i64 0)]), 3, 24) := by kernel_rfl

/-! ### the frame -/
structure CO (w0 : World) (a b : Int) (gl B4 : Nat) (v7 v8 : Value) (outs : List (List Int)) (nows : List S31) (w : World) : Prop where
  out : Kd.N (Kd.slice 2 (Kd.int .i64)) 26 w w0.heap.size (fun k => w0.heap.size ≤ k ∧ k < B4) v7 outs
  now : Kd.R k31 31 w w0.heap.size (fun k => k < B4) v8 nows
  box : w.heap[gl]? = some (.cells #[.int .i64 a, .int .i64 b] 29 (0, 0))
  made : Below w0.heap.size w0 w
  glb : gl < B4
  lim : B4 ≤ w.heap.size
structure CI (w0 : World) (a b : Int) (gl B4 : Nat) (v7 v8 v10 v11 : Value) (outs : List (List Int)) (nows : List S31) (ok : Nat → Prop) (s : CB) (w : World) : Prop where
  co : CO w0 a b gl B4 v7 v8 outs nows w
  tab : Kd.R (Kd.int .i64) 2 w w0.heap.size (fun k => B4 ≤ k) v10 s.1
  nxt : Kd.R k31 31 w w0.heap.size (fun k => B4 ≤ k ∧ ok k) v11 s.2
section
variable {w0 w w' : World} {a b : Int} {gl B4 : Nat} {v7 v8 v10 v11 v' : Value} {outs : List (List Int)} {nows : List S31} {ok ok' : Nat → Prop} {s : CB}
theorem CO.size (h : CO w0 a b gl B4 v7 v8 outs nows w) : w0.heap.size ≤ w.heap.size := h.made.size
theorem CO.below (h : CO w0 a b gl B4 v7 v8 outs nows w) (hb : Below w.heap.size w w') : CO w0 a b gl B4 v7 v8 outs nows w' :=
  ⟨Kd.N_below h.out hb, Kd.R_below h.now hb, blk_below h.box hb, below_step h.made hb, h.glb, Nat.le_trans h.lim hb.size⟩
theorem CI.size (h : CI w0 a b gl B4 v7 v8 v10 v11 outs nows ok s w) : w0.heap.size ≤ w.heap.size := h.co.made.size
theorem CI.below (h : CI w0 a b gl B4 v7 v8 v10 v11 outs nows ok s w) (hb : Below w.heap.size w w') : CI w0 a b gl B4 v7 v8 v10 v11 outs nows ok s w' :=
  ⟨h.co.below hb, Kd.R_below h.tab hb, Kd.R_below h.nxt hb⟩
theorem CI.elder (h : CI w0 a b gl B4 v7 v8 v10 v11 outs nows ok s w) (g : Nat) (hg : w.heap.size ≤ g) : CI w0 a b gl B4 v7 v8 v10 v11 outs nows (fun k => ok k ∧ k ≠ g) s w :=
  ⟨h.co, h.tab, Kd.R_mono (Kd.R_bound h.nxt) (fun k hk => ⟨hk.1.1, hk.1.2, by have := hk.2.2.1; omega⟩)⟩
theorem CI.mono (h : CI w0 a b gl B4 v7 v8 v10 v11 outs nows ok s w) (hm : ∀ k, ok k → ok' k) : CI w0 a b gl B4 v7 v8 v10 v11 outs nows ok' s w :=
  ⟨h.co, h.tab, Kd.R_mono h.nxt (fun k hk => ⟨hk.1, hm k hk.2⟩)⟩
theorem N_keepLow {e base lo B4 : Nat} {w w' : World} {v : Value} {xs : List (List Int)} {row : Option Nat} (h : Kd.N (Kd.slice 2 (Kd.int .i64)) e w base (fun k => lo ≤ k ∧ k < B4) v xs) (hg : w.grownBy w' row) (hr : ∀ k, row = some k → B4 ≤ k) : Kd.N (Kd.slice 2 (Kd.int .i64)) e w' base (fun k => lo ≤ k ∧ k < B4) v xs :=
  Kd.N_grown h hg (fun k hk he => by have := hr k he.symm; omega)
theorem R_keepLow {α : Type} {d : Kd α} {e base B4 : Nat} {w w' : World} {v : Value} {xs : List α} {row : Option Nat} (h : d.R e w base (fun k => k < B4) v xs) (hg : w.grownBy w' row) (hr : ∀ k, row = some k → B4 ≤ k) : d.R e w' base (fun k => k < B4) v xs :=
  Kd.R_grown h hg (fun k hk he => by have := hr k he.symm; omega)
theorem CO.grown (h : CO w0 a b gl B4 v7 v8 outs nows w) {row : Option Nat} (hg : w.grownBy w' row) (hr : ∀ k, row = some k → B4 ≤ k) (hb : Below w0.heap.size w0 w') : CO w0 a b gl B4 v7 v8 outs nows w' :=
  ⟨N_keepLow h.out hg hr, R_keepLow h.now hg hr, blk_grown h.box hg (fun he => by have := hr gl he.symm; have := h.glb; omega), hb, h.glb, Nat.le_trans h.lim hg.size⟩
/-- A course is put behind the next ones. -/
theorem CI.app (h : CI w0 a b gl B4 v7 v8 v10 v11 outs nows ok s w) {p : S31} (hg : w.grownBy w' v11.ownBlock) (hb : Below w0.heap.size w0 w') (ho : Kd.R k31 31 w' w0.heap.size (fun k => B4 ≤ k ∧ ok k) v' (s.2 ++ [p])) :
    CI w0 a b gl B4 v7 v8 v10 v' outs nows ok (s.1, s.2 ++ [p]) w' :=
  ⟨h.co.grown hg (fun k hk => (h.nxt.1 k hk).1) hb, Kd.R_mono (Kd.R_grown (Kd.R_apart' h.tab (Kd.R_typed h.nxt) (by decide)) hg (fun k hk => hk.2)) (fun k hk => hk.1), ho⟩
/-- A cell of the table is written. -/
theorem CI.put {gT n cap : Nat} (h : CI w0 a b gl B4 v7 v8 (.slice (some ⟨gT, 0, none⟩) n cap) v11 outs nows ok s w) (i x : Int) (hB : w0.heap.size ≤ gT) :
    CI w0 a b gl B4 v7 v8 (.slice (some ⟨gT, 0, none⟩) n cap) v11 outs nows ok (s.1.set i.toNat x, s.2) (w.setCell ⟨gT, i.toNat, none⟩ (.int .i64 x)) := by
  obtain ⟨hr, hg⟩ := Kd.R_putg h.tab i x
  have hlow : ∀ k, some gT = some k → B4 ≤ k := fun k hk => h.tab.1 k (by rw [← hk]; rfl)
  refine ⟨h.co.grown hg hlow (below_set h.co.made hB), hr, Kd.R_mono (Kd.R_grown (Kd.R_apart' h.nxt (Kd.R_typed h.tab) (by decide)) hg (fun k hk => hk.2)) (fun k hk => hk.1)⟩
/-- A round begins: the bound is the world's size. -/
theorem CO.top (h : CO w0 a b gl B4 v7 v8 outs nows w) : CO w0 a b gl w.heap.size v7 v8 outs nows w :=
  ⟨Kd.N_mono h.out (fun k hk => ⟨hk.1, by have := h.lim; have := hk.2; omega⟩), Kd.R_mono h.now (fun k hk => by have := h.lim; omega), h.box, h.made, by have := h.lim; have := h.glb; omega, Nat.le_refl _⟩
/-- The table is put behind the others. -/
theorem CI.next (h : CI w0 a b gl B4 v7 v8 v10 v11 outs nows ok s w) (hg : w.grownBy w' v7.ownBlock) (hb : Below w0.heap.size w0 w') (ho : Kd.N (Kd.slice 2 (Kd.int .i64)) 26 w' w0.heap.size (fun k => w0.heap.size ≤ k) v' (outs ++ [s.1])) :
    CO w0 a b gl w'.heap.size v' v11 (outs ++ [s.1]) s.2 w' :=
  ⟨Kd.N_mono (Kd.N_bound ho) (fun k hk => hk), Kd.R_mono (Kd.R_bound (Kd.R_grown (Kd.R_apart' h.nxt (Kd.N_typed h.co.out) (by decide)) hg (fun k hk => hk.2))) (fun k hk => hk.2.2.1),
    blk_grown h.co.box hg (Kd.N_ne h.co.out h.co.box (by decide)), hb, by have := h.co.glb; have := h.co.lim; have := hg.size; omega, Nat.le_refl _⟩
end

end Go.Proofs.Ytpccannjeppmbaa.Q
