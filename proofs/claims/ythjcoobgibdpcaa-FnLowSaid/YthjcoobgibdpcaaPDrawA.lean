/- Plain lemmas by hand: drawing from a source of bytes always ends, in numbers within bounds. -/
import Derived.Test.YthjcoobgibdpcaaQ0
import Derived.Test.YthjcoobgibdpcaaQ2
import Derived.Test.YthjcoobgibdpcaaPBase
import Derived.Laws.Bits64b
namespace Go.Proofs.Ythjcoobgibdpcaa.Pure
open Go.RowKit Go.Proofs.Ythjcoobgibdpcaa.Q Go.Proofs.YthjcoobgibdpcaaW.PrintWords Go.Proofs.YthjcoobgibdpcaaW.PrintLast
set_option linter.unusedVariables false
set_option linter.unusedSimpArgs false

/-- It ends, in something of which P holds. -/
def Ends {α : Type} (o : Option α) (P : α → Prop) : Prop := ∃ a, o = some a ∧ P a
theorem Ends.bind {α β : Type} {o : Option α} {P : α → Prop} {f : α → Option β} {Q : β → Prop} (h : Ends o P) (g : ∀ a, P a → Ends (f a) Q) : Ends (o.bind f) Q := by
  obtain ⟨a, rfl, ha⟩ := h
  exact g a ha
theorem Ends.some {α : Type} {a : α} {P : α → Prop} (h : P a) : Ends (some a) P := ⟨a, rfl, h⟩
theorem Ends.ite {α : Type} {c : Prop} [Decidable c] {x y : Option α} {P : α → Prop} (h : c → Ends x P) (g : ¬ c → Ends y P) : Ends (if c then x else y) P := by
  by_cases hc : c
  · rw [if_pos hc]; exact h hc
  · rw [if_neg hc]; exact g hc
theorem Ends.mono {α : Type} {o : Option α} {P Q : α → Prop} (h : Ends o P) (g : ∀ a, P a → Q a) : Ends o Q := by
  obtain ⟨a, h1, h2⟩ := h
  exact ⟨a, h1, g a h2⟩

theorem and255 (y : Int) (h0 : 0 ≤ y) (h1 : y < 18446744073709551616) : 0 ≤ Go.bits .and .u64 y 255 ∧ Go.bits .and .u64 y 255 ≤ 255 := by
  have e : Go.bits .and .u64 ((y.toNat : Nat) : Int) ((255 : Nat) : Int) = ((y.toNat &&& 255 : Nat) : Int) := bits_and_u64_nat y.toNat 255 (by omega) (by omega)
  have e1 : ((y.toNat : Nat) : Int) = y := by omega
  rw [e1] at e
  have e2 : ((255 : Nat) : Int) = 255 := rfl
  rw [e2] at e
  rw [e]
  have := @Nat.and_le_right y.toNat 255
  omega
theorem low40 (x : Int) : 0 ≤ wrap64 (Go.bits .and .u64 (IntKind.u64.wrap x / 1099511627776) 255) ∧ wrap64 (Go.bits .and .u64 (IntKind.u64.wrap x / 1099511627776) 255) ≤ 255 := by
  have hw : 0 ≤ IntKind.u64.wrap x ∧ IntKind.u64.wrap x < 18446744073709551616 := by rw [IntKind.wrap_u64]; omega
  have := and255 (IntKind.u64.wrap x / 1099511627776) (by omega) (by omega)
  rw [w64 (by omega)]
  exact this

def Bytes (s : List Int) : Prop := s.length ≤ 1000000 ∧ ∀ z ∈ s, 0 ≤ z ∧ z ≤ 255
theorem bytes_rd {s : List Int} (h : Bytes s) (i : Int) : 0 ≤ rd s i ∧ rd s i ≤ 255 := by
  unfold rd
  by_cases hi : i.toNat < s.length
  · rw [List.getD_eq_getElem?_getD, List.getElem?_eq_getElem hi]
    exact h.2 _ (List.getElem_mem hi)
  · rw [List.getD_eq_getElem?_getD, List.getElem?_eq_none (by omega)]
    simp

theorem next_ends {s : List Int} (hs : Bytes s) (at' seed : Int) (h0 : 0 ≤ at') (h1 : at' ≤ 1000000000) :
    Ends (spec_l00Src_next.f s at' seed) fun r => (0 ≤ r.1 ∧ r.1 ≤ 255) ∧ r.2.1 = at' + 1 := by
  have hw : wrap64 (at' + 1) = at' + 1 := w64 (by omega)
  have hb := bytes_rd hs at'
  have hwb : wrap64 (rd s at') = rd s at' := w64 (by omega)
  unfold spec_l00Src_next.f
  rw [hw]
  refine Ends.ite (fun c => Ends.ite (fun c1 => Ends.ite (fun c2 => Ends.some ⟨?_, rfl⟩) (fun c2 => Ends.some ⟨low40 _, rfl⟩)) (fun c1 => absurd h0 c1)) (fun c => Ends.ite (fun c2 => Ends.some ⟨?_, rfl⟩) (fun c2 => Ends.some ⟨low40 _, rfl⟩))
  · show 0 ≤ wrap64 (rd s at') ∧ _
    rw [hwb]; exact hb
  · simp
theorem pick_ends {s : List Int} (hs : Bytes s) (at' seed n : Int) (h0 : 0 ≤ at') (h1 : at' ≤ 100000000) (hn : 1 ≤ n) (hn' : n ≤ 60000) :
    Ends (spec_l00Src_pick.f s at' seed n) fun r => (0 ≤ r.1 ∧ r.1 < n) ∧ at' ≤ r.2.1 ∧ r.2.1 ≤ at' + 2 := by
  unfold spec_l00Src_pick.f
  have hz : ¬ (n = 0) := by omega
  refine Ends.ite (fun c => Ends.some ⟨⟨Int.le_refl 0, by show (0 : Int) < n; omega⟩, Int.le_refl at', by show at' ≤ at' + 2; omega⟩) (fun c => ?_)
  refine Ends.bind (next_ends hs at' seed h0 (by omega)) fun r hr => ?_
  obtain ⟨⟨x0, x1⟩, hat⟩ := hr
  refine Ends.ite (fun c2 => ?_) (fun c2 => ?_)
  · refine Ends.bind (next_ends hs r.2.1 r.2.2 (by omega) (by omega)) fun q hq => ?_
    obtain ⟨⟨y0, y1⟩, hat2⟩ := hq
    rw [if_neg hz]
    refine Ends.some ⟨?_, by show at' ≤ q.2.1; omega, by show q.2.1 ≤ _; omega⟩
    show 0 ≤ Int.tmod _ n ∧ Int.tmod _ n < n
    rw [w64 (x := r.1 * 256) (by omega), w64 (x := r.1 * 256 + q.1) (by omega)]
    exact ⟨Int.tmod_nonneg _ (by omega), Int.tmod_lt_of_pos _ (by omega)⟩
  · rw [if_neg hz]
    refine Ends.some ⟨?_, by show at' ≤ r.2.1; omega, by show r.2.1 ≤ _; omega⟩
    show 0 ≤ Int.tmod _ n ∧ Int.tmod _ n < n
    exact ⟨Int.tmod_nonneg _ (by omega), Int.tmod_lt_of_pos _ (by omega)⟩
theorem one_ends {s : List Int} (hs : Bytes s) (at' seed n : Int) (h0 : 0 ≤ at') (h1 : at' ≤ 100000000) (hn : 1 ≤ n) (hn' : n ≤ 60000) :
    Ends (spec_l00Src_one.f s at' seed n) fun r => at' ≤ r.2.1 ∧ r.2.1 ≤ at' + 2 := by
  unfold spec_l00Src_one.f
  exact Ends.bind (pick_ends hs at' seed n h0 h1 hn hn') fun r hr => Ends.some hr.2
theorem among_ends {s : List Int} (hs : Bytes s) (at' seed : Int) (l : List Int) (h0 : 0 ≤ at') (h1 : at' ≤ 100000000) (hn : 1 ≤ l.length) (hn' : l.length ≤ 1000) :
    Ends (spec_l00Src_among.f s at' seed l) fun r => at' ≤ r.2.1 ∧ r.2.1 ≤ at' + 2 := by
  unfold spec_l00Src_among.f
  refine Ends.bind (pick_ends hs at' seed _ h0 h1 (by omega) (by omega)) fun r hr => ?_
  rw [if_pos hr.1.1, if_pos hr.1.2]
  exact Ends.some hr.2

theorem pose_ends {s : List Int} (hs : Bytes s) (k : Nat) (at' seed : Int) (h0 : 0 ≤ at') (h1 : at' ≤ 10000000) :
    Ends (spec_l02DrawPose.f (k + 1) s at' seed) fun r => at' ≤ r.2.2.2.2.1 ∧ r.2.2.2.2.1 ≤ at' + 20 := by
  unfold spec_l02DrawPose.f
  refine Ends.bind (pick_ends hs _ _ _ h0 (by omega) (by omega) (by omega)) fun r1 g1 => ?_
  refine Ends.bind (pick_ends hs _ _ _ (by omega) (by omega) (by omega) (by omega)) fun r2 g2 => ?_
  refine Ends.bind (pick_ends hs _ _ _ (by omega) (by omega) (by omega) (by omega)) fun r3 g3 => ?_
  refine Ends.bind (pick_ends hs _ _ _ (by omega) (by omega) (by omega) (by omega)) fun r4 g4 => ?_
  refine Ends.bind (one_ends hs _ _ _ (by omega) (by omega) (by omega) (by omega)) fun r5 g5 => ?_
  have key : ∀ (b seed' c1 c2 c3 c4 : Int), 0 ≤ b → b ≤ 20000000 → Ends (spec_l02DrawPose.j0 (k + 1) s b seed' c1 c2 c3 c4) fun r => b ≤ r.2.2.2.2.1 ∧ r.2.2.2.2.1 ≤ b + 4 := by
    intro b seed' c1 c2 c3 c4 hb0 hb1
    rw [spec_l02DrawPose.j0]
    refine Ends.bind (one_ends hs _ _ _ hb0 (by omega) (by omega) (by omega)) fun r7 g7 => ?_
    refine Ends.ite (fun c => ?_) (fun c => Ends.some ?_)
    · refine Ends.bind (among_ends hs _ _ _ (by omega) (by omega) (by simp) (by simp)) fun r8 g8 => Ends.some ?_
      show b ≤ r8.2.1 ∧ r8.2.1 ≤ b + 4
      omega
    · show b ≤ r7.2.1 ∧ r7.2.1 ≤ b + 4
      omega
  refine Ends.ite (fun c => ?_) (fun c => ?_)
  · refine Ends.bind (among_ends hs _ _ _ (by omega) (by omega) (by simp) (by simp)) fun r6 g6 => ?_
    exact (key _ _ _ _ _ _ (by omega) (by omega)).mono fun q hq => by omega
  · exact (key _ _ _ _ _ _ (by omega) (by omega)).mono fun q hq => by omega

end Go.Proofs.Ythjcoobgibdpcaa.Pure
