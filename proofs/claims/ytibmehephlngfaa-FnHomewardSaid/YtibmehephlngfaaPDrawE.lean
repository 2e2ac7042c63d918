/- Plain lemmas by hand: drawing from a source of bytes always ends, in numbers within bounds; a drawn course is valid. -/
import Derived.Test.YtibmehephlngfaaQ0
import Derived.Test.YtibmehephlngfaaQ20
import Derived.Test.YtibmehephlngfaaPCourse
import Derived.Test.YtibmehephlngfaaGDistP
import Derived.Laws.Bits64b
namespace Go.Proofs.Ytibmehephlngfaa.Pure
open Go.RowKit Go.Proofs.Ytibmehephlngfaa.Q Go.Proofs.YtibmehephlngfaaW.PrintWords Go.Proofs.YtibmehephlngfaaW.PrintLast
set_option linter.unusedVariables false
set_option linter.unusedSimpArgs false

/-- It ends, in something of which P holds. -/
def Ends {α : Type} (o : Option α) (P : α → Prop) : Prop := ∃ a, o = some a ∧ P a
theorem Ends.bind {α β : Type} {o : Option α} {P : α → Prop} {f : α → Option β} {Q : β → Prop} (h : Ends o P) (g : ∀ a, P a → Ends (f a) Q) : Ends (o.bind f) Q := by
  obtain ⟨a, rfl, ha⟩ := h
  exact g a ha
theorem Ends.some {α : Type} {a : α} {P : α → Prop} (h : P a) : Ends (some a) P := ⟨a, rfl, h⟩
theorem Ends.ite {α : Type} {c : Prop} [Decidable c] {x y : Option α} {P : α → Prop} (h : c → Ends x P) (g : ¬ c → Ends y P) : Ends (if c then x else y) P := by
  by_cases hc : c
  · rw [if_pos hc]; exact h hc
  · rw [if_neg hc]; exact g hc
theorem Ends.mono {α : Type} {o : Option α} {P Q : α → Prop} (h : Ends o P) (g : ∀ a, P a → Q a) : Ends o Q := by
  obtain ⟨a, h1, h2⟩ := h
  exact ⟨a, h1, g a h2⟩

theorem and255 (y : Int) (h0 : 0 ≤ y) (h1 : y < 18446744073709551616) : 0 ≤ Go.bits .and .u64 y 255 ∧ Go.bits .and .u64 y 255 ≤ 255 := by
  have e : Go.bits .and .u64 ((y.toNat : Nat) : Int) ((255 : Nat) : Int) = ((y.toNat &&& 255 : Nat) : Int) := bits_and_u64_nat y.toNat 255 (by omega) (by omega)
  have e1 : ((y.toNat : Nat) : Int) = y := by omega
  rw [e1] at e
  have e2 : ((255 : Nat) : Int) = 255 := rfl
  rw [e2] at e
  rw [e]
  have := @Nat.and_le_right y.toNat 255
  omega
theorem low40 (x : Int) : 0 ≤ wrap64 (Go.bits .and .u64 (IntKind.u64.wrap x / 1099511627776) 255) ∧ wrap64 (Go.bits .and .u64 (IntKind.u64.wrap x / 1099511627776) 255) ≤ 255 := by
  have hw : 0 ≤ IntKind.u64.wrap x ∧ IntKind.u64.wrap x < 18446744073709551616 := by rw [IntKind.wrap_u64]; omega
  have := and255 (IntKind.u64.wrap x / 1099511627776) (by omega) (by omega)
  rw [w64 (by omega)]
  exact this

def Bytes (s : List Int) : Prop := s.length ≤ 2000000 ∧ ∀ z ∈ s, 0 ≤ z ∧ z ≤ 255
theorem bytes_rd {s : List Int} (h : Bytes s) (i : Int) : 0 ≤ rd s i ∧ rd s i ≤ 255 := by
  unfold rd
  by_cases hi : i.toNat < s.length
  · rw [List.getD_eq_getElem?_getD, List.getElem?_eq_getElem hi]
    exact h.2 _ (List.getElem_mem hi)
  · rw [List.getD_eq_getElem?_getD, List.getElem?_eq_none (by omega)]
    simp

theorem next_ends {s : List Int} (hs : Bytes s) (at' seed : Int) (h0 : 0 ≤ at') (h1 : at' ≤ 1000000000) :
    Ends (spec_l00Src_next.f s at' seed) fun r => (0 ≤ r.1 ∧ r.1 ≤ 255) ∧ r.2.1 = at' + 1 := by
  have hw : wrap64 (at' + 1) = at' + 1 := w64 (by omega)
  have hb := bytes_rd hs at'
  have hwb : wrap64 (rd s at') = rd s at' := w64 (by omega)
  unfold spec_l00Src_next.f
  rw [hw]
  refine Ends.ite (fun c => Ends.ite (fun c1 => Ends.ite (fun c2 => Ends.some ⟨?_, rfl⟩) (fun c2 => Ends.some ⟨low40 _, rfl⟩)) (fun c1 => absurd h0 c1)) (fun c => Ends.ite (fun c2 => Ends.some ⟨?_, rfl⟩) (fun c2 => Ends.some ⟨low40 _, rfl⟩))
  · show 0 ≤ wrap64 (rd s at') ∧ _
    rw [hwb]; exact hb
  · simp
theorem pick_ends {s : List Int} (hs : Bytes s) (at' seed n : Int) (h0 : 0 ≤ at') (h1 : at' ≤ 100000000) (hn : 1 ≤ n) (hn' : n ≤ 60000) :
    Ends (spec_l00Src_pick.f s at' seed n) fun r => (0 ≤ r.1 ∧ r.1 < n) ∧ at' ≤ r.2.1 ∧ r.2.1 ≤ at' + 2 := by
  unfold spec_l00Src_pick.f
  have hz : ¬ (n = 0) := by omega
  refine Ends.ite (fun c => Ends.some ⟨⟨Int.le_refl 0, by show (0 : Int) < n; omega⟩, Int.le_refl at', by show at' ≤ at' + 2; omega⟩) (fun c => ?_)
  refine Ends.bind (next_ends hs at' seed h0 (by omega)) fun r hr => ?_
  obtain ⟨⟨x0, x1⟩, hat⟩ := hr
  refine Ends.ite (fun c2 => ?_) (fun c2 => ?_)
  · refine Ends.bind (next_ends hs r.2.1 r.2.2 (by omega) (by omega)) fun q hq => ?_
    obtain ⟨⟨y0, y1⟩, hat2⟩ := hq
    rw [if_neg hz]
    refine Ends.some ⟨?_, by show at' ≤ q.2.1; omega, by show q.2.1 ≤ _; omega⟩
    show 0 ≤ Int.tmod _ n ∧ Int.tmod _ n < n
    rw [w64 (x := r.1 * 256) (by omega), w64 (x := r.1 * 256 + q.1) (by omega)]
    exact ⟨Int.tmod_nonneg _ (by omega), Int.tmod_lt_of_pos _ (by omega)⟩
  · rw [if_neg hz]
    refine Ends.some ⟨?_, by show at' ≤ r.2.1; omega, by show r.2.1 ≤ _; omega⟩
    show 0 ≤ Int.tmod _ n ∧ Int.tmod _ n < n
    exact ⟨Int.tmod_nonneg _ (by omega), Int.tmod_lt_of_pos _ (by omega)⟩

/-- The drawn limits and the drawn course are valid. -/
theorem course_ends {s : List Int} (hs : Bytes s) : Ends (spec_B10Course.f s) fun r => (1 ≤ r.1 ∧ r.1 ≤ 3) ∧ (1 ≤ r.2.1 ∧ r.2.1 ≤ 6) ∧ insS r.1 ⟨r.2.2.1, r.2.2.2.1, r.2.2.2.2⟩ = true := by
  unfold spec_B10Course.f spec_l00From.f
  rw [Option.bind_some]
  refine Ends.bind (pick_ends hs 0 0 3 (by omega) (by omega) (by omega) (by omega)) fun p1 h1 => ?_
  obtain ⟨b1, a1, a1'⟩ := h1
  refine Ends.bind (pick_ends hs p1.2.1 p1.2.2 5 (by omega) (by omega) (by omega) (by omega)) fun p2 h2 => ?_
  obtain ⟨b2, a2, a2'⟩ := h2
  refine Ends.bind (pick_ends hs p2.2.1 p2.2.2 25 (by omega) (by omega) (by omega) (by omega)) fun p3 h3 => ?_
  obtain ⟨b3, a3, a3'⟩ := h3
  refine Ends.bind (pick_ends hs p3.2.1 p3.2.2 9 (by omega) (by omega) (by omega) (by omega)) fun p4 h4 => ?_
  obtain ⟨b4, a4, a4'⟩ := h4
  refine Ends.bind (pick_ends hs p4.2.1 p4.2.2 3 (by omega) (by omega) (by omega) (by omega)) fun p5 h5 => ?_
  obtain ⟨b5, a5, a5'⟩ := h5
  refine Ends.some ?_
  dsimp only
  rw [w64 (x := 1 + p1.1) (by omega), w64 (x := 1 + p2.1) (by omega), w64 (x := p3.1 - 12) (by omega), w64 (x := p4.1 - 4) (by omega), w64 (x := p5.1 - 1) (by omega)]
  refine ⟨by omega, by omega, insS_iff.2 ⟨?_, ?_, ?_⟩⟩
  · show -40 ≤ p3.1 - 12 ∧ p3.1 - 12 ≤ 40; omega
  · show -10 ≤ p4.1 - 4 ∧ p4.1 - 4 ≤ 10; omega
  · show -(1 + p1.1) ≤ p5.1 - 1 ∧ p5.1 - 1 ≤ 1 + p1.1; omega

end Go.Proofs.Ytibmehephlngfaa.Pure
