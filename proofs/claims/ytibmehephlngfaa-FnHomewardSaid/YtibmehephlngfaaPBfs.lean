/- What holds of the numbers of the walk back from home: they are the fewest rings. -/
import Derived.Test.YtibmehephlngfaaQ0
import Derived.Test.YtibmehephlngfaaPHomeP
import Derived.Test.YtibmehephlngfaaGPlanP
namespace Go.Proofs.Ytibmehephlngfaa.Pure
open Go.RowKit Go.Proofs.Ytibmehephlngfaa.Q Go.Proofs.YtibmehephlngfaaW.PrintWords Go.Proofs.YtibmehephlngfaaW.PrintLast
set_option linter.unusedVariables false
set_option linter.unusedSimpArgs false

theorem step_prev (c : S24) (u : Int) : stepTo (prevOf c u) c.f2 = c := by
  obtain ⟨x, y, z⟩ := c
  show (⟨x - (y - z) + (y - z), y - z + z, z⟩ : S24) = ⟨x, y, z⟩
  rw [show x - (y - z) + (y - z) = x from by omega, show y - z + z = y from by omega]
theorem prev_step (c : S24) (u : Int) : prevOf (stepTo c u) c.f2 = c := by
  obtain ⟨x, y, z⟩ := c
  show (⟨x + y - (y + u - u), y + u - u, z⟩ : S24) = ⟨x, y, z⟩
  rw [show x + y - (y + u - u) = x from by omega, show y + u - u = y from by omega]
theorem fit_iff {a b : Int} {c : S24} {u : Int} : fitP a b c u = true ↔ insS a (prevOf c u) = true ∧ (-b ≤ c.f2 - u ∧ c.f2 - u ≤ b) := by
  unfold fitP
  rw [Bool.and_eq_true, decide_eq_true_eq]
theorem ok_iff {a b : Int} {c : S24} {u : Int} : okTo a b c u = true ↔ (-b ≤ u - c.f2 ∧ u - c.f2 ≤ b) ∧ insS a (stepTo c u) = true := by
  unfold okTo
  rw [Bool.and_eq_true, decide_eq_true_eq]
/-- From a course on, by a turn that may be made: the way back. -/
theorem fit_of_ok {a b : Int} {c : S24} {u : Int} (hc : insS a c = true) (h : okTo a b c u = true) : fitP a b (stepTo c u) c.f2 = true := by
  rw [fit_iff, prev_step]
  refine ⟨hc, ?_⟩
  have := (ok_iff.1 h).1
  show -b ≤ u - c.f2 ∧ u - c.f2 ≤ b
  omega
theorem ok_of_fit {a b : Int} {c : S24} {u : Int} (hc : insS a c = true) (h : fitP a b c u = true) : okTo a b (prevOf c u) c.f2 = true := by
  rw [ok_iff, step_prev]
  refine ⟨?_, hc⟩
  have := (fit_iff.1 h).2
  show -b ≤ c.f2 - u ∧ c.f2 - u ≤ b
  omega

/-- What a course's number rests on. -/
def Rests (a b n : Int) (M : List (S24 × Int)) (p : S24) : Prop := ∃ u, (-a ≤ u ∧ u ≤ a) ∧ okTo a b p u = true ∧ mget M (stepTo p u) = some (n - 1)

section
variable {a b n : Int} {M0 : List (S24 × Int)}
/-- Whatever is new in s, as against M0. -/
def NewA (a b n : Int) (M0 : List (S24 × Int)) (s : MB) : Prop := ∀ p v, mget s.1 p = some v → mget M0 p = some v ∨ (v = n ∧ p ∈ s.2 ∧ Rests a b n M0 p)
theorem stepD_new {c : S24} {s : MB} {u : Int} (hc : insS a c = true) (hm : mget M0 c = some (n - 1)) (h : NewA a b n M0 s) : NewA a b n M0 (stepD a b n c s u) := by
  rcases stepD_cases a b n c s u with e | ⟨h1, h2, e⟩
  · rw [e]; exact h
  · rw [e]
    intro p v hv
    dsimp only at hv ⊢
    rw [mget_snoc _ _ _ h2] at hv
    by_cases ep : p = prevOf c u
    · rw [if_pos ep] at hv
      obtain rfl := Option.some.inj hv
      subst ep
      exact Or.inr ⟨rfl, by simp, c.f2, (insS_iff.1 hc).2.2, ok_of_fit hc h1, by rw [step_prev]; exact hm⟩
    · rw [if_neg ep] at hv
      rcases h p v hv with h | ⟨h3, h4, h5⟩
      · exact Or.inl h
      · exact Or.inr ⟨h3, by simp [h4], h5⟩
theorem innerD_new {c : S24} (hc : insS a c = true) (hm : mget M0 c = some (n - 1)) : ∀ (k : Nat) (u : Int) (s : MB), NewA a b n M0 s → NewA a b n M0 (innerD a b n c k u s)
  | 0, _, _, h => h
  | k + 1, u, s, h => innerD_new hc hm k (u + 1) _ (stepD_new hc hm h)
theorem ringD_new : ∀ (r : List S24) (s : MB), (∀ c ∈ r, insS a c = true ∧ mget M0 c = some (n - 1)) → NewA a b n M0 s → NewA a b n M0 (ringD a b n r s)
  | [], _, _, h => h
  | c :: r, s, hr, h => ringD_new r _ (fun x hx => hr x (by simp [hx])) (innerD_new (hr c (by simp)).1 (hr c (by simp)).2 _ _ _ h)

theorem stepD_has {c : S24} {s : MB} {u : Int} (h : fitP a b c u = true) : (mget (stepD a b n c s u).1 (prevOf c u)).isSome = true := by
  unfold stepD
  rw [if_pos h]
  by_cases h2 : (mget s.1 (prevOf c u)).isSome = true
  · rw [if_pos h2]; exact h2
  · rw [if_neg h2, mget_snoc _ _ _ h2, if_pos rfl]; rfl
theorem innerD_has {c : S24} : ∀ (k : Nat) (u : Int) (s : MB) (x : Int), u ≤ x → x < u + k → fitP a b c x = true → (mget (innerD a b n c k u s).1 (prevOf c x)).isSome = true
  | 0, u, s, x, h0, h1, h => absurd h1 (by omega)
  | k + 1, u, s, x, h0, h1, h => by
    by_cases e : x = u
    · subst e
      obtain ⟨v, hv⟩ := Option.isSome_iff_exists.1 (stepD_has (n := n) (s := s) h)
      show (mget (innerD a b n c k (x + 1) (stepD a b n c s x)).1 (prevOf c x)).isSome = true
      rw [innerD_keep _ _ _ hv]
      rfl
    · exact innerD_has k (u + 1) _ x (by omega) (by omega) h
theorem ringD_has : ∀ (r : List S24) (s : MB), ∀ c ∈ r, ∀ x, (-a ≤ x ∧ x ≤ a) → fitP a b c x = true → (mget (ringD a b n r s).1 (prevOf c x)).isSome = true
  | [], _, c, hc, _, _, _ => absurd hc (by simp)
  | d :: r, s, c, hc, x, hx, h => by
    rcases List.mem_cons.1 hc with e | hc
    · subst e
      obtain ⟨v, hv⟩ := Option.isSome_iff_exists.1 (innerD_has (n := n) (2 * a + 1).toNat (-a) s x hx.1 (by omega) h)
      show (mget (ringD a b n r (innerD a b n c (2 * a + 1).toNat (-a) s)).1 (prevOf c x)).isSome = true
      rw [ringD_keep _ _ hv]
      rfl
    · exact ringD_has r _ c hc x hx h
end

/-- All that holds where the ring of number n - 1 is about to be walked. -/
structure BF (a b n : Int) (M : List (S24 × Int)) (ring : List S24) : Prop where
  inv : InvM a M
  le : ∀ c v, mget M c = some v → 0 ≤ v ∧ v ≤ n - 1
  ins : ∀ c v, mget M c = some v → insS a c = true
  ring : ∀ c, c ∈ ring ↔ mget M c = some (n - 1)
  rest : ∀ c v, mget M c = some v → 1 ≤ v → Rests a b v M c
  pred : ∀ c v, mget M c = some v → v < n - 1 → ∀ u, (-a ≤ u ∧ u ≤ a) → fitP a b c u = true → ∃ k, mget M (prevOf c u) = some k ∧ k ≤ v + 1
  zero : ∀ c, mget M c = some 0 ↔ c = home
theorem mget_mem {M : List (S24 × Int)} {c : S24} {v : Int} (h : mget M c = some v) : ∃ p ∈ M, p.1 = c := by
  unfold mget at h
  cases hf : M.find? (fun p => decide (p.1 = c)) with
  | none => rw [hf] at h; cases h
  | some p => exact ⟨p, List.mem_of_find?_eq_some hf, by simpa using List.find?_some hf⟩
theorem BF.next {a b n : Int} (hn : 1 ≤ n ∧ n ≤ 40) {M : List (S24 × Int)} {ring : List S24} (h : BF a b n M ring) : BF a b (n + 1) (ringD a b n ring (M, [])).1 (ringD a b n ring (M, [])).2 := by
  have hA : InvA a n (M, []) := ⟨InvB.start h.inv, fun c v hv => by have := h.le c v hv; omega, fun c hc => by cases hc⟩
  have hA1 := ringD_invA (b := b) (n := n) ⟨by omega, by omega⟩ ring (M, []) hA
  have hN : NewA a b n M (ringD a b n ring (M, [])) := ringD_new ring (M, []) (fun c hc => ⟨h.ins c _ ((h.ring c).1 hc), (h.ring c).1 hc⟩) (fun p v hv => Or.inl hv)
  have hK : ∀ c v, mget M c = some v → mget (ringD a b n ring (M, [])).1 c = some v := fun c v hv => ringD_keep ring (M, []) hv
  have hH := ringD_has (a := a) (b := b) (n := n) ring (M, [])
  generalize ringD a b n ring (M, []) = s at hA1 hN hK hH
  refine ⟨hA1.b.1, fun c v hv => ?_, fun c v hv => ?_, fun c => ⟨fun hc => ?_, fun hc => ?_⟩, fun c v hv h1 => ?_, fun c v hv hlt u hu hf => ?_, fun c => ⟨fun hc => ?_, fun hc => ?_⟩⟩
  · rcases hN c v hv with h0 | ⟨h0, _⟩
    · have := h.le c v h0; omega
    · omega
  · obtain ⟨p, hp, rfl⟩ := mget_mem hv
    exact hA1.b.1.2 p hp
  · rw [hA1.w c hc]; congr 1; omega
  · rw [show n + 1 - 1 = n from by omega] at hc
    rcases hN c n hc with h0 | ⟨_, h0, _⟩
    · have := h.le c n h0; omega
    · exact h0
  · rcases hN c v hv with h0 | ⟨h0, _, u, hu, h3, h4⟩
    · obtain ⟨u, hu, h3, h4⟩ := h.rest c v h0 h1
      exact ⟨u, hu, h3, hK _ _ h4⟩
    · subst h0
      exact ⟨u, hu, h3, hK _ _ h4⟩
  · rcases hN c v hv with h0 | ⟨h0, _⟩
    · by_cases he : v = n - 1
      · subst he
        obtain ⟨k, hk⟩ := Option.isSome_iff_exists.1 (hH c ((h.ring c).2 h0) u hu hf)
        refine ⟨k, hk, ?_⟩
        rcases hN _ k hk with h5 | ⟨h5, _⟩
        · have := h.le _ k h5; omega
        · omega
      · obtain ⟨k, hk, hk2⟩ := h.pred c v h0 (by omega) u hu hf
        exact ⟨k, hK _ _ hk, hk2⟩
    · omega
  · rcases hN c 0 hc with h0 | ⟨h0, _⟩
    · exact (h.zero c).1 h0
    · omega
  · exact hK _ _ ((h.zero c).2 hc)
theorem BF.all {a b : Int} : ∀ (kk : Nat) (n : Int) (M : List (S24 × Int)) (ring : List S24), 1 ≤ n → n + kk = 41 → BF a b n M ring → ∃ r, BF a b 41 (levelsD a b kk n M ring) r
  | 0, n, M, ring, h1, h2, h => ⟨ring, by rw [show (41 : Int) = n from by omega]; exact h⟩
  | kk + 1, n, M, ring, h1, h2, h => BF.all kk (n + 1) _ _ (by omega) (by omega) (h.next ⟨h1, by omega⟩)
theorem BF.dist {a : Int} (ha : 1 ≤ a ∧ a ≤ 3) (b : Int) : ∃ r, BF a b 41 (distD a b) r := by
  have hh : insS a home = true := insS_iff.2 ⟨by decide, by decide, by show -a ≤ 0 ∧ 0 ≤ a; omega⟩
  have hg : ∀ c, mget [(home, (0 : Int))] c = if c = home then some 0 else none := by
    intro c
    have := mget_snoc [] home 0 (by simp [mget]) c
    simpa [mget] using this
  refine BF.all 40 1 [(home, 0)] [home] (by omega) (by omega) ⟨inv_home ha.1, fun c v hv => ?_, fun c v hv => ?_, fun c => ?_, fun c v hv h1 => ?_, fun c v hv hlt => ?_, fun c => ?_⟩
  · rw [hg] at hv
    by_cases e : c = home
    · rw [if_pos e] at hv; obtain rfl := Option.some.inj hv; omega
    · rw [if_neg e] at hv; cases hv
  · rw [hg] at hv
    by_cases e : c = home
    · rw [e]; exact hh
    · rw [if_neg e] at hv; cases hv
  · rw [hg]
    by_cases e : c = home
    · rw [if_pos e]; simp [e]
    · rw [if_neg e]; simp [e]
  · rw [hg] at hv
    by_cases e : c = home
    · rw [if_pos e] at hv; obtain rfl := Option.some.inj hv; omega
    · rw [if_neg e] at hv; cases hv
  · rw [hg] at hv
    by_cases e : c = home
    · rw [if_pos e] at hv; obtain rfl := Option.some.inj hv; omega
    · rw [if_neg e] at hv; cases hv
  · rw [hg]
    by_cases e : c = home
    · rw [if_pos e]; simp [e]
    · rw [if_neg e]; simp [e]

end Go.Proofs.Ytibmehephlngfaa.Pure
