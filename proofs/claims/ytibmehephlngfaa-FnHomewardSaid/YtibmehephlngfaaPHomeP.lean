/- The walk back from home, plain: what its steps keep. -/
import Derived.Test.YtibmehephlngfaaQ0
import Derived.Test.YtibmehephlngfaaPCourse
import Derived.Test.YtibmehephlngfaaGDistP
namespace Go.Proofs.Ytibmehephlngfaa.Pure
open Go.RowKit Go.Proofs.Ytibmehephlngfaa.Q Go.Proofs.YtibmehephlngfaaW.PrintWords Go.Proofs.YtibmehephlngfaaW.PrintLast
set_option linter.unusedVariables false
set_option linter.unusedSimpArgs false

def ValM (M : List (S24 × Int)) : Prop := ∀ c n, mget M c = some n → 0 ≤ n ∧ n ≤ 40
theorem insB_insS {a : Int} (ha : 1 ≤ a ∧ a ≤ 3) (o h t : Int) : insB a o h t = insS a ⟨o, h, t⟩ := by
  unfold insB insS inR
  rw [w64 (x := -a) (by omega)]
  by_cases h1 : -40 ≤ o <;> by_cases h2 : o ≤ 40 <;> by_cases h3 : -10 ≤ h <;> by_cases h4 : h ≤ 10 <;> simp [h1, h2, h3, h4]
theorem ValM.put {M : List (S24 × Int)} (h : ValM M) {p : S24} {n : Int} (hn : ¬ (mget M p).isSome = true) (h0 : 0 ≤ n ∧ n ≤ 40) : ValM (M ++ [(p, n)]) := by
  intro c v hv
  rw [mget_snoc M p n hn c] at hv
  by_cases e : c = p
  · rw [if_pos e] at hv
    obtain rfl := Option.some.inj hv
    exact h0
  · rw [if_neg e] at hv
    exact h c v hv

/-- What holds of the map, and of the new courses, while the ring before is walked. -/
structure InvA (a n : Int) (s : MB) : Prop where
  b : InvB a s
  v : ValM s.1
  w : ∀ c ∈ s.2, mget s.1 c = some n
theorem stepD_cases (a b n : Int) (c : S24) (s : MB) (u : Int) : (stepD a b n c s u = s) ∨ (fitP a b c u = true ∧ ¬ (mget s.1 (prevOf c u)).isSome = true ∧ stepD a b n c s u = (s.1 ++ [(prevOf c u, n)], s.2 ++ [prevOf c u])) := by
  unfold stepD
  by_cases h1 : fitP a b c u = true
  · by_cases h2 : (mget s.1 (prevOf c u)).isSome = true
    · exact Or.inl (by rw [if_pos h1, if_pos h2])
    · exact Or.inr ⟨h1, h2, by rw [if_pos h1, if_neg h2]⟩
  · exact Or.inl (by rw [if_neg h1])
theorem mget_keep {M : List (S24 × Int)} {p : S24} {n : Int} (hn : ¬ (mget M p).isSome = true) {c : S24} {v : Int} (h : mget M c = some v) : mget (M ++ [(p, n)]) c = some v := by
  rw [mget_snoc M p n hn c, if_neg (fun e => by subst e; rw [h] at hn; exact hn rfl)]
  exact h
theorem stepD_keep {a b n : Int} {c : S24} {s : MB} {u : Int} {d : S24} {v : Int} (h : mget s.1 d = some v) : mget (stepD a b n c s u).1 d = some v := by
  rcases stepD_cases a b n c s u with e | ⟨_, h2, e⟩
  · rw [e]; exact h
  · rw [e]; exact mget_keep h2 h
theorem stepD_invA {a b n : Int} (hn : 0 ≤ n ∧ n ≤ 40) {c : S24} {s : MB} {u : Int} (h : InvA a n s) : InvA a n (stepD a b n c s u) := by
  refine ⟨stepD_inv h.b, ?_, ?_⟩
  · rcases stepD_cases a b n c s u with e | ⟨_, h2, e⟩
    · rw [e]; exact h.v
    · rw [e]; exact h.v.put h2 hn
  · rcases stepD_cases a b n c s u with e | ⟨_, h2, e⟩
    · rw [e]; exact h.w
    · rw [e]
      intro x hx
      rcases List.mem_append.1 hx with hx | hx
      · exact mget_keep h2 (h.w x hx)
      · simp only [List.mem_singleton] at hx
        subst hx
        rw [mget_snoc _ _ _ h2, if_pos rfl]
theorem innerD_keep {a b n : Int} {c : S24} {d : S24} {v : Int} : ∀ (k : Nat) (u : Int) (s : MB), mget s.1 d = some v → mget (innerD a b n c k u s).1 d = some v
  | 0, _, _, h => h
  | k + 1, u, s, h => innerD_keep k (u + 1) _ (stepD_keep h)
theorem innerD_invA {a b n : Int} (hn : 0 ≤ n ∧ n ≤ 40) {c : S24} : ∀ (k : Nat) (u : Int) (s : MB), InvA a n s → InvA a n (innerD a b n c k u s)
  | 0, _, _, h => h
  | k + 1, u, s, h => innerD_invA hn k (u + 1) _ (stepD_invA hn h)
theorem ringD_keep {a b n : Int} {d : S24} {v : Int} : ∀ (r : List S24) (s : MB), mget s.1 d = some v → mget (ringD a b n r s).1 d = some v
  | [], _, h => h
  | c :: r, s, h => ringD_keep r _ (innerD_keep _ _ _ h)
theorem ringD_invA {a b n : Int} (hn : 0 ≤ n ∧ n ≤ 40) : ∀ (r : List S24) (s : MB), InvA a n s → InvA a n (ringD a b n r s)
  | [], _, h => h
  | c :: r, s, h => ringD_invA hn r _ (innerD_invA hn _ _ _ h)
/-- The list of keys grows as the list of new courses does. -/
theorem stepD_keys {a b n : Int} {c : S24} {s : MB} {u : Int} {pre : List S24} (h : s.1.map (·.1) = pre ++ s.2) : (stepD a b n c s u).1.map (·.1) = pre ++ (stepD a b n c s u).2 := by
  rcases stepD_cases a b n c s u with e | ⟨_, h2, e⟩
  · rw [e]; exact h
  · rw [e]; simp only [List.map_append, List.map_cons, List.map_nil, h, List.append_assoc]
theorem innerD_keys {a b n : Int} {c : S24} {pre : List S24} : ∀ (k : Nat) (u : Int) (s : MB), s.1.map (·.1) = pre ++ s.2 → (innerD a b n c k u s).1.map (·.1) = pre ++ (innerD a b n c k u s).2
  | 0, _, _, h => h
  | k + 1, u, s, h => innerD_keys k (u + 1) _ (stepD_keys h)
theorem ringD_keys {a b n : Int} {pre : List S24} : ∀ (r : List S24) (s : MB), s.1.map (·.1) = pre ++ s.2 → (ringD a b n r s).1.map (·.1) = pre ++ (ringD a b n r s).2
  | [], _, h => h
  | c :: r, s, h => ringD_keys r _ (innerD_keys _ _ _ h)

end Go.Proofs.Ytibmehephlngfaa.Pure
