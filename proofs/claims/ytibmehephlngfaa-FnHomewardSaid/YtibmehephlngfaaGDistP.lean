/- The walk back from home over all courses, as plain functions on lists; and how many courses there are at most. -/
import Derived.Test.YtibmehephlngfaaQ0
namespace Go.Proofs.Ytibmehephlngfaa.Q
set_option linter.unusedVariables false
set_option linter.unusedSimpArgs false

instance instDecS24 : DecidableEq S24 := fun x y =>
  if h : x.f0 = y.f0 ∧ x.f1 = y.f1 ∧ x.f2 = y.f2 then isTrue (by cases x; cases y; simp only at h; obtain ⟨rfl, rfl, rfl⟩ := h; rfl) else isFalse (fun e => h (by rw [e]; exact ⟨rfl, rfl, rfl⟩))

/-- What a list of courses with numbers answers at a course. -/
def mget (M : List (S24 × Int)) (c : S24) : Option Int := (M.find? (fun p => decide (p.1 = c))).map (·.2)

/-- The course before c that has turned by u. -/
def prevOf (c : S24) (u : Int) : S24 := ⟨c.f0 - (c.f1 - c.f2), c.f1 - c.f2, u⟩
def insS (a : Int) (c : S24) : Bool := decide ((-40 ≤ c.f0 ∧ c.f0 ≤ 40) ∧ (-10 ≤ c.f1 ∧ c.f1 ≤ 10) ∧ (-a ≤ c.f2 ∧ c.f2 ≤ a))
def fitP (a b : Int) (c : S24) (u : Int) : Bool := insS a (prevOf c u) && decide (-b ≤ c.f2 - u ∧ c.f2 - u ≤ b)
theorem insS_iff {a : Int} {c : S24} : insS a c = true ↔ (-40 ≤ c.f0 ∧ c.f0 ≤ 40) ∧ (-10 ≤ c.f1 ∧ c.f1 ≤ 10) ∧ (-a ≤ c.f2 ∧ c.f2 ≤ a) := by unfold insS; simp

abbrev MB := List (S24 × Int) × List S24
def stepD (a b n : Int) (c : S24) (s : MB) (u : Int) : MB :=
  if fitP a b c u = true then (if (mget s.1 (prevOf c u)).isSome = true then s else (s.1 ++ [(prevOf c u, n)], s.2 ++ [prevOf c u])) else s
/-- All turns from u on, so many. -/
def innerD (a b n : Int) (c : S24) : Nat → Int → MB → MB
  | 0, _, s => s
  | k + 1, u, s => innerD a b n c k (u + 1) (stepD a b n c s u)
def ringD (a b n : Int) : List S24 → MB → MB
  | [], s => s
  | c :: r, s => ringD a b n r (innerD a b n c (2 * a + 1).toNat (-a) s)
/-- All rings from n on, so many. -/
def levelsD (a b : Int) : Nat → Int → List (S24 × Int) → List S24 → List (S24 × Int)
  | 0, _, M, _ => M
  | k + 1, n, M, ring => levelsD a b k (n + 1) (ringD a b n ring (M, [])).1 (ringD a b n ring (M, [])).2
def home : S24 := ⟨0, 0, 0⟩
def distD (a b : Int) : List (S24 × Int) := levelsD a b 40 1 [(home, 0)] [home]

/-! ### what holds of it all along -/
theorem mget_none {M : List (S24 × Int)} {c : S24} (h : ¬ (mget M c).isSome = true) : ∀ p ∈ M, p.1 ≠ c := by
  intro p hp e
  apply h
  unfold mget
  rw [Option.isSome_map, List.find?_isSome]
  exact ⟨p, hp, by simpa using e⟩

theorem mget_snoc (M : List (S24 × Int)) (c : S24) (n : Int) (h : ¬ (mget M c).isSome = true) (q : S24) : mget (M ++ [(c, n)]) q = if q = c then some n else mget M q := by
  unfold mget at h ⊢
  rw [List.find?_append]
  by_cases e : q = c
  · subst e
    rw [if_pos rfl]
    have hn : List.find? (fun p => decide (p.1 = q)) M = none := by
      cases hf : List.find? (fun p => decide (p.1 = q)) M with
      | none => rfl
      | some x => rw [hf] at h; exact absurd rfl h
    rw [hn]
    simp
  · rw [if_neg e]
    have : List.find? (fun p : S24 × Int => decide (p.1 = q)) [(c, n)] = none := by simp; exact fun h => e h.symm
    rw [this]
    cases List.find? (fun p => decide (p.1 = q)) M <;> rfl

def InvM (a : Int) (M : List (S24 × Int)) : Prop := (M.map (·.1)).Nodup ∧ ∀ p ∈ M, insS a p.1 = true
def InvB (a : Int) (s : MB) : Prop := InvM a s.1 ∧ s.2.length ≤ s.1.length ∧ ∀ c ∈ s.2, insS a c = true

theorem InvM.push {a : Int} {M : List (S24 × Int)} (h : InvM a M) {c : S24} {n : Int} (hn : ¬ (mget M c).isSome = true) (hc : insS a c = true) : InvM a (M ++ [(c, n)]) := by
  refine ⟨?_, ?_⟩
  · rw [List.map_append]
    refine List.nodup_append.2 ⟨h.1, by simp, ?_⟩
    intro x hx y hy e
    simp only [List.map_cons, List.map_nil, List.mem_singleton] at hy
    obtain ⟨p, hp, rfl⟩ := List.mem_map.1 hx
    exact mget_none hn p hp (e.trans hy)
  · intro p hp
    rcases List.mem_append.1 hp with hp | hp
    · exact h.2 p hp
    · simp only [List.mem_singleton] at hp
      rw [hp]; exact hc

theorem stepD_inv {a b n : Int} {c : S24} {s : MB} {u : Int} (h : InvB a s) : InvB a (stepD a b n c s u) := by
  unfold stepD
  by_cases h1 : fitP a b c u = true
  · rw [if_pos h1]
    by_cases h2 : (mget s.1 (prevOf c u)).isSome = true
    · rw [if_pos h2]; exact h
    · rw [if_neg h2]
      have hin : insS a (prevOf c u) = true := (Bool.and_eq_true_iff.1 h1).1
      refine ⟨h.1.push h2 hin, by simp; exact h.2.1, ?_⟩
      intro x hx
      rcases List.mem_append.1 hx with hx | hx
      · exact h.2.2 x hx
      · simp only [List.mem_singleton] at hx
        rw [hx]; exact hin
  · rw [if_neg h1]; exact h

/-! ### a list of courses without repeats is short -/
theorem nodup_below : ∀ (N : Nat) (l : List Nat), l.Nodup → (∀ x ∈ l, x < N) → l.length ≤ N
  | 0, l, _, h => by
    cases l with
    | nil => simp
    | cons x r => exact absurd (h x (by simp)) (by omega)
  | N + 1, l, hn, h => by
    by_cases c : N ∈ l
    · have h1 := nodup_below N (l.erase N) (hn.erase N) (fun x hx => by
        have hm := (hn.mem_erase_iff).1 hx
        have := h x hm.2
        have := hm.1
        omega)
      rw [List.length_erase_of_mem c] at h1
      omega
    · have := nodup_below N l hn (fun x hx => by
        have := h x hx
        have : x ≠ N := fun e => c (e ▸ hx)
        omega)
      omega

def spotN (c : S24) : Nat := (((c.f0 + 40) * 21 + c.f1 + 10) * 7 + c.f2 + 3).toNat
theorem spotN_lt {a : Int} (ha : a ≤ 3) {c : S24} (h : insS a c = true) : spotN c < 11907 := by
  obtain ⟨h1, h2, h3⟩ := insS_iff.1 h
  unfold spotN
  omega
theorem spotN_inj {a : Int} (ha : a ≤ 3) {c d : S24} (h : insS a c = true) (h' : insS a d = true) (e : spotN c = spotN d) : c = d := by
  obtain ⟨h1, h2, h3⟩ := insS_iff.1 h
  obtain ⟨k1, k2, k3⟩ := insS_iff.1 h'
  unfold spotN at e
  have e2 : c.f2 = d.f2 := by omega
  have e1 : c.f1 = d.f1 := by omega
  have e0 : c.f0 = d.f0 := by omega
  cases c; cases d
  simp only at e0 e1 e2
  subst e0 e1 e2
  rfl

theorem InvM.short {a : Int} (ha : a ≤ 3) {M : List (S24 × Int)} (h : InvM a M) : M.length ≤ 11907 := by
  have hn : ((M.map (·.1)).map spotN).Nodup := by
    refine List.pairwise_map.2 (List.Pairwise.imp_of_mem ?_ h.1)
    intro x y hx hy hne e
    obtain ⟨p, hp, rfl⟩ := List.mem_map.1 hx
    obtain ⟨q, hq, rfl⟩ := List.mem_map.1 hy
    exact hne (spotN_inj ha (h.2 p hp) (h.2 q hq) e)
  have := nodup_below 11907 _ hn (fun x hx => by
    obtain ⟨y, hy, rfl⟩ := List.mem_map.1 hx
    obtain ⟨p, hp, rfl⟩ := List.mem_map.1 hy
    exact spotN_lt ha (h.2 p hp))
  simpa using this

theorem innerD_inv {a b n : Int} {c : S24} : ∀ (k : Nat) (u : Int) (s : MB), InvB a s → InvB a (innerD a b n c k u s)
  | 0, _, _, h => h
  | k + 1, u, s, h => innerD_inv k (u + 1) _ (stepD_inv h)
theorem ringD_inv {a b n : Int} : ∀ (r : List S24) (s : MB), InvB a s → InvB a (ringD a b n r s)
  | [], _, h => h
  | c :: r, s, h => ringD_inv r _ (innerD_inv _ _ _ h)
theorem InvB.start {a : Int} {M : List (S24 × Int)} (h : InvM a M) : InvB a (M, []) := ⟨h, by simp, fun _ hc => by cases hc⟩
theorem inv_home {a : Int} (ha : 1 ≤ a) : InvM a [(home, 0)] := by
  refine ⟨by simp, fun p hp => ?_⟩
  simp only [List.mem_singleton] at hp
  rw [hp]
  exact insS_iff.2 ⟨by decide, by decide, by show -a ≤ 0 ∧ 0 ≤ a; omega⟩

theorem ringD_at (a b n : Int) (l : List S24) (x : Int) (h0 : 0 ≤ x) (h1 : x < l.length) (s : MB) :
    ringD a b n (l.drop x.toNat) s = ringD a b n (l.drop (x + 1).toNat) (innerD a b n (rd_T24 l x) (2 * a + 1).toNat (-a) s) := by
  have hl : x.toNat < l.length := by omega
  rw [List.drop_eq_getElem_cons hl]
  have e1 : (x + 1).toNat = x.toNat + 1 := by omega
  have e2 : rd_T24 l x = l[x.toNat] := by simp [rd_T24, hl]
  rw [e1, e2]
  rfl

end Go.Proofs.Ytibmehephlngfaa.Q
