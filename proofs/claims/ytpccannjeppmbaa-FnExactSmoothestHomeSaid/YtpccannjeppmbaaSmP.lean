/- The smoothest way home as plain functions: over courses, by rings that are left; and how great its sums are. -/
import Derived.Test.YtpccannjeppmbaaQ0
namespace Go.Proofs.Ytpccannjeppmbaa.Q
open Go.Proofs.YtpccannjeppmbaaW.PrintWords
set_option linter.unusedVariables false
set_option linter.unusedSimpArgs false

instance instDecS31 : DecidableEq S31 := fun x y =>
  if h : x.f0 = y.f0 ∧ x.f1 = y.f1 ∧ x.f2 = y.f2 then isTrue (by cases x; cases y; simp only at h; obtain ⟨rfl, rfl, rfl⟩ := h; rfl) else isFalse (fun e => h (by rw [e]; exact ⟨rfl, rfl, rfl⟩))

def home : S31 := ⟨0, 0, 0⟩
def insS (a : Int) (c : S31) : Bool := decide ((-40 ≤ c.f0 ∧ c.f0 ≤ 40) ∧ (-10 ≤ c.f1 ∧ c.f1 ≤ 10) ∧ (-a ≤ c.f2 ∧ c.f2 ≤ a))
theorem insS_iff {a : Int} {c : S31} : insS a c = true ↔ (-40 ≤ c.f0 ∧ c.f0 ≤ 40) ∧ (-10 ≤ c.f1 ∧ c.f1 ≤ 10) ∧ (-a ≤ c.f2 ∧ c.f2 ≤ a) := by unfold insS; simp
def stepTo (c : S31) (u : Int) : S31 := ⟨c.f0 + c.f1, c.f1 + u, u⟩
def okTo (a b : Int) (c : S31) (u : Int) : Bool := decide (-b ≤ u - c.f2 ∧ u - c.f2 ≤ b) && insS a (stepTo c u)
theorem okTo_ins {a b : Int} {c : S31} {u : Int} (h : okTo a b c u = true) : insS a (stepTo c u) = true := (Bool.and_eq_true_iff.1 h).2
/-- All turns from u on, so many, that may be made. -/
def turnsG (a b : Int) (c : S31) : Nat → Int → List Int
  | 0, _ => []
  | k + 1, u => if okTo a b c u = true then u :: turnsG a b c k (u + 1) else turnsG a b c k (u + 1)
def turnsP (a b : Int) (c : S31) : List Int := turnsG a b c (2 * a + 1).toNat (-a)
theorem turnsG_mem {a b : Int} {c : S31} : ∀ (k : Nat) (u : Int), ∀ x ∈ turnsG a b c k u, okTo a b c x = true ∧ u ≤ x ∧ x < u + k
  | 0, u, x, h => by cases h
  | k + 1, u, x, h => by
    unfold turnsG at h
    by_cases hk : okTo a b c u = true
    · rw [if_pos hk] at h
      rcases List.mem_cons.1 h with e | h
      · subst e; exact ⟨hk, by omega, by omega⟩
      · have := turnsG_mem k (u + 1) x h; exact ⟨this.1, by omega, by omega⟩
    · rw [if_neg hk] at h
      have := turnsG_mem k (u + 1) x h; exact ⟨this.1, by omega, by omega⟩
theorem turnsP_mem {a b : Int} (ha : 1 ≤ a ∧ a ≤ 3) {c : S31} {x : Int} (h : x ∈ turnsP a b c) : okTo a b c x = true ∧ -a ≤ x ∧ x ≤ a := by
  have := turnsG_mem _ _ x h
  exact ⟨this.1, by omega, by omega⟩
theorem turnsG_len {a b : Int} {c : S31} : ∀ (k : Nat) (u : Int), (turnsG a b c k u).length ≤ k
  | 0, u => Nat.le_refl _
  | k + 1, u => by
    unfold turnsG
    have := turnsG_len (a := a) (b := b) (c := c) k (u + 1)
    split
    · simp only [List.length_cons]; omega
    · omega
theorem turnsP_len {a b : Int} (ha : 1 ≤ a ∧ a ≤ 3) {c : S31} : (turnsP a b c).length ≤ 7 := Nat.le_trans (turnsG_len _ _) (by omega)

/-- A plan: the sum of its squares, its turns, and whether there is one. -/
abbrev Pl := Int × List Int × Bool
/-- The better one of what was found and what the turn u leads to. -/
def pickS (rest : Pl) (c : S31) (u : Int) (s : Pl) : Pl :=
  if rest.2.2 = true ∧ (s.2.2 = false ∨ rest.1 + (u - c.f2) * (u - c.f2) < s.1) then (rest.1 + (u - c.f2) * (u - c.f2), u :: rest.2.1, true) else s
def foldS (f : S31 → Pl) (c : S31) : List Int → Pl → Pl
  | [], s => s
  | u :: r, s => foldS f c r (pickS (f (stepTo c u)) c u s)
def smP (a b : Int) : Nat → S31 → Pl
  | 0, c => (0, [], decide (c = home))
  | k + 1, c => foldS (smP a b k) c (turnsP a b c) (0, [], false)
theorem foldS_at (f : S31 → Pl) (c : S31) (l : List Int) (s : Pl) (x : Int) (h0 : 0 ≤ x) (h1 : x < l.length) :
    foldS f c (l.drop x.toNat) s = foldS f c (l.drop (x + 1).toNat) (pickS (f (stepTo c (rd l x))) c (rd l x) s) := by
  have hl : x.toNat < l.length := by omega
  rw [List.drop_eq_getElem_cons hl]
  have e1 : (x + 1).toNat = x.toNat + 1 := by omega
  have e2 : rd l x = l[x.toNat] := by simp [rd, hl]
  rw [e1, e2]
  rfl

/-- What a plan of k rings comes to. -/
def Fair (k : Nat) (s : Pl) : Prop := 0 ≤ s.1 ∧ s.1 ≤ 36 * (k : Int) ∧ s.2.1.length ≤ k
theorem square_le {d : Int} (h : -6 ≤ d ∧ d ≤ 6) : 0 ≤ d * d ∧ d * d ≤ 36 := by
  obtain ⟨h1, h2⟩ := h
  have : d = -6 ∨ d = -5 ∨ d = -4 ∨ d = -3 ∨ d = -2 ∨ d = -1 ∨ d = 0 ∨ d = 1 ∨ d = 2 ∨ d = 3 ∨ d = 4 ∨ d = 5 ∨ d = 6 := by omega
  rcases this with h | h | h | h | h | h | h | h | h | h | h | h | h <;> subst h <;> decide
theorem pickS_fair {k : Nat} {rest s : Pl} {c : S31} {u : Int} (hr : Fair k rest) (hd : -6 ≤ u - c.f2 ∧ u - c.f2 ≤ 6) (hs : Fair (k + 1) s) : Fair (k + 1) (pickS rest c u s) := by
  unfold pickS
  by_cases h : rest.2.2 = true ∧ (s.2.2 = false ∨ rest.1 + (u - c.f2) * (u - c.f2) < s.1)
  · rw [if_pos h]
    obtain ⟨q1, q2⟩ := square_le hd
    obtain ⟨r1, r2, r3⟩ := hr
    refine ⟨?_, ?_, ?_⟩
    · show 0 ≤ rest.1 + (u - c.f2) * (u - c.f2)
      omega
    · show rest.1 + (u - c.f2) * (u - c.f2) ≤ 36 * ((k + 1 : Nat) : Int)
      omega
    · show (u :: rest.2.1).length ≤ k + 1
      simp only [List.length_cons]
      omega
  · rw [if_neg h]; exact hs
theorem foldS_fair {a b : Int} {k : Nat} {f : S31 → Pl} {c : S31} (ha : 1 ≤ a ∧ a ≤ 3) (hc : insS a c = true) (hf : ∀ d, insS a d = true → Fair k (f d)) : ∀ (l : List Int) (s : Pl), (∀ u ∈ l, okTo a b c u = true ∧ -a ≤ u ∧ u ≤ a) → Fair (k + 1) s → Fair (k + 1) (foldS f c l s)
  | [], s, _, hs => hs
  | u :: r, s, hl, hs => by
    obtain ⟨h1, h2, h3⟩ := hl u (by simp)
    have hc2 := (insS_iff.1 hc).2.2
    exact foldS_fair ha hc hf r _ (fun v hv => hl v (by simp [hv])) (pickS_fair (hf _ (okTo_ins h1)) (by omega) hs)
theorem smP_fair {a b : Int} (ha : 1 ≤ a ∧ a ≤ 3) : ∀ (k : Nat) (c : S31), insS a c = true → Fair k (smP a b k c)
  | 0, c, _ => ⟨Int.le_refl 0, Int.le_refl 0, Nat.le_refl 0⟩
  | k + 1, c, hc => by
    refine foldS_fair ha hc (fun d hd => smP_fair ha k d hd) _ _ (fun u hu => turnsP_mem ha hu) ⟨Int.le_refl 0, ?_, Nat.zero_le _⟩
    show (0 : Int) ≤ 36 * ((k + 1 : Nat) : Int)
    omega

/-- How often the table is written at most. -/
def cnt : Nat → Nat
  | 0 => 0
  | k + 1 => 7 * cnt k + 2
theorem cnt_le : ∀ (k : Nat), k ≤ 8 → cnt k ≤ 1921600 := by
  intro k hk
  have : k = 0 ∨ k = 1 ∨ k = 2 ∨ k = 3 ∨ k = 4 ∨ k = 5 ∨ k = 6 ∨ k = 7 ∨ k = 8 := by omega
  rcases this with h | h | h | h | h | h | h | h | h <;> subst h <;> decide

end Go.Proofs.Ytpccannjeppmbaa.Q
