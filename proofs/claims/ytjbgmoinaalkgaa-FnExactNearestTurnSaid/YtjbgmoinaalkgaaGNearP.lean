/- Plain lemmas for NearestTurn: the search as the program makes it and as the reference makes it, and that both find the same tube. -/
import Derived.Test.YtjbgmoinaalkgaaQ0
import Derived.Test.YtjbgmoinaalkgaaQ4
import Derived.Test.YtjbgmoinaalkgaaQ5
import Derived.Test.YtjbgmoinaalkgaaQ8
import Derived.Test.YtjbgmoinaalkgaaQ10
import Derived.Test.YtjbgmoinaalkgaaQ11
import Derived.Test.YtjbgmoinaalkgaaGTurn
import Derived.Test.YtjbgmoinaalkgaaGWithin
import Derived.Test.YtjbgmoinaalkgaaGCost
namespace Go.Proofs.Ytjbgmoinaalkgaa.Q
open Go.RowKit Go.Proofs.YtjbgmoinaalkgaaW.PrintWords Go.Proofs.YtjbgmoinaalkgaaW.PrintLast
set_option linter.unusedVariables false
set_option linter.unusedSimpArgs false

theorem nw64 {x : Int} (h : -9223372036854775808 ≤ x ∧ x ≤ 9223372036854775807) : wrap64 x = x := by unfold wrap64; omega
def ringB (a b : Int) : Bool := inR 0 1 a && inR 0 15 b
theorem ninR {lo hi n : Int} (h : inR lo hi n = true) : lo ≤ n ∧ n ≤ hi := by simpa [inR] using h
theorem ring_fin {a b : Int} (h : ringB a b = true) : ∃ (x : Fin 2) (y : Fin 16), a = (x.val : Int) ∧ b = (y.val : Int) := by
  simp only [ringB, Bool.and_eq_true] at h
  have h1 := ninR h.1
  have h2 := ninR h.2
  exact ⟨⟨a.toNat, by omega⟩, ⟨b.toNat, by omega⟩, by simp; omega, by simp; omega⟩

def tn (a b : Int) : Int × Int := (impl_Ring_turn.f a b).getD (0, 0)
theorem tn_fin : ∀ (x : Fin 2) (y : Fin 16), impl_Ring_turn.f (x.val : Int) (y.val : Int) = some (tn (x.val : Int) (y.val : Int)) ∧ spec_l03Turn.f (x.val : Int) (y.val : Int) = some (tn (x.val : Int) (y.val : Int)) ∧
    (-10 ≤ (tn (x.val : Int) (y.val : Int)).1 ∧ (tn (x.val : Int) (y.val : Int)).1 ≤ 10) ∧ (-10 ≤ (tn (x.val : Int) (y.val : Int)).2 ∧ (tn (x.val : Int) (y.val : Int)).2 ≤ 10) := by decide +kernel
theorem tn_both {a b : Int} (h : ringB a b = true) : impl_Ring_turn.f a b = some (tn a b) ∧ spec_l03Turn.f a b = some (tn a b) ∧ (-10 ≤ (tn a b).1 ∧ (tn a b).1 ≤ 10) ∧ (-10 ≤ (tn a b).2 ∧ (tn a b).2 ≤ 10) := by
  obtain ⟨x, y, rfl, rfl⟩ := ring_fin h
  exact tn_fin x y

def okK (a b : Int) : Bool := (impl_meeting.f 100 0 a 0 b).map (fun l => decide (l.length = 0)) == some true
theorem ok_fin : ∀ (a b : Fin 2) (x y : Fin 16), ((impl_meeting.f 100 (a.val : Int) (x.val : Int) (b.val : Int) (y.val : Int)).map fun l => (decide (l.length = 0), decide (l.length ≤ 10))) = some (okK (x.val : Int) (y.val : Int), true) := by decide +kernel
theorem ok_meet {a b c d : Int} (h : ringB a b = true) (h' : ringB c d = true) : ∃ l, impl_meeting.f 100 a b c d = some l ∧ decide ((l.length : Int) = 0) = okK b d ∧ l.length ≤ 10 := by
  obtain ⟨x, y, rfl, rfl⟩ := ring_fin h
  obtain ⟨z, u, rfl, rfl⟩ := ring_fin h'
  have := ok_fin x z y u
  cases hm : impl_meeting.f 100 (x.val : Int) (y.val : Int) (z.val : Int) (u.val : Int) with
  | none => rw [hm] at this; cases this
  | some l =>
    rw [hm] at this
    simp only [Option.map_some, Option.some.injEq, Prod.mk.injEq] at this
    refine ⟨l, rfl, ?_, of_decide_eq_true this.2⟩
    rw [← this.1]
    congr 1
    simp

/-- The rings of one kind from a key on. -/
def rowF : Nat → Int → Int → List S27
  | 0, _, _ => []
  | n + 1, kind, key => ⟨kind, key⟩ :: rowF n kind (key + 1)
def rest : Nat → Int → List S27
  | 0, _ => []
  | m + 1, kind => rowF 16 kind 0 ++ rest m (kind + 1)
def allR : List S27 := rest 2 0
def folY (y : Int) : List S27 := allR.filter fun r => okK y r.f1

def pr (l : List S27) : List (Int × Int) := l.map fun r => (r.f0, r.f1)
theorem pr_inj : ∀ {l m : List S27}, pr l = pr m → l = m
  | [], [], _ => rfl
  | [], _ :: _, h => by cases h
  | _ :: _, [], h => by cases h
  | ⟨a, b⟩ :: l, ⟨c, d⟩ :: m, h => by
    unfold pr at h
    simp only [List.map_cons, List.cons.injEq, Prod.mk.injEq] at h
    obtain ⟨⟨rfl, rfl⟩, h⟩ := h
    rw [pr_inj h]
theorem fol_fin : ∀ (y : Fin 16), (((spec_l03Next.f 100 (y.val : Int)).bind fun l => (spec_l03All.f 100 l).map fun q => (l.length, pr q)) = some (5, pr (folY (y.val : Int)))) ∧ (folY (y.val : Int)).length = 10 := by decide +kernel
theorem fol_both {a b : Int} (h : ringB a b = true) : ∃ l, spec_l03Next.f 100 b = some l ∧ spec_l03All.f 100 l = some (folY b) ∧ (folY b).length = 10 := by
  obtain ⟨x, y, rfl, rfl⟩ := ring_fin h
  obtain ⟨h1, h2⟩ := fol_fin y
  obtain ⟨l, hl, h3⟩ := Option.bind_eq_some_iff.1 h1
  obtain ⟨q, hq, h4⟩ := Option.map_eq_some_iff.1 h3
  simp only [Prod.mk.injEq] at h4
  exact ⟨l, hl, by rw [hq, pr_inj h4.2], h2⟩
theorem all_ok : ∀ r ∈ allR, ringB r.f0 r.f1 = true := by decide +kernel
theorem fol_ok {y : Int} : ∀ r ∈ folY y, ringB r.f0 r.f1 = true := fun r hr => all_ok r (List.mem_filter.1 hr).1

def tot (l : List S27) : Int × Int := l.foldl (fun s r => (s.1 + (tn r.f0 r.f1).1, s.2 + (tn r.f0 r.f1).2)) (0, 0)
theorem rd27_at (pre : List S27) (p : S27) (post : List S27) : rd_T27 (pre ++ p :: post) (pre.length : Int) = p := by simp [rd_T27]

theorem tot_at (post : List S27) : ∀ (pre : List S27) (k : Nat) (x y : Int), (pre.length : Int) + post.length ≤ 60 → post.length < k → (∀ z ∈ post, ringB z.f0 z.f1 = true) → (-10 * pre.length ≤ x ∧ x ≤ 10 * pre.length) → (-10 * pre.length ≤ y ∧ y ≤ 10 * pre.length) →
    let r := post.foldl (fun s r => (s.1 + (tn r.f0 r.f1).1, s.2 + (tn r.f0 r.f1).2)) (x, y)
    spec_l03Total.l0 k (pre ++ post) x y pre.length = some r ∧ impl_totalTurn.l0 k x y (pre ++ post) ((pre ++ post).length : Int) pre.length = some r ∧ (-600 ≤ r.1 ∧ r.1 ≤ 600) ∧ (-600 ≤ r.2 ∧ r.2 ≤ 600) := by
  induction post with
  | nil =>
    intro pre k x y hp hk hv hx hy
    have hn : ¬ ((pre.length : Int) < ((pre ++ []).length : Int)) := by simp
    obtain ⟨k, rfl⟩ : ∃ m, k = m + 1 := ⟨k - 1, by omega⟩
    simp only [List.length_nil] at hp
    refine ⟨by rw [spec_l03Total.l0, if_neg hn]; rfl, by rw [impl_totalTurn.l0, if_neg hn]; rfl, ?_, ?_⟩
    · simp only [List.foldl_nil]; omega
    · simp only [List.foldl_nil]; omega
  | cons z post ih =>
    intro pre k x y hp hk hv hx hy
    simp only [List.length_cons] at hp hk
    obtain ⟨k, rfl⟩ : ∃ m, k = m + 1 := ⟨k - 1, by omega⟩
    have hlt : (pre.length : Int) < ((pre ++ z :: post).length : Int) := by simp <;> omega
    have h0' : (0 : Int) ≤ (pre.length : Int) := by omega
    have e2 : wrap64 ((pre.length : Int) + 1) = ((pre ++ [z]).length : Int) := by rw [nw64 (by omega)]; simp
    have e3 : pre ++ z :: post = (pre ++ [z]) ++ post := by simp
    obtain ⟨t1, t2, t3, t4⟩ := tn_both (hv z (by simp))
    have i := ih (pre ++ [z]) k (x + (tn z.f0 z.f1).1) (y + (tn z.f0 z.f1).2) (by simp <;> omega) (by omega) (fun z hz => hv z (by simp [hz])) (by simp <;> omega) (by simp <;> omega)
    simp only [List.foldl_cons]
    obtain ⟨i1, i2, i3⟩ := i
    refine ⟨?_, ?_, i3⟩
    · rw [spec_l03Total.l0, if_pos hlt, if_pos h0', rd27_at, t2, Option.bind_some, e2, e3, nw64 (by omega), nw64 (by omega)]; exact i1
    · rw [impl_totalTurn.l0, if_pos hlt, if_pos h0', if_pos hlt, rd27_at, t1, Option.bind_some, e2, e3, nw64 (by omega), nw64 (by omega)]; exact i2

def validT (l : List S27) : Prop := l.length ≤ 4 ∧ ∀ z ∈ l, ringB z.f0 z.f1 = true
theorem tot_both {l : List S27} (h : validT l) : spec_l03Total.f 100 l = some (tot l) ∧ impl_totalTurn.f 100 l = some (tot l) ∧ (-600 ≤ (tot l).1 ∧ (tot l).1 ≤ 600) ∧ (-600 ≤ (tot l).2 ∧ (tot l).2 ≤ 600) := by
  have := tot_at l [] 100 0 0 (by have := h.1; simp; omega) (by have := h.1; omega) h.2 (by simp) (by simp)
  exact this

def cst (B R : Int) (t : List S27) : Int := iab (B - (tot t).1) + iab (R - (tot t).2)
theorem cst_nn (B R : Int) (t : List S27) : 0 ≤ cst B R t := by unfold cst iab mx; split <;> split <;> omega

abbrev St := List S27 × Int × Bool
def upd (B R : Int) (t : List S27) (s : St) : St := if s.2.2 = false ∨ cst B R t < s.2.1 then (t, cst B R t, true) else s
def extL (f : S27 → St → St) (y : Int) : List S27 → St → St
  | [], s => s
  | r :: rs, s => extL f y rs (if okK y r.f1 = true then f r s else s)
def ext (B R : Int) : Nat → S27 → List S27 → St → St
  | 0, _, t, s => upd B R t s
  | n + 1, last, t, s => extL (fun r s => ext B R n r (t ++ [r]) s) last.f1 allR s
def nearL (f : S27 → List S27 × Int) : List S27 → (List S27 × Int) → (List S27 × Int)
  | [], p => p
  | r :: rs, p => nearL f rs (if p.2 < 0 ∨ (f r).2 < p.2 then f r else p)
def near (B R : Int) : Nat → S27 → List S27 → List S27 × Int
  | 0, _, t => (t, cst B R t)
  | n + 1, last, t => nearL (fun r => near B R n r (t ++ [r])) (folY last.f1) ([], -1)

def mrg (s : St) (p : List S27 × Int) : St := if p.2 < 0 then s else if s.2.2 = false ∨ p.2 < s.2.1 then (p.1, p.2, true) else s
theorem nearL_nn (g : S27 → List S27 × Int) (hg : ∀ r, 0 ≤ (g r).2) : ∀ (L : List S27) (p : List S27 × Int), (0 ≤ p.2 ∨ L ≠ []) → 0 ≤ (nearL g L p).2
  | [], p, h => by rcases h with h | h; exact h; exact absurd rfl h
  | r :: rs, p, h => by
    rw [nearL]
    refine nearL_nn g hg rs _ (Or.inl ?_)
    have := hg r
    split
    · exact this
    · omega
theorem mrg_step (s : St) (p q : List S27 × Int) (hq : 0 ≤ q.2) : mrg (mrg s p) q = mrg s (if p.2 < 0 ∨ q.2 < p.2 then q else p) := by
  obtain ⟨p1, p2⟩ := p
  obtain ⟨q1, q2⟩ := q
  obtain ⟨b, l, f⟩ := s
  unfold mrg
  simp only at hq ⊢
  have n0 : ¬ q2 < 0 := by omega
  by_cases h1 : p2 < 0 <;> by_cases h2 : q2 < p2 <;> by_cases h3 : p2 < l <;> by_cases h4 : q2 < l <;> cases f <;> simp [h1, h2, h3, h4, n0] <;> omega
theorem extL_eq (g : S27 → List S27 × Int) (hg : ∀ r, 0 ≤ (g r).2) (f : S27 → St → St) (y : Int) (hf : ∀ r s, f r s = mrg s (g r)) : ∀ (L : List S27) (s : St) (p : List S27 × Int), extL f y L (mrg s p) = mrg s (nearL g (L.filter fun r => okK y r.f1) p)
  | [], s, p => rfl
  | r :: rs, s, p => by
    rw [extL]
    by_cases h : okK y r.f1 = true
    · rw [if_pos h, List.filter_cons_of_pos (by simpa using h), nearL, hf, mrg_step _ _ _ (hg r)]
      exact extL_eq g hg f y hf rs s _
    · rw [if_neg h, List.filter_cons_of_neg (by simpa using h)]
      exact extL_eq g hg f y hf rs s p
theorem extL_congr {f f' : S27 → St → St} {y : Int} (h : ∀ r s, ringB r.f0 r.f1 = true → f r s = f' r s) : ∀ (L : List S27) (s : St), (∀ r ∈ L, ringB r.f0 r.f1 = true) → extL f y L s = extL f' y L s
  | [], s, _ => rfl
  | r :: rs, s, hl => by
    rw [extL, extL, h r s (hl r (by simp))]
    exact extL_congr h rs _ (fun r hr => hl r (by simp [hr]))

theorem near_nn (B R : Int) : ∀ (n : Nat) (last : S27) (t : List S27), ringB last.f0 last.f1 = true → 0 ≤ (near B R n last t).2
  | 0, _, t, _ => cst_nn B R t
  | n + 1, last, t, h => by
    rw [near]
    have key : nearL (fun r => near B R n r (t ++ [r])) (folY last.f1) ([], -1) = nearL (fun r => if ringB r.f0 r.f1 = true then near B R n r (t ++ [r]) else ([], 0)) (folY last.f1) ([], -1) := by
      have : ∀ (L : List S27) (p : List S27 × Int), (∀ r ∈ L, ringB r.f0 r.f1 = true) → nearL (fun r => near B R n r (t ++ [r])) L p = nearL (fun r => if ringB r.f0 r.f1 = true then near B R n r (t ++ [r]) else ([], 0)) L p := by
        intro L
        induction L with
        | nil => intro p _; rfl
        | cons r rs ih =>
          intro p hl
          rw [nearL, nearL, if_pos (hl r (by simp))]
          exact ih _ (fun r hr => hl r (by simp [hr]))
      exact this _ _ fol_ok
    rw [key]
    refine nearL_nn _ (fun r => ?_) _ _ (Or.inr ?_)
    · split
      · exact near_nn B R n r _ (by assumption)
      · exact Int.le_refl 0
    · intro e
      obtain ⟨_, _, _, h10⟩ := fol_both h
      rw [e] at h10
      simp at h10

theorem ext_eq (B R : Int) : ∀ (n : Nat) (last : S27) (t : List S27) (s : St), ringB last.f0 last.f1 = true → ext B R n last t s = mrg s (near B R n last t)
  | 0, last, t, s, _ => by
    have := cst_nn B R t
    rw [ext, near]
    unfold upd mrg
    have n0 : ¬ (cst B R t < 0) := by omega
    simp only [n0, if_false]
  | n + 1, last, t, s, h => by
    rw [ext, near]
    have e1 : s = mrg s ([], -1) := by unfold mrg; simp
    let g : S27 → List S27 × Int := fun r => if ringB r.f0 r.f1 = true then near B R n r (t ++ [r]) else ([], 0)
    have hg : ∀ r, 0 ≤ (g r).2 := fun r => by
      show 0 ≤ (if ringB r.f0 r.f1 = true then near B R n r (t ++ [r]) else ([], 0)).2
      split
      · exact near_nn B R n r _ (by assumption)
      · exact Int.le_refl 0
    have e2 := extL_eq g hg (fun r s => mrg s (g r)) last.f1 (fun _ _ => rfl) allR s ([], -1)
    rw [← e1] at e2
    have e3 : extL (fun r s => ext B R n r (t ++ [r]) s) last.f1 allR s = extL (fun r s => mrg s (g r)) last.f1 allR s := extL_congr (fun r s hr => by
      show ext B R n r (t ++ [r]) s = mrg s (if ringB r.f0 r.f1 = true then near B R n r (t ++ [r]) else ([], 0))
      rw [if_pos hr]
      exact ext_eq B R n r (t ++ [r]) s hr) allR s all_ok
    have e4 : nearL g (allR.filter fun r => okK last.f1 r.f1) ([], -1) = nearL (fun r => near B R n r (t ++ [r])) (folY last.f1) ([], -1) := by
      have : ∀ (L : List S27) (p : List S27 × Int), (∀ r ∈ L, ringB r.f0 r.f1 = true) → nearL g L p = nearL (fun r => near B R n r (t ++ [r])) L p := by
        intro L
        induction L with
        | nil => intro p _; rfl
        | cons r rs ih =>
          intro p hl
          have eg : g r = near B R n r (t ++ [r]) := if_pos (hl r (by simp))
          rw [nearL, nearL, eg]
          exact ih _ (fun r hr => hl r (by simp [hr]))
      exact this _ _ fol_ok
    rw [e3, e2, e4]

def impl_NearestTurn.f (a0_0 a0_1 a1 a2 a3 : Int) : Option (List S27 × Int × Bool) :=
  if inR (-100000) 100000 a2 = true ∧ inR (-100000) 100000 a3 = true ∧ ringB a0_0 a0_1 = true ∧ inR 1 4 a1 = true then some ((near a2 a3 a1.toNat ⟨a0_0, a0_1⟩ []).1, (near a2 a3 a1.toNat ⟨a0_0, a0_1⟩ []).2, true) else some ([], 0, false)
def spec_l03Nearest.f (a0_0 a0_1 : Int) (l1 : List S27) (a2 a3 a4 : Int) : Option (List S27 × Int) :=
  if inR (-100000) 100000 a3 = true ∧ inR (-100000) 100000 a4 = true ∧ ringB a0_0 a0_1 = true ∧ inR 1 4 a2 = true ∧ l1 = [] then some (near a3 a4 a2.toNat ⟨a0_0, a0_1⟩ []) else none

end Go.Proofs.Ytjbgmoinaalkgaa.Q
