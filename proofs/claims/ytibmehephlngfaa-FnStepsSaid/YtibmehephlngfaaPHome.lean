/- The reference's table of all courses and the program's map of distances tell the same: both walk back from home in the same order. -/
import Derived.Test.YtibmehephlngfaaQ0
import Derived.Test.YtibmehephlngfaaQ13
import Derived.Test.YtibmehephlngfaaQ18
import Derived.Test.YtibmehephlngfaaPCourse
import Derived.Test.YtibmehephlngfaaGDistP
namespace Go.Proofs.Ytibmehephlngfaa.Pure
open Go.RowKit Go.Proofs.Ytibmehephlngfaa.Q Go.Proofs.YtibmehephlngfaaW.PrintWords Go.Proofs.YtibmehephlngfaaW.PrintLast
set_option linter.unusedVariables false
set_option linter.unusedSimpArgs false

def tv (M : List (S24 × Int)) (c : S24) : Int := match mget M c with
  | none => 0
  | some n => n + 1
def RelT (a : Int) (T : List Int) (M : List (S24 × Int)) : Prop := T.length = 11907 ∧ ∀ c, insS a c = true → rd T (spotN c : Int) = tv M c
def ValM (M : List (S24 × Int)) : Prop := ∀ c n, mget M c = some n → 0 ≤ n ∧ n ≤ 40

theorem insB_insS {a : Int} (ha : 1 ≤ a ∧ a ≤ 3) (o h t : Int) : insB a o h t = insS a ⟨o, h, t⟩ := by
  unfold insB insS inR
  rw [w64 (x := -a) (by omega)]
  by_cases h1 : -40 ≤ o <;> by_cases h2 : o ≤ 40 <;> by_cases h3 : -10 ≤ h <;> by_cases h4 : h ≤ 10 <;> simp [h1, h2, h3, h4]
theorem spot_eq {a : Int} (ha : 1 ≤ a ∧ a ≤ 3) {c : S24} (hc : insS a c = true) : spec_l05Spot.f c.f0 c.f1 c.f2 = some (spotN c : Int) := by
  obtain ⟨h0, h1, h2⟩ := insS_iff.1 hc
  unfold spec_l05Spot.f spotN
  rw [w64 (x := c.f0 + 40) (by omega), w64 (x := (c.f0 + 40) * 21) (by omega), w64 (x := (c.f0 + 40) * 21 + c.f1) (by omega), w64 (x := (c.f0 + 40) * 21 + c.f1 + 10) (by omega),
    w64 (x := ((c.f0 + 40) * 21 + c.f1 + 10) * 7) (by omega), w64 (x := ((c.f0 + 40) * 21 + c.f1 + 10) * 7 + c.f2) (by omega), w64 (x := ((c.f0 + 40) * 21 + c.f1 + 10) * 7 + c.f2 + 3) (by omega)]
  congr 1
  omega

theorem tv_snoc {M : List (S24 × Int)} {p : S24} {n : Int} (hn : ¬ (mget M p).isSome = true) (c : S24) : tv (M ++ [(p, n)]) c = if c = p then n + 1 else tv M c := by
  unfold tv
  rw [mget_snoc M p n hn c]
  by_cases e : c = p
  · rw [if_pos e, if_pos e]
  · rw [if_neg e, if_neg e]
theorem RelT.put {a : Int} (ha : 1 ≤ a ∧ a ≤ 3) {T : List Int} {M : List (S24 × Int)} (h : RelT a T M) {p : S24} {n : Int} (hp : insS a p = true) (hn : ¬ (mget M p).isSome = true) : RelT a (T.set ((spotN p : Int)).toNat (n + 1)) (M ++ [(p, n)]) := by
  refine ⟨by rw [List.length_set]; exact h.1, fun c hc => ?_⟩
  rw [tv_snoc hn c, ← h.2 c hc]
  have hl := spotN_lt ha.2 hp
  have hl2 := spotN_lt ha.2 hc
  have hT := h.1
  unfold rd
  rw [Int.toNat_natCast, Int.toNat_natCast, List.getD_eq_getElem?_getD, List.getD_eq_getElem?_getD, List.getElem?_set]
  by_cases e : c = p
  · subst e
    rw [if_pos rfl, if_pos rfl, if_pos (by omega)]
    rfl
  · rw [if_neg e, if_neg (fun e2 => e (spotN_inj ha.2 hp hc e2).symm)]
theorem ValM.put {M : List (S24 × Int)} (h : ValM M) {p : S24} {n : Int} (hn : ¬ (mget M p).isSome = true) (h0 : 0 ≤ n ∧ n ≤ 40) : ValM (M ++ [(p, n)]) := by
  intro c v hv
  rw [mget_snoc M p n hn c] at hv
  by_cases e : c = p
  · rw [if_pos e] at hv
    obtain rfl := Option.some.inj hv
    exact h0
  · rw [if_neg e] at hv
    exact h c v hv

/-- What holds of the map, and of the new courses, while the ring before is walked. -/
structure InvA (a n : Int) (s : MB) : Prop where
  b : InvB a s
  v : ValM s.1
  w : ∀ c ∈ s.2, mget s.1 c = some n
theorem stepD_cases (a b n : Int) (c : S24) (s : MB) (u : Int) : (stepD a b n c s u = s) ∨ (fitP a b c u = true ∧ ¬ (mget s.1 (prevOf c u)).isSome = true ∧ stepD a b n c s u = (s.1 ++ [(prevOf c u, n)], s.2 ++ [prevOf c u])) := by
  unfold stepD
  by_cases h1 : fitP a b c u = true
  · by_cases h2 : (mget s.1 (prevOf c u)).isSome = true
    · exact Or.inl (by rw [if_pos h1, if_pos h2])
    · exact Or.inr ⟨h1, h2, by rw [if_pos h1, if_neg h2]⟩
  · exact Or.inl (by rw [if_neg h1])
theorem mget_keep {M : List (S24 × Int)} {p : S24} {n : Int} (hn : ¬ (mget M p).isSome = true) {c : S24} {v : Int} (h : mget M c = some v) : mget (M ++ [(p, n)]) c = some v := by
  rw [mget_snoc M p n hn c, if_neg (fun e => by subst e; rw [h] at hn; exact hn rfl)]
  exact h
theorem stepD_keep {a b n : Int} {c : S24} {s : MB} {u : Int} {d : S24} {v : Int} (h : mget s.1 d = some v) : mget (stepD a b n c s u).1 d = some v := by
  rcases stepD_cases a b n c s u with e | ⟨_, h2, e⟩
  · rw [e]; exact h
  · rw [e]; exact mget_keep h2 h
theorem stepD_invA {a b n : Int} (hn : 0 ≤ n ∧ n ≤ 40) {c : S24} {s : MB} {u : Int} (h : InvA a n s) : InvA a n (stepD a b n c s u) := by
  refine ⟨stepD_inv h.b, ?_, ?_⟩
  · rcases stepD_cases a b n c s u with e | ⟨_, h2, e⟩
    · rw [e]; exact h.v
    · rw [e]; exact h.v.put h2 hn
  · rcases stepD_cases a b n c s u with e | ⟨_, h2, e⟩
    · rw [e]; exact h.w
    · rw [e]
      intro x hx
      rcases List.mem_append.1 hx with hx | hx
      · exact mget_keep h2 (h.w x hx)
      · simp only [List.mem_singleton] at hx
        subst hx
        rw [mget_snoc _ _ _ h2, if_pos rfl]
theorem innerD_keep {a b n : Int} {c : S24} {d : S24} {v : Int} : ∀ (k : Nat) (u : Int) (s : MB), mget s.1 d = some v → mget (innerD a b n c k u s).1 d = some v
  | 0, _, _, h => h
  | k + 1, u, s, h => innerD_keep k (u + 1) _ (stepD_keep h)
theorem innerD_invA {a b n : Int} (hn : 0 ≤ n ∧ n ≤ 40) {c : S24} : ∀ (k : Nat) (u : Int) (s : MB), InvA a n s → InvA a n (innerD a b n c k u s)
  | 0, _, _, h => h
  | k + 1, u, s, h => innerD_invA hn k (u + 1) _ (stepD_invA hn h)
theorem ringD_keep {a b n : Int} {d : S24} {v : Int} : ∀ (r : List S24) (s : MB), mget s.1 d = some v → mget (ringD a b n r s).1 d = some v
  | [], _, h => h
  | c :: r, s, h => ringD_keep r _ (innerD_keep _ _ _ h)
theorem ringD_invA {a b n : Int} (hn : 0 ≤ n ∧ n ≤ 40) : ∀ (r : List S24) (s : MB), InvA a n s → InvA a n (ringD a b n r s)
  | [], _, h => h
  | c :: r, s, h => ringD_invA hn r _ (innerD_invA hn _ _ _ h)
/-- The list of keys grows as the list of new courses does. -/
theorem stepD_keys {a b n : Int} {c : S24} {s : MB} {u : Int} {pre : List S24} (h : s.1.map (·.1) = pre ++ s.2) : (stepD a b n c s u).1.map (·.1) = pre ++ (stepD a b n c s u).2 := by
  rcases stepD_cases a b n c s u with e | ⟨_, h2, e⟩
  · rw [e]; exact h
  · rw [e]; simp only [List.map_append, List.map_cons, List.map_nil, h, List.append_assoc]
theorem innerD_keys {a b n : Int} {c : S24} {pre : List S24} : ∀ (k : Nat) (u : Int) (s : MB), s.1.map (·.1) = pre ++ s.2 → (innerD a b n c k u s).1.map (·.1) = pre ++ (innerD a b n c k u s).2
  | 0, _, _, h => h
  | k + 1, u, s, h => innerD_keys k (u + 1) _ (stepD_keys h)
theorem ringD_keys {a b n : Int} {pre : List S24} : ∀ (r : List S24) (s : MB), s.1.map (·.1) = pre ++ s.2 → (ringD a b n r s).1.map (·.1) = pre ++ (ringD a b n r s).2
  | [], _, h => h
  | c :: r, s, h => ringD_keys r _ (innerD_keys _ _ _ h)

/-! ### the reference's loops -/
section
variable {a b : Int} (ha : 1 ≤ a ∧ a ≤ 3) (hb : 1 ≤ b ∧ b ≤ 6)
include ha hb
theorem sim_step {n : Int} (hn : 1 ≤ n ∧ n ≤ 40) {c : S24} (hc : insS a c = true) {u : Int} (hu : -a ≤ u ∧ u ≤ a) {T : List Int} {s : MB} (hR : RelT a T s.1) (hI : InvA a n s) :
    ∃ T1, RelT a T1 (stepD a b n c s u).1 ∧ ∀ k x5, spec_l05Home.l1 (k + 1) T (s.1.map (·.1)) x5 n u a b c.f0 c.f1 c.f2 = spec_l05Home.l1 k T1 ((stepD a b n c s u).1.map (·.1)) x5 n (u + 1) a b c.f0 c.f1 c.f2 := by
  obtain ⟨h0, h1, h2⟩ := insS_iff.1 hc
  have e1 : wrap64 (c.f1 - c.f2) = (prevOf c u).f1 := w64 (by omega)
  have e0 : wrap64 (c.f0 - (prevOf c u).f1) = (prevOf c u).f0 := w64 (by show _ ≤ c.f0 - (c.f1 - c.f2) ∧ c.f0 - (c.f1 - c.f2) ≤ _; omega)
  have e2 : u = (prevOf c u).f2 := rfl
  have e3 : wrap64 (u + 1) = u + 1 := w64 (by omega)
  have e4 : wrap64 (c.f2 - u) = c.f2 - u := w64 (by omega)
  have e5 : wrap64 (-b) = -b := w64 (by omega)
  have e6 : wrap64 (n + 1) = n + 1 := w64 (by omega)
  have hin : insB a (prevOf c u).f0 (prevOf c u).f1 u = insS a (prevOf c u) := insB_insS ha _ _ _
  have hlen : (s.1.map (·.1)).length < 5864062014805 := by rw [List.length_map]; have := hI.b.1.short ha.2; omega
  have hun : ∀ k x5, spec_l05Home.l1 (k + 1) T (s.1.map (·.1)) x5 n u a b c.f0 c.f1 c.f2 = if insS a (prevOf c u) = true then (if inR (-b) b (c.f2 - u) = true then ((spec_l05Spot.f (prevOf c u).f0 (prevOf c u).f1 (prevOf c u).f2).bind fun t476 => (if 0 ≤ t476 then (if t476 < (T.length : Int) then (if (rd T t476) > 0 then (spec_l05Home.l1 k T (s.1.map (·.1)) x5 n (u + 1) a b c.f0 c.f1 c.f2) else ((spec_l05Spot.f (prevOf c u).f0 (prevOf c u).f1 (prevOf c u).f2).bind fun t478 => (if 0 ≤ t478 then (if t478 < (T.length : Int) then (spec_l05Home.l1 k (T.set (t478 : Int).toNat (n + 1)) (s.1.map (·.1) ++ [prevOf c u]) x5 n (u + 1) a b c.f0 c.f1 c.f2) else (none)) else (none)))) else (none)) else (none))) else (spec_l05Home.l1 k T (s.1.map (·.1)) x5 n (u + 1) a b c.f0 c.f1 c.f2)) else (spec_l05Home.l1 k T (s.1.map (·.1)) x5 n (u + 1) a b c.f0 c.f1 c.f2) := by
    intro k x5
    rw [spec_l05Home.l1, if_pos hu.2, e1, e0, sinside_eq, hin, Option.bind_some, e4, e5, in_eq, Option.bind_some, e3, e6]
    simp only [if_pos hlen]
    rfl
  by_cases hf : fitP a b c u = true
  · have hf' := hf
    unfold fitP at hf'
    rw [Bool.and_eq_true, decide_eq_true_eq] at hf'
    obtain ⟨f1, f2⟩ := hf'
    have f3 : inR (-b) b (c.f2 - u) = true := by unfold inR; rw [Bool.and_eq_true, decide_eq_true_eq, decide_eq_true_eq]; exact f2
    have hs := spot_eq ha f1
    have hl := spotN_lt ha.2 f1
    have hT := hR.1
    have hv := hR.2 _ f1
    have hun2 : ∀ k x5, spec_l05Home.l1 (k + 1) T (s.1.map (·.1)) x5 n u a b c.f0 c.f1 c.f2 = if (rd T (spotN (prevOf c u) : Int)) > 0 then (spec_l05Home.l1 k T (s.1.map (·.1)) x5 n (u + 1) a b c.f0 c.f1 c.f2) else (spec_l05Home.l1 k (T.set (spotN (prevOf c u) : Int).toNat (n + 1)) (s.1.map (·.1) ++ [prevOf c u]) x5 n (u + 1) a b c.f0 c.f1 c.f2) := by
      intro k x5
      have g1 : (0 : Int) ≤ (spotN (prevOf c u) : Int) := by omega
      have g2 : (spotN (prevOf c u) : Int) < (T.length : Int) := by omega
      rw [hun, if_pos f1, if_pos f3, hs]
      simp only [Option.bind_some, if_pos g1, if_pos g2]
    by_cases hm : (mget s.1 (prevOf c u)).isSome = true
    · have e : stepD a b n c s u = s := by unfold stepD; rw [if_pos hf, if_pos hm]
      refine ⟨T, by rw [e]; exact hR, fun k x5 => ?_⟩
      rw [hun2, e, if_pos]
      rw [hv]
      obtain ⟨v, hv2⟩ := Option.isSome_iff_exists.1 hm
      unfold tv
      rw [hv2]
      have := hI.v _ _ hv2
      show v + 1 > 0
      omega
    · have e : stepD a b n c s u = (s.1 ++ [(prevOf c u, n)], s.2 ++ [prevOf c u]) := by unfold stepD; rw [if_pos hf, if_neg hm]
      refine ⟨T.set (spotN (prevOf c u) : Int).toNat (n + 1), by rw [e]; exact hR.put ha f1 hm, fun k x5 => ?_⟩
      have h0' : ¬ (rd T (spotN (prevOf c u) : Int)) > 0 := by
        rw [hv]
        unfold tv
        cases hq : mget s.1 (prevOf c u) with
        | none => show ¬ (0 : Int) > 0; omega
        | some v => rw [hq] at hm; exact absurd rfl hm
      rw [hun2, if_neg h0', e]
      simp only [List.map_append, List.map_cons, List.map_nil]
  · have e : stepD a b n c s u = s := by unfold stepD; rw [if_neg hf]
    refine ⟨T, by rw [e]; exact hR, fun k x5 => ?_⟩
    rw [hun, e]
    by_cases f1 : insS a (prevOf c u) = true
    · rw [if_pos f1, if_neg]
      intro f3
      apply hf
      unfold fitP
      rw [f1, Bool.true_and]
      unfold inR at f3
      rw [Bool.and_eq_true, decide_eq_true_eq, decide_eq_true_eq] at f3
      exact decide_eq_true f3
    · rw [if_neg f1]

theorem sim_inner {n : Int} (hn : 1 ≤ n ∧ n ≤ 40) {c : S24} (hc : insS a c = true) : ∀ (d : Nat) (u : Int), -a ≤ u → u + d = a + 1 → ∀ (T : List Int) (s : MB), RelT a T s.1 → InvA a n s →
    ∃ T1, RelT a T1 (innerD a b n c d u s).1 ∧ ∀ k x5, spec_l05Home.l1 (k + d + 1) T (s.1.map (·.1)) x5 n u a b c.f0 c.f1 c.f2 = spec_l05Home.l0 k T1 ((innerD a b n c d u s).1.map (·.1)) (wrap64 (x5 + 1)) a b
  | 0, u, h0, h1, T, s, hR, hI => by
    refine ⟨T, hR, fun k x5 => ?_⟩
    rw [spec_l05Home.l1, if_neg (by omega)]
    rfl
  | d + 1, u, h0, h1, T, s, hR, hI => by
    obtain ⟨T1, hR1, e1⟩ := sim_step ha hb hn hc ⟨h0, by omega⟩ hR hI
    obtain ⟨T2, hR2, e2⟩ := sim_inner hn hc d (u + 1) (by omega) (by omega) T1 _ hR1 (stepD_invA ⟨by omega, hn.2⟩ hI)
    refine ⟨T2, hR2, fun k x5 => ?_⟩
    rw [show k + (d + 1) + 1 = (k + d + 1) + 1 from by omega, e1, e2]
    rfl

omit ha hb in
theorem rdL {L : List S24} {pre r : List S24} {c : S24} (h : L = pre ++ c :: r) : rd_T24 L (pre.length : Int) = c := by
  subst h
  simp [rd_T24]

/-- A ring of courses that are one ring nearer is walked. -/
theorem sim_ring {n : Int} (hn : 1 ≤ n ∧ n ≤ 40) : ∀ (r : List S24) (pre : List S24) (T : List Int) (s : MB), RelT a T s.1 → InvA a n s → (∀ c ∈ r, insS a c = true ∧ mget s.1 c = some (n - 1)) → s.1.map (·.1) = (pre ++ r) ++ s.2 →
    ∃ T1, RelT a T1 (ringD a b n r s).1 ∧ ∀ k, spec_l05Home.l0 (k + r.length * ((2 * a + 1).toNat + 2)) T (s.1.map (·.1)) (pre.length : Int) a b = spec_l05Home.l0 k T1 ((ringD a b n r s).1.map (·.1)) ((pre ++ r).length : Int) a b
  | [], pre, T, s, hR, hI, hr, hk => ⟨T, hR, fun k => by simp [ringD]⟩
  | c :: r, pre, T, s, hR, hI, hr, hk => by
    obtain ⟨hc, hmc⟩ := hr c (by simp)
    obtain ⟨T1, hR1, e1⟩ := sim_inner ha hb hn hc (2 * a + 1).toNat (-a) (by omega) (by omega) T s hR hI
    have hk1 := innerD_keys (a := a) (b := b) (n := n) (c := c) (2 * a + 1).toNat (-a) s hk
    obtain ⟨T2, hR2, e2⟩ := sim_ring hn r (pre ++ [c]) T1 (innerD a b n c (2 * a + 1).toNat (-a) s) hR1 (innerD_invA ⟨by omega, hn.2⟩ _ _ _ hI)
      (fun x hx => ⟨(hr x (by simp [hx])).1, innerD_keep _ _ _ (hr x (by simp [hx])).2⟩) (by rw [hk1]; simp)
    refine ⟨T2, hR2, fun k => ?_⟩
    have hlen : (s.1.map (·.1)).length = pre.length + (r.length + 1) + s.2.length := by rw [hk]; simp; omega
    have hsh := hI.b.1.short ha.2
    rw [List.length_map] at hlen
    have hrd : rd_T24 (s.1.map (·.1)) (pre.length : Int) = c := rdL (by rw [hk, List.append_assoc]; rfl)
    have hs := spot_eq ha hc
    have hl := spotN_lt ha.2 hc
    have hT := hR.1
    have hv : rd T (spotN c : Int) = n := by rw [hR.2 c hc]; unfold tv; rw [hmc]; show n - 1 + 1 = n; omega
    have hw : wrap64 (-a) = -a := w64 (by omega)
    have hw2 : wrap64 ((pre.length : Int) + 1) = ((pre ++ [c]).length : Int) := by rw [w64 (by omega)]; simp
    rw [show k + (c :: r).length * ((2 * a + 1).toNat + 2) = ((k + r.length * ((2 * a + 1).toNat + 2)) + (2 * a + 1).toNat + 1) + 1 from by rw [List.length_cons, Nat.add_mul]; omega]
    rw [spec_l05Home.l0, if_pos (by rw [List.length_map]; omega), if_pos (by omega), hrd, hs, Option.bind_some, if_pos (by omega), if_pos (by omega), hv, if_neg (by omega), hw, e1, hw2, e2]
    simp only [ringD, List.append_assoc, List.cons_append, List.nil_append]

theorem sim_levels : ∀ (kk : Nat) (n : Int), 1 ≤ n → n + kk = 41 → ∀ (ring pre : List S24) (T : List Int) (M : List (S24 × Int)), RelT a T M → InvM a M → ValM M → (∀ c ∈ ring, insS a c = true ∧ mget M c = some (n - 1)) → M.map (·.1) = pre ++ ring →
    ∃ K T1, RelT a T1 (levelsD a b kk n M ring) ∧ ∀ k, K ≤ k → spec_l05Home.l0 k T (M.map (·.1)) (pre.length : Int) a b = some T1
  | 0, n, h1, h2, ring, pre, T, M, hR, hI, hV, hr, hk => by
    refine ⟨1, T, hR, fun k hk2 => ?_⟩
    obtain ⟨k, rfl⟩ : ∃ m, k = m + 1 := ⟨k - 1, by omega⟩
    rw [spec_l05Home.l0]
    cases ring with
    | nil =>
      rw [if_neg]
      rw [hk]
      simp
    | cons c r =>
      obtain ⟨hc, hmc⟩ := hr c (by simp)
      have hlen : (M.map (·.1)).length = pre.length + (r.length + 1) := by rw [hk]; simp
      have hrd : rd_T24 (M.map (·.1)) (pre.length : Int) = c := rdL hk
      have hs := spot_eq ha hc
      have hl := spotN_lt ha.2 hc
      have hT := hR.1
      have hv : rd T (spotN c : Int) = n := by rw [hR.2 c hc]; unfold tv; rw [hmc]; show n - 1 + 1 = n; omega
      rw [if_pos (by omega), if_pos (by omega), hrd, hs, Option.bind_some, if_pos (by omega), if_pos (by omega), hv, if_pos (by omega)]
  | kk + 1, n, h1, h2, ring, pre, T, M, hR, hI, hV, hr, hk => by
    have hA : InvA a n (M, []) := ⟨InvB.start hI, hV, fun c hc => by cases hc⟩
    obtain ⟨T1, hR1, e1⟩ := sim_ring ha hb (n := n) ⟨h1, by omega⟩ ring pre T (M, []) hR hA hr (by rw [List.append_nil]; exact hk)
    have hA1 := ringD_invA (b := b) (n := n) ⟨by omega, by omega⟩ ring (M, []) hA
    have hk1 := ringD_keys (a := a) (b := b) (n := n) (pre := pre ++ ring) ring (M, []) (by rw [List.append_nil]; exact hk)
    obtain ⟨K, T2, hR2, e2⟩ := sim_levels kk (n + 1) (by omega) (by omega) (ringD a b n ring (M, [])).2 (pre ++ ring) T1 (ringD a b n ring (M, [])).1 hR1 hA1.b.1 hA1.v
      (fun c hc => ⟨hA1.b.2.2 c hc, by rw [hA1.w c hc]; congr 1; omega⟩) hk1
    refine ⟨K + ring.length * ((2 * a + 1).toNat + 2), T2, hR2, fun k hk2 => ?_⟩
    obtain ⟨k, rfl⟩ : ∃ m, k = m + ring.length * ((2 * a + 1).toNat + 2) := ⟨k - ring.length * ((2 * a + 1).toNat + 2), by omega⟩
    rw [e1, e2 k (by omega)]

omit ha hb in
theorem rd_rep (m : Nat) (i : Int) : rd (List.replicate m 0 : List Int) i = 0 := by
  unfold rd
  rw [List.getD_eq_getElem?_getD, List.getElem?_replicate]
  split <;> rfl
/-- The reference's table. -/
theorem home_eq : ∃ K T, RelT a T (distD a b) ∧ ∀ k, K ≤ k → spec_l05Home.f k a b = some T := by
  have hh : insS a home = true := insS_iff.2 ⟨by decide, by decide, by show -a ≤ 0 ∧ 0 ≤ a; omega⟩
  have hsp : spec_l05Spot.f 0 0 0 = some (spotN home : Int) := spot_eq ha hh
  have hl := spotN_lt ha.2 hh
  have hR0 : RelT a (List.replicate 11907 0 : List Int) [] := ⟨List.length_replicate, fun c hc => rd_rep 11907 _⟩
  have hR := hR0.put ha (n := 0) hh (by simp [mget])
  have hV : ValM [(home, 0)] := (show ValM [] from fun c n h => by simp [mget] at h).put (by simp [mget]) ⟨by omega, by omega⟩
  obtain ⟨K, T, hT, e⟩ := sim_levels ha hb 40 1 (by omega) (by omega) [home] [] _ [(home, 0)] hR (inv_home ha.1) hV (fun c hc => by
    simp only [List.mem_singleton] at hc
    subst hc
    exact ⟨hh, by simp [mget]⟩) rfl
  refine ⟨K, T, hT, fun k hk => ?_⟩
  unfold spec_l05Home.f
  rw [if_pos (by omega), Option.bind_some, hsp, Option.bind_some, if_pos (by omega), if_pos (by rw [List.length_replicate]; omega)]
  exact e k hk
omit ha hb in
theorem levels_inv (b : Int) : ∀ (kk : Nat) (n : Int), 1 ≤ n → n + kk = 41 → ∀ (ring : List S24) (M : List (S24 × Int)), InvM a M → ValM M → InvM a (levelsD a b kk n M ring) ∧ ValM (levelsD a b kk n M ring)
  | 0, n, h1, h2, ring, M, hI, hV => ⟨hI, hV⟩
  | kk + 1, n, h1, h2, ring, M, hI, hV => by
    have hA : InvA a n (M, []) := ⟨InvB.start hI, hV, fun c hc => by cases hc⟩
    have hA1 := ringD_invA (b := b) (n := n) ⟨by omega, by omega⟩ ring (M, []) hA
    exact levels_inv b kk (n + 1) (by omega) (by omega) _ _ hA1.b.1 hA1.v
omit hb in
theorem dist_inv (b : Int) : InvM a (distD a b) ∧ ValM (distD a b) :=
  levels_inv b 40 1 (by omega) (by omega) _ _ (inv_home ha.1) ((show ValM [] from fun c n h => by simp [mget] at h).put (p := home) (n := 0) (by simp [mget]) ⟨by omega, by omega⟩)
end

end Go.Proofs.Ytibmehephlngfaa.Pure
