/- A course's fewest rings, as against those of the courses that follow it. -/
import Derived.Test.YtibmehephlngfaaQ0
import Derived.Test.YtibmehephlngfaaQ15
import Derived.Test.YtibmehephlngfaaQ16
import Derived.Test.YtibmehephlngfaaQ20
import Derived.Test.YtibmehephlngfaaGStepsL
import Derived.Test.YtibmehephlngfaaPDrawE
import Derived.Test.YtibmehephlngfaaPCourse
import Derived.Test.YtibmehephlngfaaPHome
import Derived.Test.YtibmehephlngfaaGPlanP
import Derived.Test.YtibmehephlngfaaPBfs
namespace Go.Proofs.Ytibmehephlngfaa.Pure
open Go.RowKit Go.Proofs.Ytibmehephlngfaa.Q Go.Proofs.YtibmehephlngfaaW.PrintWords Go.Proofs.YtibmehephlngfaaW.PrintLast
set_option linter.unusedVariables false
set_option linter.unusedSimpArgs false

section
variable {a b : Int} (ha : 1 ≤ a ∧ a ≤ 3) (hb : 1 ≤ b ∧ b ≤ 6) {c : S24} (hc : insS a c = true)
include ha hb hc
theorem valB_at : valB a b c.f0 c.f1 c.f2 = true := by
  unfold valB limB
  rw [insB_insS ha, show insS a ⟨c.f0, c.f1, c.f2⟩ = true from hc]
  simp [inR, ha, hb]
theorem steps_at : impl_StepsHome.f a b c.f0 c.f1 c.f2 = some (mgo (mget (distD a b) c)) := by
  unfold impl_StepsHome.f
  rw [ivalc_eq, valB_at ha hb hc]
  rfl
theorem nextc_at {u : Int} (hu : -a ≤ u ∧ u ≤ a) (hok : okTo a b c u = true) (k : Nat) : impl_NextCourse.f (k + 1) a b c.f0 c.f1 c.f2 u = some ((stepTo c u).f0, (stepTo c u).f1, (stepTo c u).f2, true) := by
  unfold impl_NextCourse.f
  rw [ivalc_eq, valB_at ha hb hc, Option.bind_some, if_pos rfl, dnextTo ha hb hc hu, Option.bind_some, if_pos hok]
theorem turns_at (k : Nat) (hk : 20 ≤ k) : impl_TurnsFrom.f k a b c.f0 c.f1 c.f2 = some (turnsP a b c, true) := by
  unfold impl_TurnsFrom.f
  rw [ivalc_eq, valB_at ha hb hc, Option.bind_some, if_pos rfl, dturns ha hb hc k hk]
  rfl
omit hb in
theorem after_ge {u k : Int} (hu : -a ≤ u ∧ u ≤ a) (hok : okTo a b c u = true) (hk : mget (distD a b) (stepTo c u) = some k) : (∀ n, mget (distD a b) c = some n → n - 1 ≤ k) ∧ (mget (distD a b) c = none → 40 ≤ k) := by
  obtain ⟨ring, hB⟩ := BF.dist ha b
  have hk0 := hB.le _ k hk
  have hf := fit_of_ok hc hok
  have hp := hB.pred (stepTo c u) k hk
  rw [show (41 : Int) - 1 = 40 from rfl] at hp hk0
  refine ⟨fun n hn => ?_, fun hn => ?_⟩
  · by_cases h : k < 40
    · obtain ⟨j, hj, hj2⟩ := hp h c.f2 (insS_iff.1 hc).2.2 hf
      rw [prev_step, hn] at hj
      obtain rfl := Option.some.inj hj
      omega
    · have := hB.le _ n hn
      omega
  · by_cases h : k < 40
    · obtain ⟨j, hj, hj2⟩ := hp h c.f2 (insS_iff.1 hc).2.2 hf
      rw [prev_step, hn] at hj
      cases hj
    · omega

omit hb hc in
theorem loop_at {T : List Int} (hT : T = turnsP a b c) {pre r : List Int} {u : Int} (h : T = pre ++ u :: r) : rd T (pre.length : Int) = u ∧ okTo a b c u = true ∧ (-a ≤ u ∧ u ≤ a) ∧ (pre.length : Int) < (T.length : Int) ∧ wrap64 ((pre.length : Int) + 1) = ((pre ++ [u]).length : Int) := by
  have hm := turnsP_mem ha (show u ∈ turnsP a b c from by rw [← hT, h]; simp)
  have hl := turnsP_len (b := b) (c := c) ha
  rw [← hT, h] at hl
  simp only [List.length_append, List.length_cons] at hl
  refine ⟨by rw [h]; simp [rd], hm.1, hm.2, by rw [h]; simp; omega, ?_⟩
  rw [w64 (by omega)]
  simp
theorem loopN (hm : mget (distD a b) c = none) {T : List Int} (hT : T = turnsP a b c) (x7 : Int) : ∀ (r pre : List Int) (x13 : Bool), T = pre ++ r → ∀ k, 2 * r.length + 2 ≤ k → laws_FnSteps.l0 k x7 false T x13 (pre.length : Int) a b c.f0 c.f1 c.f2 = some true
  | [], pre, x13, h, k, hk => by
    obtain ⟨k, rfl⟩ : ∃ j, k = j + 1 := ⟨k - 1, by omega⟩
    rw [laws_FnSteps.l0, if_neg (by rw [h]; simp)]
    cases x13 <;> rfl
  | u :: r, pre, x13, h, k, hk => by
    obtain ⟨k, rfl⟩ : ∃ j, k = j + 2 := ⟨k - 2, by omega⟩
    obtain ⟨e1, hok, hu, hlt, hw⟩ := loop_at ha hT h
    have ih := fun x13 => loopN hm hT x7 r (pre ++ [u]) x13 (by rw [h]; simp) k (by simp only [List.length_cons] at hk; omega)
    generalize ((pre ++ [u]).length : Int) = p at hw ih
    rw [laws_FnSteps.l0, if_pos hlt, if_pos (by omega), e1, nextc_at ha hb hc hu hok, Option.bind_some]
    dsimp only
    rw [if_pos rfl, steps_at ha hb (ok_iff.1 hok).2, Option.bind_some]
    cases hq : mget (distD a b) (stepTo c u) with
    | none =>
      rw [show mgo (none : Option Int) = (0, false) from rfl]
      dsimp only
      rw [if_neg (by simp), laws_FnSteps.j2, hw]
      cases x13 <;> simp [ih]
    | some kk =>
      have hge := (after_ge ha hc hu hok hq).2 hm
      rw [show mgo (some kk) = (kk, true) from rfl]
      dsimp only
      rw [if_pos rfl, if_neg (by simp), decide_eq_false (show ¬ kk < 40 from by omega), laws_FnSteps.j2, hw]
      cases x13 <;> simp [ih]
theorem loopS {n : Int} (hm : mget (distD a b) c = some n) (hn : 0 ≤ n ∧ n ≤ 40) {T : List Int} (hT : T = turnsP a b c) : ∀ (r pre : List Int) (x13 : Bool), T = pre ++ r → (x13 = true ∨ (∃ u ∈ r, mget (distD a b) (stepTo c u) = some (n - 1)) ∨ n = 0) → ∀ k, 2 * r.length + 2 ≤ k → laws_FnSteps.l0 k n true T x13 (pre.length : Int) a b c.f0 c.f1 c.f2 = some true
  | [], pre, x13, h, hx, k, hk => by
    obtain ⟨k, rfl⟩ : ∃ j, k = j + 1 := ⟨k - 1, by omega⟩
    rw [laws_FnSteps.l0, if_neg (by rw [h]; simp)]
    rcases hx with rfl | ⟨u, hu, _⟩ | rfl
    · rfl
    · cases hu
    · cases x13 <;> rfl
  | u :: r, pre, x13, h, hx, k, hk => by
    obtain ⟨k, rfl⟩ : ∃ j, k = j + 2 := ⟨k - 2, by omega⟩
    obtain ⟨e1, hok, hu, hlt, hw⟩ := loop_at ha hT h
    have ih := fun x13 hx => loopS hm hn hT r (pre ++ [u]) x13 (by rw [h]; simp) hx k (by simp only [List.length_cons] at hk; omega)
    generalize ((pre ++ [u]).length : Int) = p at hw ih
    rw [laws_FnSteps.l0, if_pos hlt, if_pos (by omega), e1, nextc_at ha hb hc hu hok, Option.bind_some]
    dsimp only
    rw [if_pos rfl, steps_at ha hb (ok_iff.1 hok).2, Option.bind_some]
    have hwn : wrap64 (n - 1) = n - 1 := w64 (by omega)
    cases hq : mget (distD a b) (stepTo c u) with
    | none =>
      rw [show mgo (none : Option Int) = (0, false) from rfl]
      dsimp only
      rw [if_neg (by simp), laws_FnSteps.j2, hw]
      have hx2 : x13 = true ∨ (∃ v ∈ r, mget (distD a b) (stepTo c v) = some (n - 1)) ∨ n = 0 := by
        rcases hx with h1 | ⟨v, hv, h2⟩ | h1
        · exact Or.inl h1
        · rcases List.mem_cons.1 hv with e | hv
          · subst e; rw [hq] at h2; cases h2
          · exact Or.inr (Or.inl ⟨v, hv, h2⟩)
        · exact Or.inr (Or.inr h1)
      cases x13 with
      | true => simp [ih true (Or.inl rfl)]
      | false => simp [ih false hx2]
    | some kk =>
      have hge := (after_ge ha hc hu hok hq).1 n hm
      rw [show mgo (some kk) = (kk, true) from rfl]
      dsimp only
      rw [if_pos rfl, if_pos rfl, hwn, if_neg (show ¬ kk < n - 1 from by omega), laws_FnSteps.j2, hw, hwn, if_neg (by simp)]
      cases x13 with
      | true => rw [if_pos rfl]; exact ih true (Or.inl rfl)
      | false =>
        rw [if_neg (by simp), if_pos rfl, if_pos rfl]
        refine ih _ ?_
        by_cases e : kk = n - 1
        · exact Or.inl (by simpa using e)
        · rcases hx with h1 | ⟨v, hv, h2⟩ | h1
          · cases h1
          · rcases List.mem_cons.1 hv with e2 | hv
            · subst e2; rw [hq] at h2; exact absurd (Option.some.inj h2) e
            · exact Or.inr (Or.inl ⟨v, hv, h2⟩)
          · exact Or.inr (Or.inr h1)
end

theorem turnsG_has {a b : Int} {c : S24} : ∀ (k : Nat) (u x : Int), u ≤ x → x < u + k → okTo a b c x = true → x ∈ turnsG a b c k u
  | 0, u, x, h0, h1, h => absurd h1 (by omega)
  | k + 1, u, x, h0, h1, h => by
    unfold turnsG
    by_cases e : x = u
    · subst e; rw [if_pos h]; simp
    · have := turnsG_has k (u + 1) x (by omega) (by omega) h
      by_cases hk : okTo a b c u = true
      · rw [if_pos hk]; simp [this]
      · rw [if_neg hk]; exact this
theorem turnsP_has {a b : Int} (ha : 1 ≤ a ∧ a ≤ 3) {c : S24} {x : Int} (hx : -a ≤ x ∧ x ≤ a) (h : okTo a b c x = true) : x ∈ turnsP a b c := turnsG_has _ _ _ hx.1 (by omega) h

theorem FnSteps (l0 l1 : List Int) (hm0 : l0.length ≤ 9223372036854775807) (hw0 : ∀ z ∈ l0, (Lit.int .u8 z).wf = true) (hm1 : l1.length ≤ 9223372036854775807) (hw1 : ∀ z ∈ l1, (Lit.int .u8 z).wf = true) : ∃ k, laws_FnSteps.f k l0 l1 = some true := by
  refine ⟨152, ?_⟩
  unfold laws_FnSteps.f laws_b10Long.f
  by_cases h0 : (l0.length : Int) > 1048576
  · rw [if_pos h0]; rfl
  · rw [if_neg h0, Option.bind_some]
    by_cases h1 : (l1.length : Int) > 1048576
    · rw [decide_eq_true h1]; rfl
    · rw [decide_eq_false h1, if_neg (by simp)]
      have hs : Bytes l0 := ⟨by omega, fun z hz => by
        have := hw0 z hz
        have b1 : IntKind.u8.min = 0 := by decide
        have b2 : IntKind.u8.max = 255 := by decide
        simp only [Lit.wf, b1, b2, Bool.and_eq_true, decide_eq_true_eq] at this
        exact this⟩
      obtain ⟨⟨a, b, o, h, t⟩, e, ha, hb, hc⟩ := course_ends hs
      rw [e, Option.bind_some]
      dsimp only at ha hb hc ⊢
      have hb : 1 ≤ b ∧ b ≤ 6 := hb
      have hh : insS a home = true := insS_iff.2 ⟨by decide, by decide, by show -a ≤ 0 ∧ 0 ≤ a; omega⟩
      obtain ⟨ring, hB⟩ := BF.dist ha b
      have s1 : impl_StepsHome.f a b o h t = _ := steps_at ha hb hc
      have s2 : impl_StepsHome.f a b 0 0 0 = _ := steps_at ha hb hh
      have s3 : impl_TurnsFrom.f 152 a b o h t = _ := turns_at ha hb hc 152 (by omega)
      have hz : mget (distD a b) home = some 0 := (hB.zero home).2 rfl
      have hl := turnsP_len (b := b) (c := ⟨o, h, t⟩) ha
      rw [s1, Option.bind_some, s3, Option.bind_some, s2, Option.bind_some, hz, show mgo (some (0 : Int)) = (0, true) from rfl]
      dsimp only
      rw [if_pos rfl, if_pos rfl, if_pos rfl]
      cases hm : mget (distD a b) ⟨o, h, t⟩ with
      | none =>
        rw [show mgo (none : Option Int) = (0, false) from rfl]
        dsimp only
        rw [if_neg (by simp), laws_FnSteps.j0, if_neg (by simp)]
        exact loopN ha hb hc hm rfl 0 (turnsP a b ⟨o, h, t⟩) [] false rfl 151 (by omega)
      | some n =>
        rw [show mgo (some n) = (n, true) from rfl]
        dsimp only
        have hn := hB.le _ n hm
        have hne : ((n == 0) != (o == 0 && (h == 0 && (t == 0)))) = false := by
          have e : (o == 0 && (h == 0 && (t == 0))) = decide ((⟨o, h, t⟩ : S24) = home) := by
            rw [Bool.eq_iff_iff]
            simp [home]
          rw [e]
          by_cases hh : (⟨o, h, t⟩ : S24) = home
          · have h0 : n = 0 := by
              have := (hB.zero ⟨o, h, t⟩).2 hh
              rw [hm] at this
              exact Option.some.inj this
            rw [decide_eq_true hh, h0]; rfl
          · have h0 : n ≠ 0 := fun h0 => hh ((hB.zero ⟨o, h, t⟩).1 (by rw [hm, h0]))
            rw [decide_eq_false hh]
            simp [h0]
        rw [if_pos rfl, hne, laws_FnSteps.j0, if_neg (by simp)]
        refine loopS ha hb hc hm (by omega) rfl (turnsP a b ⟨o, h, t⟩) [] false rfl ?_ 151 (by omega)
        by_cases h0 : n = 0
        · exact Or.inr (Or.inr h0)
        · obtain ⟨u, hu, h3, h4⟩ := hB.rest _ n hm (by omega)
          exact Or.inr (Or.inl ⟨u, turnsP_has ha hu h3, h4⟩)

end Go.Proofs.Ytibmehephlngfaa.Pure
