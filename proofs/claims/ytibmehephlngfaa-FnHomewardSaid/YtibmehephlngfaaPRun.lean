/- Runs of turns: the plan is one that ends home, with as many turns as the fewest rings; and all of it mirrors. -/
import Derived.Test.YtibmehephlngfaaQ0
import Derived.Test.YtibmehephlngfaaQ17
import Derived.Test.YtibmehephlngfaaPCourse
import Derived.Test.YtibmehephlngfaaPHomeP
import Derived.Test.YtibmehephlngfaaGPlanP
import Derived.Test.YtibmehephlngfaaPBfs
namespace Go.Proofs.Ytibmehephlngfaa.Pure
open Go.RowKit Go.Proofs.Ytibmehephlngfaa.Q Go.Proofs.YtibmehephlngfaaW.PrintWords Go.Proofs.YtibmehephlngfaaW.PrintLast
set_option linter.unusedVariables false
set_option linter.unusedSimpArgs false

theorem valB_of {a b : Int} (ha : 1 ≤ a ∧ a ≤ 3) (hb : 1 ≤ b ∧ b ≤ 6) {c : S24} (hc : insS a c = true) : valB a b c.f0 c.f1 c.f2 = true := by
  unfold valB limB
  rw [insB_insS ha, show insS a ⟨c.f0, c.f1, c.f2⟩ = true from hc]
  simp [inR, ha, hb]
theorem findL_mem {M : List (S24 × Int)} {m : Int} {c : S24} : ∀ {l : List Int} {u : Int}, findL M m c l = some u → u ∈ l ∧ mget M (stepTo c u) = some m
  | [], u, h => by cases h
  | x :: l, u, h => by
    unfold findL at h
    by_cases he : mget M (stepTo c x) = some m
    · rw [if_pos he] at h
      obtain rfl := Option.some.inj h
      exact ⟨by simp, he⟩
    · rw [if_neg he] at h
      have := findL_mem h
      exact ⟨by simp [this.1], this.2⟩
def Run (a b : Int) : S24 → List Int → Prop
  | _, [] => True
  | c, u :: r => ((-a ≤ u ∧ u ≤ a) ∧ okTo a b c u = true) ∧ Run a b (stepTo c u) r
def runL : S24 → List Int → List S24
  | _, [] => []
  | c, u :: r => stepTo c u :: runL (stepTo c u) r
def endL : S24 → List Int → S24
  | c, [] => c
  | c, u :: r => endL (stepTo c u) r
theorem runL_len : ∀ (us : List Int) (c : S24), (runL c us).length = us.length
  | [], _ => rfl
  | u :: r, c => by simp [runL, runL_len r]
theorem runL_last : ∀ (us : List Int) (c : S24), us ≠ [] → rd_T24 (runL c us) ((us.length : Int) - 1) = endL c us
  | [], _, h => absurd rfl h
  | [u], c, _ => rfl
  | u :: v :: r, c, _ => by
    have ih := runL_last (v :: r) (stepTo c u) (by simp)
    rw [show endL c (u :: v :: r) = endL (stepTo c u) (v :: r) from rfl, ← ih]
    unfold rd_T24
    rw [show (((u :: v :: r).length : Int) - 1).toNat = (((v :: r).length : Int) - 1).toNat + 1 from by simp]
    rfl

section
variable {a b : Int} (ha : 1 ≤ a ∧ a ≤ 3) {D : List (S24 × Int)} {ring : List S24} (hB : BF a b 41 D ring)
include ha hB
/-- The plan. -/
theorem plan_run : ∀ (k : Nat) (c : S24) (out : List Int), insS a c = true → mget D c = some (k : Int) → ∃ us, planP D a b k (k : Int) c out = out ++ us ∧ us.length = k ∧ Run a b c us ∧ endL c us = home
  | 0, c, out, hc, hm =>
     ⟨[], by simp [planP], rfl, trivial, (hB.zero c).1 hm⟩
  | k + 1, c, out, hc, hm => by
    have e : ((k + 1 : Nat) : Int) = (k : Int) + 1 := by omega
    rw [e] at hm ⊢
    obtain ⟨u, hu, h3, h4⟩ := hB.rest c _ hm (by omega)
    rw [show (k : Int) + 1 - 1 = (k : Int) from by omega] at h4
    cases hf : findL D (k : Int) c (turnsP a b c) with
    | none =>
      have : ∀ (l : List Int), findL D (k : Int) c l = none → ∀ v ∈ l, mget D (stepTo c v) ≠ some (k : Int) := by
        intro l
        induction l with
        | nil => intro _ v hv; cases hv
        | cons x r ih =>
          intro h v hv
          unfold findL at h
          by_cases he : mget D (stepTo c x) = some (k : Int)
          · rw [if_pos he] at h; cases h
          · rw [if_neg he] at h
            rcases List.mem_cons.1 hv with e2 | hv
            · subst e2; exact he
            · exact ih h v hv
      have hmem : u ∈ turnsP a b c := by
        have hg : ∀ (k : Nat) (u0 x : Int), u0 ≤ x → x < u0 + k → okTo a b c x = true → x ∈ turnsG a b c k u0 := by
          intro k
          induction k with
          | zero => intro u0 x h0 h1; omega
          | succ k ih =>
            intro u0 x h0 h1 h
            unfold turnsG
            by_cases e : x = u0
            · subst e; rw [if_pos h]; simp
            · have := ih (u0 + 1) x (by omega) (by omega) h
              by_cases hk : okTo a b c u0 = true
              · rw [if_pos hk]; simp [this]
              · rw [if_neg hk]; exact this
        exact hg _ _ _ hu.1 (by omega) h3
      exact absurd h4 (this _ hf u hmem)
    | some v =>
      have hv := findL_mem hf
      have hok := turnsP_mem ha hv.1
      obtain ⟨us, e1, e2, e3, e4⟩ := plan_run k (stepTo c v) (out ++ [v]) (ok_iff.1 hok.1).2 hv.2
      refine ⟨v :: us, ?_, by simp [e2], ⟨⟨hok.2, hok.1⟩, e3⟩, e4⟩
      rw [planP, show (k : Int) + 1 - 1 = (k : Int) from by omega, hf]
      show planP D a b k (k : Int) (stepTo c v) (out ++ [v]) = _
      rw [e1]
      simp
omit ha in
/-- A run home tells a bound. -/
theorem run_bound : ∀ (us : List Int) (c : S24), insS a c = true → Run a b c us → endL c us = home → us.length ≤ 40 → ∃ m, mget D c = some m ∧ m ≤ us.length
  | [], c, hc, hr, he, hl =>
    ⟨0, (hB.zero c).2 he, by simp⟩
  | u :: r, c, hc, hr, he, hl => by
    simp only [List.length_cons] at hl
    obtain ⟨m, hm, hm2⟩ := run_bound r (stepTo c u) (ok_iff.1 hr.1.2).2 hr.2 he (by omega)
    obtain ⟨j, hj, hj2⟩ := hB.pred (stepTo c u) m hm (by omega) c.f2 (insS_iff.1 hc).2.2 (fit_of_ok hc hr.1.2)
    rw [prev_step] at hj
    exact ⟨j, hj, by simp only [List.length_cons]; omega⟩
end

/-! ### mirrored -/
def negC (c : S24) : S24 := ⟨-c.f0, -c.f1, -c.f2⟩
theorem neg_ins {a : Int} {c : S24} : insS a (negC c) = insS a c := by
  rw [Bool.eq_iff_iff, insS_iff, insS_iff]
  show (-40 ≤ -c.f0 ∧ -c.f0 ≤ 40) ∧ (-10 ≤ -c.f1 ∧ -c.f1 ≤ 10) ∧ (-a ≤ -c.f2 ∧ -c.f2 ≤ a) ↔ _
  omega
theorem neg_step (c : S24) (u : Int) : stepTo (negC c) (-u) = negC (stepTo c u) := by
  obtain ⟨x, y, z⟩ := c
  show (⟨-x + -y, -y + -u, -u⟩ : S24) = ⟨-(x + y), -(y + u), -u⟩
  rw [show -x + -y = -(x + y) from by omega, show -y + -u = -(y + u) from by omega]
theorem neg_ok {a b : Int} {c : S24} {u : Int} : okTo a b (negC c) (-u) = okTo a b c u := by
  rw [Bool.eq_iff_iff, ok_iff, ok_iff, neg_step, neg_ins]
  show (-b ≤ -u - -c.f2 ∧ -u - -c.f2 ≤ b) ∧ _ ↔ _
  constructor
  · intro h; exact ⟨by omega, h.2⟩
  · intro h; exact ⟨by omega, h.2⟩
def negU (us : List Int) : List Int := us.map (fun u => -u)
theorem neg_run {a b : Int} : ∀ (us : List Int) (c : S24), Run a b c us → Run a b (negC c) (negU us)
  | [], _, _ => trivial
  | u :: r, c, h => by
    refine ⟨⟨by have := h.1.1; show -a ≤ -u ∧ -u ≤ a; omega, by show okTo a b (negC c) (-u) = true; rw [neg_ok]; exact h.1.2⟩, ?_⟩
    have := neg_run r (stepTo c u) h.2
    show Run a b (stepTo (negC c) (-u)) (negU r)
    rw [neg_step]
    exact this
theorem neg_end : ∀ (us : List Int) (c : S24), endL (negC c) (negU us) = negC (endL c us)
  | [], _ => rfl
  | u :: r, c => by
    show endL (stepTo (negC c) (-u)) (negU r) = _
    rw [neg_step, neg_end r]
    rfl
theorem neg_neg (c : S24) : negC (negC c) = c := by
  obtain ⟨x, y, z⟩ := c
  show (⟨- -x, - -y, - -z⟩ : S24) = ⟨x, y, z⟩
  simp
theorem neg_le {a b : Int} (ha : 1 ≤ a ∧ a ≤ 3) {D : List (S24 × Int)} {ring : List S24} (hB : BF a b 41 D ring) {c : S24} (hc : insS a c = true) {n : Int} (hm : mget D c = some n) : ∃ m, mget D (negC c) = some m ∧ m ≤ n := by
  have hn := hB.le _ n hm
  obtain ⟨us, e1, e2, e3, e4⟩ := plan_run ha hB n.toNat c [] hc (by rw [show ((n.toNat : Nat) : Int) = n from by omega]; exact hm)
  obtain ⟨m, hm2, hle⟩ := run_bound hB (negU us) (negC c) (by rw [neg_ins]; exact hc) (neg_run us c e3) (by rw [neg_end, e4]; rfl) (by unfold negU; rw [List.length_map]; omega)
  exact ⟨m, hm2, by unfold negU at hle; rw [List.length_map] at hle; omega⟩
theorem neg_dist {a b : Int} (ha : 1 ≤ a ∧ a ≤ 3) {D : List (S24 × Int)} {ring : List S24} (hB : BF a b 41 D ring) {c : S24} (hc : insS a c = true) : mget D (negC c) = mget D c := by
  have hc2 : insS a (negC c) = true := by rw [neg_ins]; exact hc
  cases h : mget D c with
  | some n =>
    obtain ⟨m, h1, h2⟩ := neg_le ha hB hc h
    obtain ⟨j, h3, h4⟩ := neg_le ha hB hc2 h1
    rw [neg_neg, h] at h3
    obtain rfl := Option.some.inj h3
    rw [h1]
    congr 1
    omega
  | none =>
    cases h5 : mget D (negC c) with
    | none => rfl
    | some m =>
      obtain ⟨j, h3, h4⟩ := neg_le ha hB hc2 h5
      rw [neg_neg, h] at h3
      cases h3

/-! ### what the program's functions answer -/
section
variable {a b : Int} (ha : 1 ≤ a ∧ a ≤ 3) (hb : 1 ≤ b ∧ b ≤ 6)
include ha hb
theorem runC_at (us : List Int) (hl : us.length ≤ 40) : ∀ (r pre : List Int) (c : S24) (acc : List S24), us = pre ++ r → acc.length = pre.length → insS a c = true → Run a b c r → ∀ k, r.length + 1 < k → impl_RunCourse.l0 k acc us (us.length : Int) (pre.length : Int) a b c.f0 c.f1 c.f2 = some (acc ++ runL c r, true)
  | [], pre, c, acc, h, hac, hc, hr, k, hk => by
    obtain ⟨k, rfl⟩ : ∃ j, k = j + 1 := ⟨k - 1, by omega⟩
    rw [impl_RunCourse.l0, if_neg (by rw [h]; simp)]
    simp [runL]
  | u :: r, pre, c, acc, h, hac, hc, hr, k, hk => by
    obtain ⟨k, rfl⟩ : ∃ j, k = j + 2 := ⟨k - 2, by omega⟩
    have hlen : us.length = pre.length + (r.length + 1) := by rw [h]; simp
    have hrd : rd us (pre.length : Int) = u := by rw [h]; simp [rd]
    have ih := runC_at us hl r (pre ++ [u]) (stepTo c u) (acc ++ [stepTo c u]) (by rw [h]; simp) (by simp [hac]) (ok_iff.1 hr.1.2).2 hr.2 (k + 1) (by simp only [List.length_cons] at hk; omega)
    have hw : wrap64 ((pre.length : Int) + 1) = ((pre ++ [u]).length : Int) := by rw [w64 (by omega)]; simp
    rw [impl_RunCourse.l0, if_pos (by omega), if_pos (by omega), if_pos (by omega), hrd, dnextTo ha hb hc hr.1.1, Option.bind_some, if_pos hr.1.2]
    dsimp only
    rw [if_pos rfl, if_pos (by omega), hw]
    rw [show acc ++ runL c (u :: r) = (acc ++ [stepTo c u]) ++ runL (stepTo c u) r from by simp [runL]]
    exact ih
theorem runC (us : List Int) (hl : us.length ≤ 40) (c : S24) (hc : insS a c = true) (hr : Run a b c us) (k : Nat) (hk : 50 ≤ k) : impl_RunCourse.f k a b c.f0 c.f1 c.f2 us = some (runL c us, true) := by
  obtain ⟨k, rfl⟩ : ∃ j, k = j + 1 := ⟨k - 1, by omega⟩
  unfold impl_RunCourse.f
  rw [ivalc_eq, valB_of ha hb hc, Option.bind_some, if_pos rfl, decide_eq_false (by omega), impl_RunCourse.j0, if_neg (by simp)]
  exact runC_at ha hb us hl us [] c [] rfl rfl hc hr k (by omega)
end

end Go.Proofs.Ytibmehephlngfaa.Pure
