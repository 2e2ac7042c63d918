/- The plan home, and its mirror image. -/
import Derived.Test.YtibmehephlngfaaQ0
import Derived.Test.YtibmehephlngfaaQ7
import Derived.Test.YtibmehephlngfaaQ14
import Derived.Test.YtibmehephlngfaaQ17
import Derived.Test.YtibmehephlngfaaQ19
import Derived.Test.YtibmehephlngfaaQ20
import Derived.Test.YtibmehephlngfaaQ30
import Derived.Test.YtibmehephlngfaaGHomeL
import Derived.Test.YtibmehephlngfaaPDrawE
import Derived.Test.YtibmehephlngfaaPCourse
import Derived.Test.YtibmehephlngfaaPHomeP
import Derived.Test.YtibmehephlngfaaGPlanP
import Derived.Test.YtibmehephlngfaaPBfs
import Derived.Test.YtibmehephlngfaaPRun
namespace Go.Proofs.Ytibmehephlngfaa.Pure
open Go.RowKit Go.Proofs.Ytibmehephlngfaa.Q Go.Proofs.YtibmehephlngfaaW.PrintWords Go.Proofs.YtibmehephlngfaaW.PrintLast
set_option linter.unusedVariables false
set_option linter.unusedSimpArgs false

def ab (x : Int) : Int := if x < 0 then -x else x
theorem iabs_at {x : Int} (h : -100 ≤ x ∧ x ≤ 100) : impl_abs.f x = some (ab x) := by
  unfold impl_abs.f mx ab
  rw [w64 (x := -x) (by omega)]
  by_cases h0 : x < 0
  · rw [if_pos (by omega), if_pos h0]
  · by_cases h1 : x < -x
    · omega
    · rw [if_neg h1, if_neg h0]
theorem babs_at {x : Int} (h : -100 ≤ x ∧ x ≤ 100) : laws_b10Abs.f x = some (ab x) := by
  unfold laws_b10Abs.f ab
  rw [w64 (x := -x) (by omega)]
  by_cases h0 : x < 0
  · rw [if_pos h0, if_pos h0]
  · rw [if_neg h0, if_neg h0]
def farL : List S24 → Int → Int
  | [], x => x
  | q :: r, x => farL r (mx x (ab q.f0))
theorem runL_ins {a b : Int} : ∀ (us : List Int) (c : S24), Run a b c us → ∀ q ∈ runL c us, insS a q = true
  | [], _, _, q, hq => by cases hq
  | u :: r, c, h, q, hq => by
    rcases List.mem_cons.1 hq with e | hq
    · rw [e]; exact (ok_iff.1 h.1.2).2
    · exact runL_ins r _ h.2 q hq
theorem rd24_at {L pre r : List S24} {q : S24} (h : L = pre ++ q :: r) : rd_T24 L (pre.length : Int) = q := by subst h; simp [rd_T24]
theorem far_at {a : Int} {L : List S24} (hL : ∀ q ∈ L, insS a q = true) (hl : L.length ≤ 40) : ∀ (r pre : List S24) (x : Int), L = pre ++ r → ∀ k, r.length < k → impl_FarthestOffset.l0 k x L (L.length : Int) (pre.length : Int) = some (farL r x, true)
  | [], pre, x, h, k, hk => by
    obtain ⟨k, rfl⟩ : ∃ j, k = j + 1 := ⟨k - 1, by omega⟩
    rw [impl_FarthestOffset.l0, if_neg (by rw [h]; simp)]
    rfl
  | q :: r, pre, x, h, k, hk => by
    obtain ⟨k, rfl⟩ : ∃ j, k = j + 1 := ⟨k - 1, by omega⟩
    have hlen : L.length = pre.length + (r.length + 1) := by rw [h]; simp
    have hq := insS_iff.1 (hL q (by rw [h]; simp))
    have ih := far_at hL hl r (pre ++ [q]) (mx x (ab q.f0)) (by rw [h]; simp) k (by simp only [List.length_cons] at hk; omega)
    have hw : wrap64 ((pre.length : Int) + 1) = ((pre ++ [q]).length : Int) := by rw [w64 (by omega)]; simp
    rw [impl_FarthestOffset.l0, if_pos (by omega), if_pos (by omega), if_pos (by omega), rd24_at h, iabs_at (by omega), Option.bind_some, hw, ih]
    rfl

section
variable {a b : Int} (ha : 1 ≤ a ∧ a ≤ 3) (hb : 1 ≤ b ∧ b ≤ 6)
include ha hb
theorem planh_none {c : S24} (hc : insS a c = true) (hm : mget (distD a b) c = none) : impl_PlanHome.f a b c.f0 c.f1 c.f2 = some ([], false) := by
  unfold impl_PlanHome.f impl_Limits_plan.f
  rw [ivalc_eq, valB_of ha hb hc, Option.bind_some, if_pos rfl, if_pos ⟨ha, hb, hc⟩, show mget (distD a b) ⟨c.f0, c.f1, c.f2⟩ = none from hm]
  rfl
theorem planh_some {D : List (S24 × Int)} {ring : List S24} (hD : D = distD a b) (hB : BF a b 41 D ring) {c : S24} (hc : insS a c = true) {n : Int} (hm : mget D c = some n) :
    ∃ us, impl_PlanHome.f a b c.f0 c.f1 c.f2 = some (us, true) ∧ (us.length : Int) = n ∧ us.length ≤ 40 ∧ Run a b c us ∧ endL c us = home := by
  have hn := hB.le _ n hm
  obtain ⟨us, e1, e2, e3, e4⟩ := plan_run ha hB n.toNat c [] hc (by rw [show ((n.toNat : Nat) : Int) = n from by omega]; exact hm)
  rw [show ((n.toNat : Nat) : Int) = n from by omega] at e1
  refine ⟨us, ?_, by omega, by omega, e3, e4⟩
  unfold impl_PlanHome.f impl_Limits_plan.f
  rw [ivalc_eq, valB_of ha hb hc, Option.bind_some, if_pos rfl, if_pos ⟨ha, hb, hc⟩, ← hD, show mget D ⟨c.f0, c.f1, c.f2⟩ = some n from hm]
  dsimp only
  rw [if_pos (by omega), Option.bind_some, show planP D a b n.toNat n ⟨c.f0, c.f1, c.f2⟩ [] = us from by rw [show (⟨c.f0, c.f1, c.f2⟩ : S24) = c from rfl, e1]; rfl]
omit ha hb in
theorem fart_none {c : S24} (hp : impl_PlanHome.f a b c.f0 c.f1 c.f2 = some ([], false)) (k : Nat) : impl_FarthestOffset.f k a b c.f0 c.f1 c.f2 = some (0, false) := by
  unfold impl_FarthestOffset.f
  rw [hp, Option.bind_some, if_neg (by simp)]
theorem fart_some {c : S24} (hc : insS a c = true) {us : List Int} (hp : impl_PlanHome.f a b c.f0 c.f1 c.f2 = some (us, true)) (hl : us.length ≤ 40) (hr : Run a b c us) (k : Nat) (hk : 100 ≤ k) : impl_FarthestOffset.f k a b c.f0 c.f1 c.f2 = some (farL (runL c us) (ab c.f0), true) := by
  have hi := insS_iff.1 hc
  unfold impl_FarthestOffset.f
  rw [hp, Option.bind_some, if_pos rfl, iabs_at (by omega), Option.bind_some]
  dsimp only
  rw [runC ha hb us hl c hc hr k (by omega), Option.bind_some]
  exact far_at (runL_ins us c hr) (by rw [runL_len]; exact hl) (runL c us) [] (ab c.f0) rfl k (by rw [runL_len]; omega)
omit ha hb in
theorem both_at (us vs : List Int) {m : Int} (hm : m ≤ 40) : ∀ (d : Nat) (i : Int) (acc : List (List Int)), 0 ≤ i → i + d = m → (acc.length : Int) = i → ∃ L : List (List Int), (L.length : Int) = m ∧ ∀ k, d < k → impl_PlanBoth.l0 k us vs acc m i = some (L, true)
  | 0, i, acc, h0, h1, h2 => ⟨acc, by omega, fun k hk => by
      obtain ⟨k, rfl⟩ : ∃ j, k = j + 1 := ⟨k - 1, by omega⟩
      rw [impl_PlanBoth.l0, if_neg (by omega)]⟩
  | d + 1, i, acc, h0, h1, h2 => by
    have hw : wrap64 (i + 1) = i + 1 := w64 (by omega)
    have hla : acc.length < 5864062014805 := by omega
    have step : ∃ p : List Int, ∀ k, impl_PlanBoth.l0 (k + 1) us vs acc m i = impl_PlanBoth.l0 k us vs (acc ++ [p]) m (i + 1) := by
      by_cases g1 : i < (us.length : Int)
      · by_cases g2 : i < (vs.length : Int)
        · exact ⟨_, fun k => by
            rw [impl_PlanBoth.l0, if_pos (by omega), Option.bind_some, if_pos g1, if_pos h0, if_pos (by simp), Option.bind_some, if_pos g2, if_pos (by simp), if_pos hla, hw]⟩
        · exact ⟨_, fun k => by
            rw [impl_PlanBoth.l0, if_pos (by omega), Option.bind_some, if_pos g1, if_pos h0, if_pos (by simp), Option.bind_some, if_neg g2, if_pos hla, hw]⟩
      · by_cases g2 : i < (vs.length : Int)
        · exact ⟨_, fun k => by
            rw [impl_PlanBoth.l0, if_pos (by omega), Option.bind_some, if_neg g1, if_pos g2, if_pos h0, if_pos (by simp), if_pos hla, hw]⟩
        · exact ⟨_, fun k => by
            rw [impl_PlanBoth.l0, if_pos (by omega), Option.bind_some, if_neg g1, if_neg g2, if_pos hla, hw]⟩
    obtain ⟨p, hp⟩ := step
    obtain ⟨L, e1, e2⟩ := both_at us vs hm d (i + 1) (acc ++ [p]) (by omega) (by omega) (by simp; omega)
    refine ⟨L, e1, fun k hk => ?_⟩
    obtain ⟨k, rfl⟩ : ∃ j, k = j + 1 := ⟨k - 1, by omega⟩
    rw [hp, e2 k (by omega)]
omit ha hb in
theorem both_yes {c e : S24} {us vs : List Int} (h1 : impl_PlanHome.f a b c.f0 c.f1 c.f2 = some (us, true)) (h2 : impl_PlanHome.f a b e.f0 e.f1 e.f2 = some (vs, true)) (l1 : us.length ≤ 40) (l2 : vs.length ≤ 40) :
    ∃ L : List (List Int), (L.length : Int) = mx (us.length : Int) (vs.length : Int) ∧ ∀ k, 60 ≤ k → impl_PlanBoth.f k a b c.f0 c.f1 c.f2 e.f0 e.f1 e.f2 = some (L, true) := by
  have hm : 0 ≤ mx (us.length : Int) (vs.length : Int) ∧ mx (us.length : Int) (vs.length : Int) ≤ 40 := by unfold mx; split <;> omega
  obtain ⟨L, e1, e2⟩ := both_at us vs hm.2 (mx (us.length : Int) (vs.length : Int)).toNat 0 [] (by omega) (by omega) rfl
  refine ⟨L, e1, fun k hk => ?_⟩
  obtain ⟨k, rfl⟩ : ∃ j, k = j + 1 := ⟨k - 1, by omega⟩
  unfold impl_PlanBoth.f
  rw [h1, Option.bind_some, h2, Option.bind_some, if_pos rfl, impl_PlanBoth.j0, if_neg (by simp)]
  exact e2 k (by omega)
omit ha hb in
theorem both_no {c e : S24} {us vs : List Int} {p q : Bool} (h1 : impl_PlanHome.f a b c.f0 c.f1 c.f2 = some (us, p)) (h2 : impl_PlanHome.f a b e.f0 e.f1 e.f2 = some (vs, q)) (hpq : p = false ∨ q = false) (k : Nat) (hk : 60 ≤ k) : impl_PlanBoth.f k a b c.f0 c.f1 c.f2 e.f0 e.f1 e.f2 = some ([], false) := by
  obtain ⟨k, rfl⟩ : ∃ j, k = j + 1 := ⟨k - 1, by omega⟩
  unfold impl_PlanBoth.f
  rw [h1, Option.bind_some, h2, Option.bind_some]
  cases p <;> cases q <;> simp [impl_PlanBoth.j0] at hpq ⊢
omit hb in
theorem mirr_at {c : S24} (hc : insS a c = true) : impl_MirrorCourse.f c.f0 c.f1 c.f2 = some ((negC c).f0, (negC c).f1, (negC c).f2) := by
  have hi := insS_iff.1 hc
  unfold impl_MirrorCourse.f impl_Course_isTold.f impl_areWithin.f
  have k0 : inR (-1000) 1000 c.f0 = true := by unfold inR; simp; omega
  have k1 : inR (-1000) 1000 c.f1 = true := by unfold inR; simp; omega
  have k2 : inR (-1000) 1000 c.f2 = true := by unfold inR; simp; omega
  simp only [Option.bind_some, List.all_cons, List.all_nil, k0, k1, k2, Bool.and_self, if_true]
  rw [w64 (x := -c.f0) (by omega), w64 (x := -c.f1) (by omega), w64 (x := -c.f2) (by omega)]
  rfl
theorem stepsh_at {D : List (S24 × Int)} (hD : D = distD a b) {c : S24} (hc : insS a c = true) : impl_StepsHome.f a b c.f0 c.f1 c.f2 = some (mgo (mget D c)) := by
  unfold impl_StepsHome.f
  rw [ivalc_eq, valB_of ha hb hc, ← hD]
  rfl
omit hb in
theorem hom_at {n far : Int} {us : List Int} {L L' : List S24} {c' : S24} (hL : ∀ q ∈ L, insS a q = true) (hl : L.length ≤ 40) (hU : ∀ u ∈ us, -a ≤ u ∧ u ≤ a)
    (hrun : ∀ k, 50 ≤ k → impl_RunCourse.f k a b c'.f0 c'.f1 c'.f2 (negU us) = some (L', true)) (hn : (L'.length : Int) = n) (hn40 : n ≤ 40) (hend : n = 0 ∨ rd_T24 L' (n - 1) = home) :
    ∀ (r : List S24) (v : List Int) (preL : List S24) (preU : List Int) (x24 : Int), L = preL ++ r → us = preU ++ v → preL.length = preU.length → r.length = v.length → farL r x24 = far → ∀ k, r.length + 61 ≤ k →
      laws_FnHomeward.l0 k n us far L x24 (negU preU) (preL.length : Int) a b c'.f0 c'.f1 c'.f2 = some true
  | [], v, preL, preU, x24, h1, h2, h3, h4, h5, k, hk => by
    obtain ⟨k, rfl⟩ : ∃ j, k = j + 1 := ⟨k - 1, by omega⟩
    have hv : v = [] := List.eq_nil_of_length_eq_zero (by simpa using h4.symm)
    subst hv
    rw [List.append_nil] at h1 h2
    have h5 : x24 = far := h5
    rw [laws_FnHomeward.l0, if_neg (by rw [h1]; simp), ← h2, hrun k (by omega), Option.bind_some]
    dsimp only
    rw [if_pos rfl, if_pos h5, if_pos hn]
    by_cases h0 : n = 0
    · rw [if_pos h0]
    · have hw : wrap64 (n - 1) = n - 1 := w64 (by omega)
      have he : rd_T24 L' (n - 1) = home := by
        rcases hend with h | h
        · exact absurd h h0
        · exact h
      rw [if_neg h0, hw, if_pos (by omega), if_pos (by omega), he]
      rfl
  | q :: r, [], preL, preU, x24, h1, h2, h3, h4, h5, k, hk => by simp at h4
  | q :: r, u :: v, preL, preU, x24, h1, h2, h3, h4, h5, k, hk => by
    obtain ⟨k, rfl⟩ : ∃ j, k = j + 1 := ⟨k - 1, by omega⟩
    have hlen : L.length = preL.length + (r.length + 1) := by rw [h1]; simp
    have hlen2 : us.length = preU.length + (v.length + 1) := by rw [h2]; simp
    have hq := insS_iff.1 (hL q (by rw [h1]; simp))
    have hu := hU u (by rw [h2]; simp)
    have hw : wrap64 ((preL.length : Int) + 1) = ((preL ++ [q]).length : Int) := by rw [w64 (by omega)]; simp
    have hrd : rd us (preL.length : Int) = u := by rw [h3, h2]; simp [rd]
    have hwu : wrap64 (-u) = -u := w64 (by omega)
    have hacc : negU preU ++ [-u] = negU (preU ++ [u]) := by simp [negU]
    have hal : (negU preU).length < 17592186044416 := by unfold negU; rw [List.length_map]; omega
    have ih := fun x (hx : farL r x = far) => hom_at (far := far) hL hl hU hrun hn hn40 hend r v (preL ++ [q]) (preU ++ [u]) x (by rw [h1]; simp) (by rw [h2]; simp) (by simp [h3]) (by simpa using h4) hx k (by simp only [List.length_cons] at hk; omega)
    rw [laws_FnHomeward.l0, if_pos (by omega), if_pos (by omega), rd24_at h1, babs_at (by omega), Option.bind_some]
    have h5 : farL r (mx x24 (ab q.f0)) = far := h5
    unfold mx at h5
    by_cases hg : ab q.f0 > x24
    · rw [if_pos hg, Option.bind_some, if_pos (by omega), if_pos hal, hrd, hwu, hw, hacc]
      rw [if_pos hg] at h5
      exact ih _ h5
    · rw [if_neg hg, if_pos (by omega), if_pos hal, hrd, hwu, hw, hacc]
      rw [if_neg hg] at h5
      exact ih _ h5
omit ha hb in
theorem run_turns : ∀ (us : List Int) (c : S24), Run a b c us → ∀ u ∈ us, -a ≤ u ∧ u ≤ a
  | [], _, _, u, hu => by cases hu
  | x :: r, c, h, u, hu => by
    rcases List.mem_cons.1 hu with e | hu
    · rw [e]; exact h.1.1
    · exact run_turns r _ h.2 u hu
theorem j3_at {c : S24} (hc : insS a c = true) {n : Int} {us : List Int} (hlen : (us.length : Int) = n) (hl : us.length ≤ 40) (hr : Run a b c us) (he : endL c us = home) (k : Nat) (hk : 200 ≤ k) :
    laws_FnHomeward.j3 k n us (farL (runL c us) (ab c.f0)) false a b c.f0 c.f1 c.f2 (negC c).f0 (negC c).f1 (negC c).f2 = some true := by
  obtain ⟨k, rfl⟩ : ∃ j, k = j + 2 := ⟨k - 2, by omega⟩
  have hi := insS_iff.1 hc
  have hrl := runL_len us c
  have hlast : n ≠ 0 → rd_T24 (runL c us) (n - 1) = home := fun h0 => by
    rw [← hlen, runL_last us c (fun e => by rw [e] at hlen; simp at hlen; omega), he]
  have hnc : insS a (negC c) = true := by rw [neg_ins]; exact hc
  have hnl : (negU us).length = us.length := by unfold negU; rw [List.length_map]
  have hrun : ∀ k, 50 ≤ k → impl_RunCourse.f k a b (negC c).f0 (negC c).f1 (negC c).f2 (negU us) = some (runL (negC c) (negU us), true) := fun k hk => runC ha hb (negU us) (by omega) (negC c) hnc (neg_run us c hr) k hk
  have hend : n = 0 ∨ rd_T24 (runL (negC c) (negU us)) (n - 1) = home := by
    by_cases h0 : n = 0
    · exact Or.inl h0
    · refine Or.inr ?_
      have hne : negU us ≠ [] := fun e => by rw [e] at hnl; simp at hnl; omega
      have := runL_last (negU us) (negC c) hne
      rw [hnl, hlen, neg_end, he] at this
      exact this
  have h4 : laws_FnHomeward.j4 (k + 1) n us (farL (runL c us) (ab c.f0)) (runL c us) false a b c.f0 c.f1 c.f2 (negC c).f0 (negC c).f1 (negC c).f2 = some true := by
    rw [laws_FnHomeward.j4, if_neg (by simp), babs_at (by omega), Option.bind_some]
    exact hom_at ha (runL_ins us c hr) (by omega) (run_turns us c hr) hrun (by rw [runL_len, hnl]; exact hlen) (by omega) hend (runL c us) us [] [] (ab c.f0) rfl rfl rfl hrl rfl k (by omega)
  rw [laws_FnHomeward.j3, if_neg (by simp), runC ha hb us hl c hc hr (k + 1) (by omega), Option.bind_some]
  dsimp only
  rw [if_pos rfl, if_pos (by omega)]
  by_cases h0 : n > 0
  · have hw : wrap64 (n - 1) = n - 1 := w64 (by omega)
    rw [if_pos h0, hw, if_pos (by omega), if_pos (by omega), hlast (by omega)]
    exact h4
  · rw [if_neg h0]
    exact h4
theorem j0_at {c e : S24} (hc : insS a c = true) (he : insS a e = true) : laws_FnHomeward.j0 300 a b c.f0 c.f1 c.f2 e.f0 e.f1 e.f2 = some true := by
  obtain ⟨D, hD⟩ : ∃ D, D = distD a b := ⟨_, rfl⟩
  obtain ⟨ring, hB⟩ : ∃ ring, BF a b 41 D ring := by rw [hD]; exact BF.dist ha b
  have hnc : insS a (negC c) = true := by rw [neg_ins]; exact hc
  have hneg := neg_dist ha hB hc
  have hse : ∃ vs q, impl_PlanHome.f a b e.f0 e.f1 e.f2 = some (vs, q) ∧ q = (mget D e).isSome ∧ vs.length ≤ 40 ∧ ∀ k, mget D e = some k → (vs.length : Int) = k := by
    cases h : mget D e with
    | none => exact ⟨[], false, planh_none ha hb he (by rw [← hD]; exact h), rfl, by simp, fun k hk => by cases hk⟩
    | some k =>
      obtain ⟨vs, h1, h2, h3, _⟩ := planh_some ha hb hD hB he h
      exact ⟨vs, true, h1, rfl, h3, fun j hj => by obtain rfl := Option.some.inj hj; exact h2⟩
  obtain ⟨vs, q, g1, g2, g3, g4⟩ := hse
  cases hm : mget D c with
  | none =>
    have hp := planh_none ha hb hc (by rw [← hD]; exact hm)
    rw [hm] at hneg
    rw [laws_FnHomeward.j0, stepsh_at ha hb hD hc, Option.bind_some, hp, Option.bind_some, fart_none hp, Option.bind_some, mirr_at ha hc, Option.bind_some]
    dsimp only
    rw [stepsh_at ha hb hD hnc, Option.bind_some, hm, hneg, show mgo (none : Option Int) = (0, false) from rfl]
    dsimp only
    rw [if_neg (by simp), if_neg (by simp), if_neg (by simp), if_pos rfl, show ((([] : List Int).length : Int) != 0) = false from rfl]
    rw [laws_FnHomeward.j1, if_neg (by simp), stepsh_at ha hb hD he, Option.bind_some, both_no hp g1 (Or.inl rfl) _ (by omega), Option.bind_some]
    dsimp only
    rw [if_neg (by simp), if_neg (by simp), laws_FnHomeward.j2, if_pos (by simp), if_neg (by simp), if_neg (by simp), ilim_eq, Option.bind_some]
    have := valB_of ha hb hc
    unfold valB at this
    rw [(Bool.and_eq_true_iff.1 this).1]
  | some n =>
    obtain ⟨us, hp, hlen, hl, hr, hend⟩ := planh_some ha hb hD hB hc hm
    rw [hm] at hneg
    rw [laws_FnHomeward.j0, stepsh_at ha hb hD hc, Option.bind_some, hp, Option.bind_some, fart_some ha hb hc hp hl hr _ (by omega), Option.bind_some, mirr_at ha hc, Option.bind_some]
    dsimp only
    rw [stepsh_at ha hb hD hnc, Option.bind_some, hm, hneg, show mgo (some n) = (n, true) from rfl]
    dsimp only
    rw [if_neg (by simp), if_neg (by simp), if_neg (by simp), if_pos rfl, show ((us.length : Int) != n) = false from by simp [hlen]]
    rw [laws_FnHomeward.j1, if_neg (by simp), stepsh_at ha hb hD he, Option.bind_some]
    cases hme : mget D e with
    | none =>
      rw [hme] at g2
      subst g2
      rw [both_no hp g1 (Or.inr rfl) _ (by omega), Option.bind_some, show mgo (none : Option Int) = (0, false) from rfl]
      dsimp only
      rw [if_pos rfl, if_neg (by simp), laws_FnHomeward.j2, if_neg (by simp), if_neg (by simp)]
      exact j3_at ha hb hc hlen hl hr hend _ (by omega)
    | some j =>
      rw [hme] at g2
      subst g2
      have hj := g4 j hme
      obtain ⟨L, hL, hboth⟩ := both_yes hp g1 hl g3
      rw [hboth _ (by omega), Option.bind_some, show mgo (some j) = (j, true) from rfl]
      dsimp only
      rw [if_pos rfl, if_neg (by simp), laws_FnHomeward.j2, if_neg (by simp), if_pos rfl]
      have hmx : (L.length : Int) = (if n < j then j else n) := by rw [hL, hlen, hj]; rfl
      have h3 := j3_at ha hb hc hlen hl hr hend 297 (by omega)
      by_cases hnj : n < j
      · rw [if_pos hnj] at hmx
        rw [if_neg (by omega), if_pos hmx, if_neg (by omega), decide_eq_false (by omega)]
        exact h3
      · rw [if_neg hnj] at hmx
        rw [if_pos hmx, if_neg (by omega), decide_eq_false (by omega)]
        exact h3
end

theorem FnHomeward (l0 l1 : List Int) (hm0 : l0.length ≤ 9223372036854775807) (hw0 : ∀ z ∈ l0, (Lit.int .u8 z).wf = true) (hm1 : l1.length ≤ 9223372036854775807) (hw1 : ∀ z ∈ l1, (Lit.int .u8 z).wf = true) : ∃ k, laws_FnHomeward.f k l0 l1 = some true := by
  refine ⟨300, ?_⟩
  unfold laws_FnHomeward.f laws_b10Long.f
  by_cases h0 : (l0.length : Int) > 1048576
  · rw [if_pos h0]; rfl
  · rw [if_neg h0, Option.bind_some]
    by_cases h1 : (l1.length : Int) > 1048576
    · rw [decide_eq_true h1]; rfl
    · rw [decide_eq_false h1, if_neg (by simp)]
      have hb8 : ∀ l : List Int, (∀ z ∈ l, (Lit.int .u8 z).wf = true) → ∀ z ∈ l, 0 ≤ z ∧ z ≤ 255 := fun l hl z hz => by
        have := hl z hz
        have b1 : IntKind.u8.min = 0 := by decide
        have b2 : IntKind.u8.max = 255 := by decide
        simp only [Lit.wf, b1, b2, Bool.and_eq_true, decide_eq_true_eq] at this
        exact this
      obtain ⟨⟨a, b, o, h, t⟩, e, ha, hb, hc⟩ := course_ends (s := l0) ⟨by omega, hb8 l0 hw0⟩
      obtain ⟨⟨a', b', o', h', t'⟩, e', ha', hb', hc'⟩ := course_ends (s := l1) ⟨by omega, hb8 l1 hw1⟩
      rw [e, Option.bind_some, e', Option.bind_some, ivalc_eq, Option.bind_some]
      dsimp only at ha hb hc ha' hb' hc' ⊢
      have hi' := insS_iff.1 hc'
      cases hv : valB a b o' h' t' with
      | true =>
        rw [if_pos rfl]
        have hx := valB_iff hv
        exact j0_at ha hb (c := ⟨o, h, t⟩) (e := ⟨o', h', t'⟩) hc (insS_iff.2 ⟨hx.2.2.1, hx.2.2.2.1, hx.2.2.2.2⟩)
      | false =>
        rw [if_neg (by simp)]
        exact j0_at ha hb (c := ⟨o, h, t⟩) (e := ⟨o', 0, 0⟩) hc (insS_iff.2 ⟨hi'.1, by show (-10 : Int) ≤ 0 ∧ (0 : Int) ≤ 10; omega, by show -a ≤ 0 ∧ 0 ≤ a; omega⟩)

end Go.Proofs.Ytibmehephlngfaa.Pure
