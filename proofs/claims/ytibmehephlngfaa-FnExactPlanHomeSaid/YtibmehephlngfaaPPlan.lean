/- The reference's plan and the plain plan are the same. -/
import Derived.Test.YtibmehephlngfaaQ0
import Derived.Test.YtibmehephlngfaaQ13
import Derived.Test.YtibmehephlngfaaQ19
import Derived.Test.YtibmehephlngfaaQ28
import Derived.Test.YtibmehephlngfaaPCourse
import Derived.Test.YtibmehephlngfaaPHome
import Derived.Test.YtibmehephlngfaaGPlan
namespace Go.Proofs.Ytibmehephlngfaa.Pure
open Go.RowKit Go.Proofs.Ytibmehephlngfaa.Q Go.Proofs.YtibmehephlngfaaW.PrintWords Go.Proofs.YtibmehephlngfaaW.PrintLast
set_option linter.unusedVariables false
set_option linter.unusedSimpArgs false

theorem valB_of {a b : Int} (ha : 1 ≤ a ∧ a ≤ 3) (hb : 1 ≤ b ∧ b ≤ 6) {c : S24} (hc : insS a c = true) : valB a b c.f0 c.f1 c.f2 = true := by
  unfold valB limB
  rw [insB_insS ha, show insS a ⟨c.f0, c.f1, c.f2⟩ = true from hc]
  simp [inR, ha, hb]
theorem nextT_to {a b : Int} (ha : 1 ≤ a ∧ a ≤ 3) (hb : 1 ≤ b ∧ b ≤ 6) {c : S24} (hc : insS a c = true) {u : Int} (hu : -a ≤ u ∧ u ≤ a) :
    nextT a b c.f0 c.f1 c.f2 u = if okTo a b c u = true then ((stepTo c u).f0, (stepTo c u).f1, (stepTo c u).f2, true) else (0, 0, 0, false) :=
  Option.some.inj ((inext_eq 0 (valB_of ha hb hc)).symm.trans (dnextTo ha hb hc hu 0))
theorem planP_len (M : List (S24 × Int)) (a b : Int) : ∀ (k : Nat) (n : Int) (c : S24) (out : List Int), (planP M a b k n c out).length ≤ out.length + k
  | 0, n, c, out => Nat.le_refl _
  | k + 1, n, c, out => by
    unfold planP
    cases findL M (n - 1) c (turnsP a b c) with
    | none => exact Nat.le_trans (planP_len M a b k _ _ _) (by omega)
    | some u => exact Nat.le_trans (planP_len M a b k _ _ _) (by simp; omega)
theorem tv_iff {M : List (S24 × Int)} {c : S24} {m : Int} (hm : 1 ≤ m) : tv M c = m ↔ mget M c = some (m - 1) := by
  unfold tv
  cases mget M c with
  | none => simp; omega
  | some n => simp; omega

section
variable {a b : Int} (ha : 1 ≤ a ∧ a ≤ 3) (hb : 1 ≤ b ∧ b ≤ 6)
include ha hb
theorem plan_inner {T : List Int} {M : List (S24 × Int)} (hT : RelT a T M) {m : Int} (hm : 1 ≤ m ∧ m ≤ 40) {c : S24} (hc : insS a c = true) {out : List Int} (hl : out.length ≤ 100) {r : List Int × Bool} {K : Nat} :
    ∀ (d : Nat) (u : Int), -a ≤ u → u + d = a + 1 → (∀ u', findL M (m - 1) c (turnsG a b c d u) = some u' → ∀ k, K ≤ k → spec_l05Plan.l0 k T m (out ++ [u']) a b (stepTo c u').f0 (stepTo c u').f1 (stepTo c u').f2 = some r) →
      (findL M (m - 1) c (turnsG a b c d u) = none → ∀ k, K ≤ k → spec_l05Plan.l0 k T m out a b c.f0 c.f1 c.f2 = some r) →
      ∀ k, K + d + 2 ≤ k → spec_l05Plan.l1 k T (m + 1) out u a b c.f0 c.f1 c.f2 = some r
  | 0, u, h0, h1, hs, hn, k, hk => by
    obtain ⟨k, rfl⟩ : ∃ j, k = j + 1 := ⟨k - 1, by omega⟩
    rw [spec_l05Plan.l1, if_neg (by omega), w64 (by omega), show m + 1 - 1 = m from by omega]
    exact hn rfl k (by omega)
  | d + 1, u, h0, h1, hs, hn, k, hk => by
    obtain ⟨k, rfl⟩ : ∃ j, k = j + 2 := ⟨k - 2, by omega⟩
    rw [spec_l05Plan.l1, if_pos (by omega), snext_eq, Option.bind_some, nextT_to ha hb hc ⟨h0, by omega⟩, w64 (x := u + 1) (by omega), w64 (x := m + 1 - 1) (by omega), show m + 1 - 1 = m from by omega]
    by_cases hok : okTo a b c u = true
    · have hin : insS a (stepTo c u) = true := (Bool.and_eq_true_iff.1 hok).2
      have hsp := spot_eq ha hin
      have hl2 := spotN_lt ha.2 hin
      have hTl := hT.1
      have hv := hT.2 _ hin
      have hg : turnsG a b c (d + 1) u = u :: turnsG a b c d (u + 1) := by rw [turnsG, if_pos hok]
      rw [hg, findL] at hs hn
      rw [if_pos hok]
      dsimp only
      rw [if_pos rfl, hsp, Option.bind_some, if_pos (by omega), if_pos (by omega), hv]
      by_cases he : mget M (stepTo c u) = some (m - 1)
      · rw [if_pos ((tv_iff hm.1).2 he), if_pos (by omega)]
        rw [if_pos he] at hs
        exact hs u rfl (k + 1) (by omega)
      · rw [if_neg (fun h => he ((tv_iff hm.1).1 h))]
        rw [if_neg he] at hs hn
        exact plan_inner hT hm hc hl d (u + 1) (by omega) (by omega) hs hn (k + 1) (by omega)
    · have hg : turnsG a b c (d + 1) u = turnsG a b c d (u + 1) := by rw [turnsG, if_neg hok]
      rw [hg] at hs hn
      rw [if_neg hok]
      dsimp only
      rw [if_neg (by simp)]
      exact plan_inner hT hm hc hl d (u + 1) (by omega) (by omega) hs hn (k + 1) (by omega)

omit ha hb in
theorem findL_mem {M : List (S24 × Int)} {m : Int} {c : S24} : ∀ {l : List Int} {u : Int}, findL M m c l = some u → u ∈ l ∧ mget M (stepTo c u) = some m
  | [], u, h => by cases h
  | x :: l, u, h => by
    unfold findL at h
    by_cases he : mget M (stepTo c x) = some m
    · rw [if_pos he] at h
      obtain rfl := Option.some.inj h
      exact ⟨by simp, he⟩
    · rw [if_neg he] at h
      have := findL_mem h
      exact ⟨by simp [this.1], this.2⟩
theorem plan_outer {T : List Int} {M : List (S24 × Int)} (hT : RelT a T M) : ∀ (mm : Nat) (c : S24) (out : List Int), insS a c = true → out.length + mm ≤ 40 → ∀ k, mm * 20 + 2 ≤ k → spec_l05Plan.l0 k T ((mm : Int) + 1) out a b c.f0 c.f1 c.f2 = some (planP M a b mm (mm : Int) c out, true)
  | 0, c, out, hc, hl, k, hk => by
    obtain ⟨k, rfl⟩ : ∃ j, k = j + 1 := ⟨k - 1, by omega⟩
    rw [spec_l05Plan.l0, if_neg (by omega)]
    rfl
  | mm + 1, c, out, hc, hl, k, hk => by
    obtain ⟨k, rfl⟩ : ∃ j, k = j + 1 := ⟨k - 1, by omega⟩
    rw [spec_l05Plan.l0, if_pos (by omega), w64 (x := -a) (by omega)]
    have hcast : ((mm + 1 : Nat) : Int) = (mm : Int) + 1 := by omega
    rw [hcast, planP, show (mm : Int) + 1 - 1 = (mm : Int) from by omega]
    refine plan_inner ha hb hT (m := (mm : Int) + 1) ⟨by omega, by omega⟩ hc (by omega) (K := mm * 20 + 2) (2 * a + 1).toNat (-a) (by omega) (by omega) (fun u' hu k hk => ?_) (fun hu k hk => ?_) k (by omega)
    · rw [show (mm : Int) + 1 - 1 = (mm : Int) from by omega] at hu
      have hmem := findL_mem hu
      have hok := turnsP_mem ha (show u' ∈ turnsP a b c from hmem.1)
      have e : findL M (mm : Int) c (turnsP a b c) = some u' := hu
      rw [e]
      exact plan_outer hT mm (stepTo c u') (out ++ [u']) (Bool.and_eq_true_iff.1 hok.1).2 (by simp; omega) k hk
    · rw [show (mm : Int) + 1 - 1 = (mm : Int) from by omega] at hu
      have e : findL M (mm : Int) c (turnsP a b c) = none := hu
      rw [e]
      exact plan_outer hT mm c out hc (by omega) k hk
end

theorem plan_both (a b o h t : Int) : ∃ (r : List Int) (q : Bool) (K : Nat), r.length ≤ 40 ∧ impl_PlanHome.f a b o h t = some (r, q) ∧ ∀ k, K ≤ k → spec_PlanHome.f k a b o h t = some (r, q) := by
  cases hv : valB a b o h t with
  | false =>
    refine ⟨[], false, 0, by simp, ?_, fun k _ => ?_⟩
    · unfold impl_PlanHome.f
      rw [ivalc_eq, hv]
      rfl
    · unfold spec_PlanHome.f
      rw [sis_eq, hv]
      rfl
  | true =>
    obtain ⟨ha, hb, ho, hh, ht⟩ := valB_iff hv
    obtain ⟨K, T, hT, e⟩ := home_eq ha hb
    have hc : insS a ⟨o, h, t⟩ = true := insS_iff.2 ⟨ho, hh, ht⟩
    have hs : spec_l05Spot.f o h t = some (spotN ⟨o, h, t⟩ : Int) := spot_eq ha hc
    have hl := spotN_lt ha.2 hc
    have hl2 := hT.1
    have hr := hT.2 _ hc
    have hi : impl_PlanHome.f a b o h t = (impl_Limits_plan.f a b o h t).bind fun bt => some (bt.1, bt.2) := by
      unfold impl_PlanHome.f
      rw [ivalc_eq, hv]
      rfl
    have hsp : ∀ k, K ≤ k → spec_PlanHome.f k a b o h t = ((if tv (distD a b) ⟨o, h, t⟩ = 0 then (some (([] : List Int), false)) else (spec_l05Plan.l0 k T (tv (distD a b) ⟨o, h, t⟩) [] a b o h t)).bind fun bt => some (bt.1, bt.2)) := by
      intro k hk
      unfold spec_PlanHome.f spec_l05Plan.f
      rw [sis_eq, hv, Option.bind_some, if_pos rfl, e k hk, Option.bind_some, hs, Option.bind_some, if_pos (by omega), if_pos (by omega), hr]
    have hpf : impl_Limits_plan.f a b o h t = match mget (distD a b) ⟨o, h, t⟩ with
        | none => some ([], false)
        | some n => if 0 ≤ n ∧ n ≤ 40 then some (planP (distD a b) a b n.toNat n ⟨o, h, t⟩ [], true) else none := by
      unfold impl_Limits_plan.f
      rw [if_pos ⟨ha, hb, hc⟩]
      generalize mget (distD a b) ⟨o, h, t⟩ = x
      cases x <;> rfl
    cases hm : mget (distD a b) ⟨o, h, t⟩ with
    | none =>
      rw [hm] at hpf
      have htv : tv (distD a b) ⟨o, h, t⟩ = 0 := by unfold tv; rw [hm]
      refine ⟨[], false, K, by simp, ?_, fun k hk => ?_⟩
      · rw [hi, hpf]; rfl
      · rw [hsp k hk, if_pos htv]; rfl
    | some n =>
      have hn := (dist_inv ha b).2 _ _ hm
      rw [hm] at hpf
      dsimp only at hpf
      rw [if_pos hn] at hpf
      have htv : tv (distD a b) ⟨o, h, t⟩ = n + 1 := by unfold tv; rw [hm]
      refine ⟨planP (distD a b) a b n.toNat n ⟨o, h, t⟩ [], true, K + 900, Nat.le_trans (planP_len _ _ _ _ _ _ _) (by simp; omega), ?_, fun k hk => ?_⟩
      · rw [hi, hpf]; rfl
      · have hp := plan_outer ha hb hT n.toNat ⟨o, h, t⟩ [] hc (by simp; omega) k (by omega)
        rw [show ((n.toNat : Nat) : Int) = n from by omega] at hp
        rw [hsp k (by omega), htv, if_neg (by omega), hp]
        rfl

end Go.Proofs.Ytibmehephlngfaa.Pure
