/- The program's MachineFrom and the reference's answer alike for every pose and every two lists. -/
import Derived.Test.YthjcoobgibdpcaaQ0
import Derived.Test.YthjcoobgibdpcaaQ6
import Derived.Test.YthjcoobgibdpcaaQ7
import Derived.Test.YthjcoobgibdpcaaQ8
import Derived.Test.YthjcoobgibdpcaaQ9
import Derived.Test.YthjcoobgibdpcaaQ10
import Derived.Test.YthjcoobgibdpcaaPMachM
import Derived.Test.YthjcoobgibdpcaaPEqI
import Derived.Test.YthjcoobgibdpcaaPToM
import Derived.Test.YthjcoobgibdpcaaGFloor
namespace Go.Proofs.Ythjcoobgibdpcaa.Pure
open Go.RowKit Go.Proofs.Ythjcoobgibdpcaa.Q Go.Proofs.YthjcoobgibdpcaaW.PrintWords Go.Proofs.YthjcoobgibdpcaaW.PrintLast
set_option linter.unusedVariables false
set_option linter.unusedSimpArgs false

theorem fl_eq (a b : Int) (ha : -10000 ≤ a ∧ a ≤ 10000) (hb : b = 2 ∨ b = 4) : impl_floorOf.f a b = some (a / b) := by
  have hb0 : b ≠ 0 := by omega
  unfold impl_floorOf.f
  rw [if_neg hb0]
  by_cases h : 0 ≤ a
  · rw [Int.tmod_eq_emod_of_nonneg h, Int.tdiv_eq_ediv_of_nonneg h]
    have m0 := Int.emod_nonneg a hb0
    rw [if_neg (by omega)]
    rcases hb with rfl | rfl <;> rw [w64 (by omega)]
  · obtain ⟨c, rfl⟩ : ∃ c, a = -c := ⟨-a, by omega⟩
    rw [Int.neg_tmod, Int.neg_tdiv, Int.tmod_eq_emod_of_nonneg (by omega), Int.tdiv_eq_ediv_of_nonneg (by omega)]
    rcases hb with rfl | rfl
    · by_cases m : -(c % 2) < 0
      · rw [if_pos m, w64 (x := -(c / 2)) (by omega), w64 (by omega)]; congr 1; omega
      · rw [if_neg m, w64 (by omega)]; congr 1; omega
    · by_cases m : -(c % 4) < 0
      · rw [if_pos m, w64 (x := -(c / 4)) (by omega), w64 (by omega)]; congr 1; omega
      · rw [if_neg m, w64 (by omega)]; congr 1; omega

theorem td_exact (x q : Int) (b : Int) (hb : b ≠ 0) (h : x = q * b) : Int.tdiv x b = q := by rw [h]; exact Int.mul_tdiv_cancel _ hb
theorem td_small (x : Int) (h : -10000 ≤ x ∧ x ≤ 10000) : -10000 ≤ Int.tdiv x 4 ∧ Int.tdiv x 4 ≤ 10000 := by
  by_cases c : 0 ≤ x
  · rw [Int.tdiv_eq_ediv_of_nonneg c]; omega
  · obtain ⟨y, rfl⟩ : ∃ y, x = -y := ⟨-x, by omega⟩
    rw [Int.neg_tdiv, Int.tdiv_eq_ediv_of_nonneg (by omega)]; omega

def all4 (l l' : List Int) : Bool := decide (rd l 0 = rd l' 0) && (decide (rd l 1 = rd l' 1) && (decide (rd l 2 = rd l' 2) && decide (rd l 3 = rd l' 3)))
theorem d_if (p : Prop) [Decidable p] (x : Bool) : (if p then some x else some false) = some (decide p && x) := by
  by_cases h : p
  · rw [if_pos h, decide_eq_true h, Bool.true_and]
  · rw [if_neg h, decide_eq_false h, Bool.false_and]
theorem eq_step (k : Nat) (l l' : List Int) (hl : l.length = 4) (hl' : l'.length = 4) (i : Int) (h0 : 0 ≤ i) (h4 : i < 4) :
    slices_Equal_int64_int64.l0 (k + 1) l l' 4 i = if rd l i = rd l' i then slices_Equal_int64_int64.l0 k l l' 4 (i + 1) else some false := by
  simp only [slices_Equal_int64_int64.l0]
  rw [if_pos h4, if_pos h0, if_pos (by omega), if_pos (by omega), w64 (by omega)]
theorem equal_eq (k : Nat) (l l' : List Int) (hl : l.length = 4) (hl' : l'.length = 4) : slices_Equal_int64_int64.f (k + 5) l l' = some (all4 l l') := by
  unfold slices_Equal_int64_int64.f
  have e : (l.length : Int) = 4 := by omega
  have e' : (l'.length : Int) = 4 := by omega
  rw [e, e', if_pos rfl, eq_step _ _ _ hl hl' 0 (by omega) (by omega), eq_step _ _ _ hl hl' (0 + 1) (by omega) (by omega), eq_step _ _ _ hl hl' (0 + 1 + 1) (by omega) (by omega), eq_step _ _ _ hl hl' (0 + 1 + 1 + 1) (by omega) (by omega)]
  simp only [slices_Equal_int64_int64.l0]
  rw [if_neg (show ¬ ((0 + 1 + 1 + 1 + 1 : Int) < 4) by omega)]
  simp only [show (0 + 1 : Int) = 1 from rfl, show (1 + 1 : Int) = 2 from rfl, show (2 + 1 : Int) = 3 from rfl, d_if, Bool.and_true]
  rfl
theorem same_step (k : Nat) (l l' : List Int) (hl : l.length = 4) (hl' : l'.length = 4) (i : Int) (h0 : 0 ≤ i) (h4 : i < 4) :
    spec_l00Same.l0 (k + 1) l l' i = if rd l i = rd l' i then spec_l00Same.l0 k l l' (i + 1) else some false := by
  simp only [spec_l00Same.l0]
  rw [if_pos (by omega), if_pos h0, if_pos (by omega), w64 (by omega)]
theorem same_eq (k : Nat) (l l' : List Int) (hl : l.length = 4) (hl' : l'.length = 4) : spec_l00Same.f (k + 5) l l' = some (all4 l l') := by
  unfold spec_l00Same.f
  rw [if_pos (by omega), same_step _ _ _ hl hl' 0 (by omega) (by omega), same_step _ _ _ hl hl' (0 + 1) (by omega) (by omega), same_step _ _ _ hl hl' (0 + 1 + 1) (by omega) (by omega), same_step _ _ _ hl hl' (0 + 1 + 1 + 1) (by omega) (by omega)]
  simp only [spec_l00Same.l0]
  rw [if_neg (show ¬ ((0 + 1 + 1 + 1 + 1 : Int) < (l.length : Int)) by omega)]
  simp only [show (0 + 1 : Int) = 1 from rfl, show (1 + 1 : Int) = 2 from rfl, show (2 + 1 : Int) = 3 from rfl, d_if, Bool.and_true]
  rfl

abbrev R10 := Int × Int × Int × Int × Int × Int × Int × Int × Int × Bool
def zero10 : R10 := (0, 0, 0, 0, 0, 0, 0, 0, 0, false)
section
variable (a0 a1 a2 a3 g0 g1 : Int) (gs ss : List Int) (d1 d2 ad : Int)
def mS : Int := wrap64 (wrap64 (a0 + wrap64 (2 * wrap64 (a2 + d1))) - wrap64 (40 - g0))
/-- What comes of the turns d1, d2 and the advance ad. -/
def resT : R10 :=
  if (machB (mS a0 a2 g0 d1) (mS a1 a3 g1 d2) (wrap64 (a2 + d1)) (wrap64 (a3 + d2)) a0 a1 a2 a3 ad && (all4 (gapsL (mS a0 a2 g0 d1) (mS a1 a3 g1 d2) (wrap64 (a2 + d1)) (wrap64 (a3 + d2)) a0 a1 a2 a3 ad) gs
    && all4 (strokesL (mS a0 a2 g0 d1) (mS a1 a3 g1 d2) (wrap64 (a2 + d1)) (wrap64 (a3 + d2)) a0 a1 a2 a3 ad) ss)) = true
  then (mS a0 a2 g0 d1, mS a1 a3 g1 d2, wrap64 (a2 + d1), wrap64 (a3 + d2), a0, a1, a2, a3, ad, true) else zero10

theorem res_strokes (hp : poseB a0 a1 a2 a3 = true) (h1 : -10000 ≤ d1 ∧ d1 ≤ 10000) (h2 : -10000 ≤ d2 ∧ d2 ≤ 10000) (ha : 0 ≤ ad ∧ ad ≤ 10000)
    (h : all4 (strokesL (mS a0 a2 g0 d1) (mS a1 a3 g1 d2) (wrap64 (a2 + d1)) (wrap64 (a3 + d2)) a0 a1 a2 a3 ad) ss = true) : rd ss 2 - rd ss 0 = 4 * d1 ∧ rd ss 3 - rd ss 1 = 4 * d2 := by
  have p := poseB_iff hp
  unfold all4 at h
  simp only [Bool.and_eq_true, decide_eq_true_eq] at h
  obtain ⟨e0, e1, e2, e3⟩ := h
  have r0 : rd (strokesL (mS a0 a2 g0 d1) (mS a1 a3 g1 d2) (wrap64 (a2 + d1)) (wrap64 (a3 + d2)) a0 a1 a2 a3 ad) 0 = wrap64 (ad - wrap64 (2 * wrap64 (wrap64 (a2 + d1) - a2))) := rfl
  have r1 : rd (strokesL (mS a0 a2 g0 d1) (mS a1 a3 g1 d2) (wrap64 (a2 + d1)) (wrap64 (a3 + d2)) a0 a1 a2 a3 ad) 1 = wrap64 (ad - wrap64 (2 * wrap64 (wrap64 (a3 + d2) - a3))) := rfl
  have r2 : rd (strokesL (mS a0 a2 g0 d1) (mS a1 a3 g1 d2) (wrap64 (a2 + d1)) (wrap64 (a3 + d2)) a0 a1 a2 a3 ad) 2 = wrap64 (ad + wrap64 (2 * wrap64 (wrap64 (a2 + d1) - a2))) := rfl
  have r3 : rd (strokesL (mS a0 a2 g0 d1) (mS a1 a3 g1 d2) (wrap64 (a2 + d1)) (wrap64 (a3 + d2)) a0 a1 a2 a3 ad) 3 = wrap64 (ad + wrap64 (2 * wrap64 (wrap64 (a3 + d2) - a3))) := rfl
  rw [r0, w64 (x := a2 + d1) (by omega), w64 (x := a2 + d1 - a2) (by omega), w64 (x := 2 * (a2 + d1 - a2)) (by omega), w64 (by omega)] at e0
  rw [r1, w64 (x := a3 + d2) (by omega), w64 (x := a3 + d2 - a3) (by omega), w64 (x := 2 * (a3 + d2 - a3)) (by omega), w64 (by omega)] at e1
  rw [r2, w64 (x := a2 + d1) (by omega), w64 (x := a2 + d1 - a2) (by omega), w64 (x := 2 * (a2 + d1 - a2)) (by omega), w64 (by omega)] at e2
  rw [r3, w64 (x := a3 + d2) (by omega), w64 (x := a3 + d2 - a3) (by omega), w64 (x := 2 * (a3 + d2 - a3)) (by omega), w64 (by omega)] at e3
  omega
end

/-- Rounded down or towards 0: the same comes of it. -/
theorem res_alike (a0 a1 a2 a3 : Int) (gs ss : List Int) (hp : poseB a0 a1 a2 a3 = true) (h0 : 0 ≤ rd ss 0 ∧ rd ss 0 ≤ 2400) (h1 : 0 ≤ rd ss 1 ∧ rd ss 1 ≤ 2400) (h2 : 0 ≤ rd ss 2 ∧ rd ss 2 ≤ 2400) (h3 : 0 ≤ rd ss 3 ∧ rd ss 3 ≤ 2400) (ad : Int) (ha : 0 ≤ ad ∧ ad ≤ 10000) :
    resT a0 a1 a2 a3 (rd gs 0) (rd gs 1) gs ss ((rd ss 2 - rd ss 0) / 4) ((rd ss 3 - rd ss 1) / 4) ad = resT a0 a1 a2 a3 (rd gs 0) (rd gs 1) gs ss (Int.tdiv (rd ss 2 - rd ss 0) 4) (Int.tdiv (rd ss 3 - rd ss 1) 4) ad := by
  by_cases c : (rd ss 2 - rd ss 0) % 4 = 0 ∧ (rd ss 3 - rd ss 1) % 4 = 0
  · rw [td_exact (rd ss 2 - rd ss 0) ((rd ss 2 - rd ss 0) / 4) 4 (by decide) (by omega), td_exact (rd ss 3 - rd ss 1) ((rd ss 3 - rd ss 1) / 4) 4 (by decide) (by omega)]
  · have key : ∀ d1 d2 : Int, -10000 ≤ d1 ∧ d1 ≤ 10000 → -10000 ≤ d2 ∧ d2 ≤ 10000 → resT a0 a1 a2 a3 (rd gs 0) (rd gs 1) gs ss d1 d2 ad = zero10 := by
      intro d1 d2 k1 k2
      unfold resT
      rw [if_neg]
      intro h
      simp only [Bool.and_eq_true] at h
      have := res_strokes a0 a1 a2 a3 (rd gs 0) (rd gs 1) ss d1 d2 ad hp k1 k2 ha h.2.2
      omega
    rw [key _ _ (by omega) (by omega), key _ _ (td_small _ (by omega)) (td_small _ (by omega))]

theorem all_rd (l : List Int) (lo hi : Int) (hl : l.length = 4) : l.all (inR lo hi) = (inR lo hi (rd l 0) && (inR lo hi (rd l 1) && (inR lo hi (rd l 2) && inR lo hi (rd l 3)))) := by
  match l, hl with
  | [a, b, c, d], _ => simp [rd]

theorem from_j0 (k : Nat) (a0 a1 a2 a3 : Int) (gs ss : List Int) (hg : gs.length = 4) (hs : ss.length = 4) (h : ss.all (inR 0 2400) = true) :
    impl_MachineFrom.j0 (k + 7) gs ss false a0 a1 a2 a3 = some (resT a0 a1 a2 a3 (rd gs 0) (rd gs 1) gs ss ((rd ss 2 - rd ss 0) / 4) ((rd ss 3 - rd ss 1) / 4) ((rd ss 0 + rd ss 2) / 2)) := by
  rw [all_rd ss 0 2400 hs] at h
  simp only [Bool.and_eq_true] at h
  have b0 := inR_iff h.1
  have b1 := inR_iff h.2.1
  have b2 := inR_iff h.2.2.1
  have b3 := inR_iff h.2.2.2
  have n0 : (0 : Int) < (ss.length : Int) := by omega
  have n1 : (1 : Int) < (ss.length : Int) := by omega
  have n2 : (2 : Int) < (ss.length : Int) := by omega
  have n3 : (3 : Int) < (ss.length : Int) := by omega
  have m0 : (0 : Int) < (gs.length : Int) := by omega
  have m1 : (1 : Int) < (gs.length : Int) := by omega
  simp only [impl_MachineFrom.j0, Bool.false_eq_true, if_false, if_pos n0, if_pos n1, if_pos n2, if_pos n3, if_pos m0, if_pos m1]
  rw [w64 (x := rd ss 0 + rd ss 2) (by omega), w64 (x := rd ss 2 - rd ss 0) (by omega), w64 (x := rd ss 3 - rd ss 1) (by omega), fl_eq _ 2 (by omega) (Or.inl rfl), fl_eq _ 4 (by omega) (Or.inr rfl), fl_eq _ 4 (by omega) (Or.inr rfl)]
  simp only [Option.bind_some, imach_eq, igaps_eq, istrokes_eq]
  rw [equal_eq (k + 1) _ gs rfl hg, equal_eq (k + 1) _ ss rfl hs]
  unfold resT mS
  simp only [Option.bind_some]
  generalize machB _ _ _ _ a0 a1 a2 a3 ((rd ss 0 + rd ss 2) / 2) = x
  generalize all4 (gapsL _ _ _ _ _ _ _ _ _) gs = y
  generalize all4 (strokesL _ _ _ _ _ _ _ _ _) ss = z
  cases x <;> cases y <;> cases z <;> simp [impl_MachineFrom.j1, zero10]

theorem sfrom_end (k : Nat) (a0 a1 a2 a3 : Int) (gs ss : List Int) (hg : gs.length = 4) (hs : ss.length = 4) (h : ss.all (inR 0 2400) = true) :
    spec_MachineFrom.l0 (k + 8) gs ss 4 a0 a1 a2 a3 = some (resT a0 a1 a2 a3 (rd gs 0) (rd gs 1) gs ss (Int.tdiv (rd ss 2 - rd ss 0) 4) (Int.tdiv (rd ss 3 - rd ss 1) 4) ((rd ss 0 + rd ss 2) / 2)) := by
  rw [all_rd ss 0 2400 hs] at h
  simp only [Bool.and_eq_true] at h
  have b0 := inR_iff h.1
  have b1 := inR_iff h.2.1
  have b2 := inR_iff h.2.2.1
  have b3 := inR_iff h.2.2.2
  have n0 : (0 : Int) < (ss.length : Int) := by omega
  have n1 : (1 : Int) < (ss.length : Int) := by omega
  have n2 : (2 : Int) < (ss.length : Int) := by omega
  have n3 : (3 : Int) < (ss.length : Int) := by omega
  have m0 : (0 : Int) < (gs.length : Int) := by omega
  have m1 : (1 : Int) < (gs.length : Int) := by omega
  have t1 := td_small (rd ss 2 - rd ss 0) (by omega)
  have t2 := td_small (rd ss 3 - rd ss 1) (by omega)
  simp only [spec_MachineFrom.l0, if_neg (show ¬ ((4 : Int) < 4) by decide), if_pos n0, if_pos n1, if_pos n2, if_pos n3, if_pos m0, if_pos m1]
  rw [w64 (x := rd ss 0 + rd ss 2) (by omega), w64 (x := rd ss 2 - rd ss 0) (by omega), w64 (x := rd ss 3 - rd ss 1) (by omega), Int.tdiv_eq_ediv_of_nonneg (a := rd ss 0 + rd ss 2) (by omega),
    w64 (x := (rd ss 0 + rd ss 2) / 2) (by omega), w64 (x := Int.tdiv (rd ss 2 - rd ss 0) 4) (by omega), w64 (x := Int.tdiv (rd ss 3 - rd ss 1) 4) (by omega)]
  rw [smach_eq _ _ _ _ _ _ _ _ _ (k + 1)]
  unfold resT mS
  simp only [Option.bind_some, sgaps_eq]
  rw [same_eq (k + 2) _ gs rfl hg]
  by_cases hm : machB (wrap64 (wrap64 (a0 + wrap64 (2 * wrap64 (a2 + (rd ss 2 - rd ss 0).tdiv 4))) - wrap64 (40 - rd gs 0))) (wrap64 (wrap64 (a1 + wrap64 (2 * wrap64 (a3 + (rd ss 3 - rd ss 1).tdiv 4))) - wrap64 (40 - rd gs 1))) (wrap64 (a2 + (rd ss 2 - rd ss 0).tdiv 4)) (wrap64 (a3 + (rd ss 3 - rd ss 1).tdiv 4)) a0 a1 a2 a3 ((rd ss 0 + rd ss 2) / 2) = true
  · have hp : poseB (wrap64 (wrap64 (a0 + wrap64 (2 * wrap64 (a2 + (rd ss 2 - rd ss 0).tdiv 4))) - wrap64 (40 - rd gs 0))) (wrap64 (wrap64 (a1 + wrap64 (2 * wrap64 (a3 + (rd ss 3 - rd ss 1).tdiv 4))) - wrap64 (40 - rd gs 1))) (wrap64 (a2 + (rd ss 2 - rd ss 0).tdiv 4)) (wrap64 (a3 + (rd ss 3 - rd ss 1).tdiv 4)) = true ∧ poseB a0 a1 a2 a3 = true := by
      have h2 := hm
      unfold machB at h2
      simp only [Bool.and_eq_true] at h2
      exact ⟨h2.1, h2.2.1⟩
    rw [sstrokes_eq _ _ _ _ _ _ _ _ _ hp.1 hp.2]
    simp only [hm, if_true, Option.bind_some, Bool.true_and]
    rw [same_eq (k + 2) _ ss rfl hs]
    generalize all4 (gapsL _ _ _ _ _ _ _ _ _) gs = y
    generalize all4 (strokesL _ _ _ _ _ _ _ _ _) ss = z
    cases y <;> cases z <;> simp [spec_MachineFrom.j2, zero10]
  · have hm' := Bool.eq_false_iff.2 hm
    simp only [hm', Bool.false_and, Bool.false_eq_true, if_false]
    simp [spec_MachineFrom.j2, zero10]

theorem sfrom_step (k : Nat) (a0 a1 a2 a3 : Int) (gs ss : List Int) (hg : gs.length = 4) (hs : ss.length = 4) (i : Int) (h0 : 0 ≤ i) (h4 : i < 4) :
    spec_MachineFrom.l0 (k + 1) gs ss i a0 a1 a2 a3 = if (inR 0 80 (rd gs i) && inR 0 2400 (rd ss i)) = true then spec_MachineFrom.l0 k gs ss (i + 1) a0 a1 a2 a3 else some zero10 := by
  have e1 : i < (gs.length : Int) := by omega
  have e2 : i < (ss.length : Int) := by omega
  rw [spec_MachineFrom.l0, if_pos h4, if_pos h0, if_pos e1, in_eq, Option.bind_some, if_pos e2, in_eq, Option.bind_some, w64 (x := i + 1) (by omega)]
  cases inR 0 80 (rd gs i) <;> cases inR 0 2400 (rd ss i) <;> rfl

theorem sfrom_all (k : Nat) (a0 a1 a2 a3 : Int) (gs ss : List Int) (hg : gs.length = 4) (hs : ss.length = 4) :
    spec_MachineFrom.l0 (k + 12) gs ss 0 a0 a1 a2 a3 = if (gs.all (inR 0 80) && ss.all (inR 0 2400)) = true then spec_MachineFrom.l0 (k + 8) gs ss 4 a0 a1 a2 a3 else some zero10 := by
  rw [sfrom_step _ _ _ _ _ _ _ hg hs 0 (by omega) (by omega), sfrom_step _ _ _ _ _ _ _ hg hs (0 + 1) (by omega) (by omega), sfrom_step _ _ _ _ _ _ _ hg hs (0 + 1 + 1) (by omega) (by omega), sfrom_step _ _ _ _ _ _ _ hg hs (0 + 1 + 1 + 1) (by omega) (by omega), all_rd gs 0 80 hg, all_rd ss 0 2400 hs]
  simp only [show (0 + 1 : Int) = 1 from rfl, show (1 + 1 : Int) = 2 from rfl, show (2 + 1 : Int) = 3 from rfl, show (3 + 1 : Int) = 4 from rfl]
  cases inR 0 80 (rd gs 0) <;> cases inR 0 80 (rd gs 1) <;> cases inR 0 80 (rd gs 2) <;> cases inR 0 80 (rd gs 3) <;> cases inR 0 2400 (rd ss 0) <;> cases inR 0 2400 (rd ss 1) <;> cases inR 0 2400 (rd ss 2) <;> cases inR 0 2400 (rd ss 3) <;> simp

theorem from_both (k : Nat) (a0 a1 a2 a3 : Int) (gs ss : List Int) : ∃ r : R10, spec_MachineFrom.f (k + 20) a0 a1 a2 a3 gs ss = some r ∧ impl_MachineFrom.f (k + 20) a0 a1 a2 a3 gs ss = some r := by
  have z1 : spec_MachineFrom.j0 (k + 20) gs ss true a0 a1 a2 a3 = some zero10 := by simp [spec_MachineFrom.j0, zero10]
  have z2 : impl_MachineFrom.j0 (k + 20) gs ss true a0 a1 a2 a3 = some zero10 := by simp [impl_MachineFrom.j0, zero10]
  unfold spec_MachineFrom.f impl_MachineFrom.f
  simp only [spose_eq, ipose_eq, aw_eq, Option.bind_some]
  cases hp : poseB a0 a1 a2 a3 with
  | false => exact ⟨zero10, z1, z2⟩
  | true =>
    simp only [if_true]
    by_cases hg : gs.length = 4
    · have hg' : (gs.length : Int) = 4 := by omega
      rw [if_pos hg', if_pos hg']
      by_cases hs : ss.length = 4
      · have hs' : (ss.length : Int) = 4 := by omega
        have hsb : ((ss.length : Int) != 4) = false := by rw [hs']; rfl
        rw [if_pos hs', hsb]
        have hj : spec_MachineFrom.j0 (k + 20) gs ss false a0 a1 a2 a3 = spec_MachineFrom.l0 (k + 19) gs ss 0 a0 a1 a2 a3 := by rw [spec_MachineFrom.j0, if_neg (by simp)]
        rw [hj, sfrom_all (k + 7) a0 a1 a2 a3 gs ss hg hs]
        cases h1 : gs.all (inR 0 80) with
        | false => exact ⟨zero10, by simp, by simpa using z2⟩
        | true =>
          cases h2 : ss.all (inR 0 2400) with
          | false => exact ⟨zero10, by simp, by simpa using z2⟩
          | true =>
            have hb := h2
            rw [all_rd ss 0 2400 hs] at hb
            simp only [Bool.and_eq_true] at hb
            have b0 := inR_iff hb.1
            have b1 := inR_iff hb.2.1
            have b2 := inR_iff hb.2.2.1
            have b3 := inR_iff hb.2.2.2
            refine ⟨_, by simp only [Bool.and_self, if_true]; exact sfrom_end (k + 7) a0 a1 a2 a3 gs ss hg hs h2, ?_⟩
            simp only [if_true, Bool.not_true]
            rw [from_j0 (k + 13) a0 a1 a2 a3 gs ss hg hs h2, res_alike a0 a1 a2 a3 gs ss hp b0 b1 b2 b3 _ (by omega)]
      · have hs' : ¬ ((ss.length : Int) = 4) := by omega
        have hsb : ((ss.length : Int) != 4) = true := by simp; omega
        rw [if_neg hs', hsb]
        exact ⟨zero10, z1, z2⟩
    · have hg' : ¬ ((gs.length : Int) = 4) := by omega
      rw [if_neg hg', if_neg hg']
      exact ⟨zero10, z1, z2⟩

theorem FnExactMachineFrom (a0 a1 a2 a3 : Int) (gs ss : List Int) (_ : (Lit.int .i64 a0).wf = true) (_ : (Lit.int .i64 a1).wf = true) (_ : (Lit.int .i64 a2).wf = true) (_ : (Lit.int .i64 a3).wf = true) (_ : gs.length ≤ 9223372036854775807) (_ : ∀ z ∈ gs, (Lit.int .i64 z).wf = true) (_ : ss.length ≤ 9223372036854775807) (_ : ∀ z ∈ ss, (Lit.int .i64 z).wf = true) :
    ∃ k, laws_FnExactMachineFrom.f k a0 a1 a2 a3 gs ss = some true := by
  obtain ⟨k, hk⟩ : ∃ k : Nat, k = 2000000 := ⟨_, rfl⟩
  refine ⟨k + 20, ?_⟩
  unfold laws_FnExactMachineFrom.f
  by_cases c1 : (gs.length : Int) > 1048576
  · rw [if_pos c1]
  · rw [if_neg c1]
    by_cases c2 : (ss.length : Int) > 1048576
    · rw [if_pos c2]
    · rw [if_neg c2]
      obtain ⟨r, e1, e2⟩ := from_both k a0 a1 a2 a3 gs ss
      have t1 := to_eq (k + 20) gs (by omega) (by omega)
      have t2 := to_eq (k + 20) ss (by omega) (by omega)
      have t3 := to_eq (k + 19) gs (by omega) (by omega)
      have t4 := to_eq (k + 19) ss (by omega) (by omega)
      have q3 := eqInts_self (k + 19) gs (by omega) (by omega)
      have q4 := eqInts_self (k + 19) ss (by omega) (by omega)
      unfold laws_toPose.f
      simp only [Option.bind_some, t1, t2, e1, e2]
      simp [laws_eqMachine.f, laws_eqPose.f, laws_FnExactMachineFrom.j0, t3, t4, q3, q4]

end Go.Proofs.Ythjcoobgibdpcaa.Pure
