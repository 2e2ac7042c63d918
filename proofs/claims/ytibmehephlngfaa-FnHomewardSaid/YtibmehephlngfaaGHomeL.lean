/- Written by programs of this claim's session (gprint.py over the kit's print, shortened by shrink.py): the walk of laws.FnHomeward; Lean checks it. -/
import Derived.Test.YtibmehephlngfaaQ0
import Derived.Test.YtibmehephlngfaaQ1
import Derived.Test.YtibmehephlngfaaQ5
import Derived.Test.YtibmehephlngfaaQ14
import Derived.Test.YtibmehephlngfaaQ17
import Derived.Test.YtibmehephlngfaaQ19
import Derived.Test.YtibmehephlngfaaQ20
import Derived.Test.YtibmehephlngfaaQ30
import Derived.Test.YtibmehephlngfaaGSteps
import Derived.Test.YtibmehephlngfaaGPlan
namespace Go.Proofs.Ytibmehephlngfaa.Q
open Go.RowKit Go.Proofs.YtibmehephlngfaaW.PrintWords Go.Proofs.YtibmehephlngfaaW.PrintLast Go.Proofs.YtibmehephlngfaaW.PrintMore
attribute [local go_sem] max2_int min2_int max_two min_two max_three min_three max_four min_four   -- for this text's walks alone
set_option linter.unusedVariables false
set_option linter.unusedSimpArgs false

attribute [local go_sem high] eqA24
/-! ### laws_FnHomeward: function 12 -/
mutual
def laws_FnHomeward.j0 : Nat → Int → Int → Int → Int → Int → Int → Int → Int → Option (Bool)
 | 0, _, _, _, _, _, _, _, _ => none
 | k + 1, x237000, x237001, x238000, x238001, x238002, x245000, x245001, x245002 => (impl_StepsHome.f x237000 x237001 x238000 x238001 x238002).bind fun bt246 => ((impl_PlanHome.f x237000 x237001 x238000 x238001 x238002).bind fun bt248 => ((impl_FarthestOffset.f k x237000 x237001 x238000 x238001 x238002).bind fun bt252 => ((impl_MirrorCourse.f x238000 x238001 x238002).bind fun bt254 => ((impl_StepsHome.f x237000 x237001 bt254.1 bt254.2.1 bt254.2.2).bind fun bt258 => (if (bt248.2 != bt246.2) = true then (laws_FnHomeward.j1 k bt246.1 bt246.2 bt248.1 bt252.1 true x237000 x237001 x238000 x238001 x238002 x245000 x245001 x245002 bt254.1 bt254.2.1 bt254.2.2) else (if (bt252.2 != bt246.2) = true then (laws_FnHomeward.j1 k bt246.1 bt246.2 bt248.1 bt252.1 true x237000 x237001 x238000 x238001 x238002 x245000 x245001 x245002 bt254.1 bt254.2.1 bt254.2.2) else (if (bt258.2 != bt246.2) = true then (laws_FnHomeward.j1 k bt246.1 bt246.2 bt248.1 bt252.1 true x237000 x237001 x238000 x238001 x238002 x245000 x245001 x245002 bt254.1 bt254.2.1 bt254.2.2) else (if bt258.1 = bt246.1 then (laws_FnHomeward.j1 k bt246.1 bt246.2 bt248.1 bt252.1 ((bt248.1.length : Int) != bt246.1) x237000 x237001 x238000 x238001 x238002 x245000 x245001 x245002 bt254.1 bt254.2.1 bt254.2.2) else (laws_FnHomeward.j1 k bt246.1 bt246.2 bt248.1 bt252.1 true x237000 x237001 x238000 x238001 x238002 x245000 x245001 x245002 bt254.1 bt254.2.1 bt254.2.2)))))))))
def laws_FnHomeward.j1 : Nat → Int → Bool → List Int → Int → Bool → Int → Int → Int → Int → Int → Int → Int → Int → Int → Int → Int → Option (Bool)
 | 0, _, _, _, _, _, _, _, _, _, _, _, _, _, _, _, _ => none
 | k + 1, x9, x10, x11, x13, x98, x237000, x237001, x238000, x238001, x238002, x245000, x245001, x245002, x258000, x258001, x258002 => if x98 = true then (some false) else ((impl_StepsHome.f x237000 x237001 x245000 x245001 x245002).bind fun bt260 => ((impl_PlanBoth.f k x237000 x237001 x238000 x238001 x238002 x245000 x245001 x245002).bind fun bt262 => (if x10 = true then (if (bt262.2 != bt260.2) = true then (laws_FnHomeward.j2 k x9 x10 x11 x13 bt260.1 bt262.1 bt262.2 true x237000 x237001 x238000 x238001 x238002 x258000 x258001 x258002) else (laws_FnHomeward.j2 k x9 x10 x11 x13 bt260.1 bt262.1 bt262.2 (!x10) x237000 x237001 x238000 x238001 x238002 x258000 x258001 x258002)) else (if (bt262.2 != false) = true then (laws_FnHomeward.j2 k x9 x10 x11 x13 bt260.1 bt262.1 bt262.2 true x237000 x237001 x238000 x238001 x238002 x258000 x258001 x258002) else (laws_FnHomeward.j2 k x9 x10 x11 x13 bt260.1 bt262.1 bt262.2 (!x10) x237000 x237001 x238000 x238001 x238002 x258000 x258001 x258002)))))
def laws_FnHomeward.j2 : Nat → Int → Bool → List Int → Int → Int → List (List Int) → Bool → Bool → Int → Int → Int → Int → Int → Int → Int → Int → Option (Bool)
 | 0, _, _, _, _, _, _, _, _, _, _, _, _, _, _, _, _ => none
 | k + 1, x9, x10, x11, x13, x18, x20, x21, x121, x237000, x237001, x238000, x238001, x238002, x258000, x258001, x258002 => if x121 = true then (if x10 = true then (some false) else (if x21 = true then (some false) else ((impl_ValidLimits.f x237000 x237001).bind fun t266 => (some t266)))) else (if x21 = true then (if (x20.length : Int) = x9 then (if (x20.length : Int) < x9 then (laws_FnHomeward.j3 k x9 x11 x13 true x237000 x237001 x238000 x238001 x238002 x258000 x258001 x258002) else (laws_FnHomeward.j3 k x9 x11 x13 (decide ((x20.length : Int) < x18)) x237000 x237001 x238000 x238001 x238002 x258000 x258001 x258002)) else (if (x20.length : Int) = x18 then (if (x20.length : Int) < x9 then (laws_FnHomeward.j3 k x9 x11 x13 true x237000 x237001 x238000 x238001 x238002 x258000 x258001 x258002) else (laws_FnHomeward.j3 k x9 x11 x13 (decide ((x20.length : Int) < x18)) x237000 x237001 x238000 x238001 x238002 x258000 x258001 x258002)) else (laws_FnHomeward.j3 k x9 x11 x13 true x237000 x237001 x238000 x238001 x238002 x258000 x258001 x258002))) else (laws_FnHomeward.j3 k x9 x11 x13 false x237000 x237001 x238000 x238001 x238002 x258000 x258001 x258002))
def laws_FnHomeward.j3 : Nat → Int → List Int → Int → Bool → Int → Int → Int → Int → Int → Int → Int → Int → Option (Bool)
 | 0, _, _, _, _, _, _, _, _, _, _, _, _ => none
 | k + 1, x9, x11, x13, x159, x237000, x237001, x238000, x238001, x238002, x258000, x258001, x258002 => if x159 = true then (some false) else ((impl_RunCourse.f k x237000 x237001 x238000 x238001 x238002 x11).bind fun bt267 => (if bt267.2 = true then (if (bt267.1.length : Int) = x9 then (if x9 > 0 then (if 0 ≤ (wrap64 (x9 - 1)) then (if (wrap64 (x9 - 1)) < (bt267.1.length : Int) then (laws_FnHomeward.j4 k x9 x11 x13 bt267.1 (!(((rd_T24 bt267.1 (wrap64 (x9 - 1))).f0) == 0) || (!(((rd_T24 bt267.1 (wrap64 (x9 - 1))).f1) == 0) || (!(((rd_T24 bt267.1 (wrap64 (x9 - 1))).f2) == 0)))) x237000 x237001 x238000 x238001 x238002 x258000 x258001 x258002) else (none)) else (none)) else (laws_FnHomeward.j4 k x9 x11 x13 bt267.1 false x237000 x237001 x238000 x238001 x238002 x258000 x258001 x258002)) else (laws_FnHomeward.j4 k x9 x11 x13 bt267.1 true x237000 x237001 x238000 x238001 x238002 x258000 x258001 x258002)) else (laws_FnHomeward.j4 k x9 x11 x13 bt267.1 true x237000 x237001 x238000 x238001 x238002 x258000 x258001 x258002)))
def laws_FnHomeward.j4 : Nat → Int → List Int → Int → List (S24) → Bool → Int → Int → Int → Int → Int → Int → Int → Int → Option (Bool)
 | 0, _, _, _, _, _, _, _, _, _, _, _, _, _ => none
 | k + 1, x9, x11, x13, x22, x187, x237000, x237001, x238000, x238001, x238002, x258000, x258001, x258002 => if x187 = true then (some false) else ((laws_b10Abs.f x238000).bind fun t272 => (laws_FnHomeward.l0 k x9 x11 x13 x22 t272 (([] : List Int)) 0 x237000 x237001 x258000 x258001 x258002))
def laws_FnHomeward.l0 : Nat → Int → List Int → Int → List (S24) → Int → List Int → Int → Int → Int → Int → Int → Int → Option (Bool)
 | 0, _, _, _, _, _, _, _, _, _, _, _, _ => none
 | k + 1, x9, x11, x13, x22, x24, x25, x26, x237000, x237001, x258000, x258001, x258002 => if x26 < (x22.length : Int) then (if 0 ≤ x26 then ((laws_b10Abs.f ((rd_T24 x22 x26).f0)).bind fun t282 => (if t282 > x24 then ((laws_b10Abs.f ((rd_T24 x22 x26).f0)).bind fun t284 => (if x26 < (x11.length : Int) then (if x25.length < 17592186044416 then (laws_FnHomeward.l0 k x9 x11 x13 x22 t284 (x25 ++ [wrap64 (-(rd x11 x26))]) (wrap64 (x26 + 1)) x237000 x237001 x258000 x258001 x258002) else (none)) else (none))) else (if x26 < (x11.length : Int) then (if x25.length < 17592186044416 then (laws_FnHomeward.l0 k x9 x11 x13 x22 x24 (x25 ++ [wrap64 (-(rd x11 x26))]) (wrap64 (x26 + 1)) x237000 x237001 x258000 x258001 x258002) else (none)) else (none)))) else (none)) else ((impl_RunCourse.f k x237000 x237001 x258000 x258001 x258002 x25).bind fun bt276 => (if bt276.2 = true then (if x24 = x13 then (if (bt276.1.length : Int) = x9 then (if x9 = 0 then (some true) else (if 0 ≤ (wrap64 (x9 - 1)) then (if (wrap64 (x9 - 1)) < (bt276.1.length : Int) then (some (((rd_T24 bt276.1 (wrap64 (x9 - 1))).f0) == 0 && (((rd_T24 bt276.1 (wrap64 (x9 - 1))).f1) == 0 && (((rd_T24 bt276.1 (wrap64 (x9 - 1))).f2) == 0)))) else (none)) else (none))) else (some false)) else (some false)) else (some false)))
end
def laws_FnHomeward.f (k : Nat) (l0 : List Int) (l1 : List Int) : Option (Bool) := (laws_b10Long.f l0 l1).bind fun t230 => (if t230 = true then (some true) else ((spec_B10Course.f l0).bind fun bt231 => ((spec_B10Course.f l1).bind fun bt238 => ((impl_ValidCourse.f bt231.1 bt231.2.1 bt238.2.2.1 bt238.2.2.2.1 bt238.2.2.2.2).bind fun t245 => (if t245 = true then (laws_FnHomeward.j0 k bt231.1 bt231.2.1 bt231.2.2.1 bt231.2.2.2.1 bt231.2.2.2.2 bt238.2.2.1 bt238.2.2.2.1 bt238.2.2.2.2) else (laws_FnHomeward.j0 k bt231.1 bt231.2.1 bt231.2.2.1 bt231.2.2.2.1 bt231.2.2.2.2 bt238.2.2.1 0 0))))))
theorem laws_FnHomeward.mono_l : ∀ k, (∀ y0 y1 y2 y3 y4 y5 y6 y7, LeO (laws_FnHomeward.j0 k y0 y1 y2 y3 y4 y5 y6 y7) (laws_FnHomeward.j0 (k + 1) y0 y1 y2 y3 y4 y5 y6 y7)) ∧ (∀ y0 y1 y2 y3 y4 y5 y6 y7 y8 y9 y10 y11 y12 y13 y14 y15, LeO (laws_FnHomeward.j1 k y0 y1 y2 y3 y4 y5 y6 y7 y8 y9 y10 y11 y12 y13 y14 y15) (laws_FnHomeward.j1 (k + 1) y0 y1 y2 y3 y4 y5 y6 y7 y8 y9 y10 y11 y12 y13 y14 y15)) ∧ (∀ y0 y1 y2 y3 y4 y5 y6 y7 y8 y9 y10 y11 y12 y13 y14 y15, LeO (laws_FnHomeward.j2 k y0 y1 y2 y3 y4 y5 y6 y7 y8 y9 y10 y11 y12 y13 y14 y15) (laws_FnHomeward.j2 (k + 1) y0 y1 y2 y3 y4 y5 y6 y7 y8 y9 y10 y11 y12 y13 y14 y15)) ∧ (∀ y0 y1 y2 y3 y4 y5 y6 y7 y8 y9 y10 y11, LeO (laws_FnHomeward.j3 k y0 y1 y2 y3 y4 y5 y6 y7 y8 y9 y10 y11) (laws_FnHomeward.j3 (k + 1) y0 y1 y2 y3 y4 y5 y6 y7 y8 y9 y10 y11)) ∧ (∀ y0 y1 y2 y3 y4 y5 y6 y7 y8 y9 y10 y11 y12, LeO (laws_FnHomeward.j4 k y0 y1 y2 y3 y4 y5 y6 y7 y8 y9 y10 y11 y12) (laws_FnHomeward.j4 (k + 1) y0 y1 y2 y3 y4 y5 y6 y7 y8 y9 y10 y11 y12)) ∧ (∀ y0 y1 y2 y3 y4 y5 y6 y7 y8 y9 y10 y11, LeO (laws_FnHomeward.l0 k y0 y1 y2 y3 y4 y5 y6 y7 y8 y9 y10 y11) (laws_FnHomeward.l0 (k + 1) y0 y1 y2 y3 y4 y5 y6 y7 y8 y9 y10 y11))
 | 0 => ⟨fun _ _ _ _ _ _ _ _ r h => by simp [laws_FnHomeward.j0] at h, fun _ _ _ _ _ _ _ _ _ _ _ _ _ _ _ _ r h => by simp [laws_FnHomeward.j1] at h, fun _ _ _ _ _ _ _ _ _ _ _ _ _ _ _ _ r h => by simp [laws_FnHomeward.j2] at h, fun _ _ _ _ _ _ _ _ _ _ _ _ r h => by simp [laws_FnHomeward.j3] at h, fun _ _ _ _ _ _ _ _ _ _ _ _ _ r h => by simp [laws_FnHomeward.j4] at h, fun _ _ _ _ _ _ _ _ _ _ _ _ r h => by simp [laws_FnHomeward.l0] at h⟩
 | k + 1 => by
  obtain ⟨ih0, ih1, ih2, ih3, ih4, ih5⟩ := laws_FnHomeward.mono_l k
  refine ⟨?_, ?_, ?_, ?_, ?_, ?_⟩
  ·
   intro y0 y1 y2 y3 y4 y5 y6 y7
   unfold laws_FnHomeward.j0
   repeat' first
   | (with_reducible exact ih0 _ _ _ _ _ _ _ _)
   | (with_reducible exact ih1 _ _ _ _ _ _ _ _ _ _ _ _ _ _ _ _)
   | (with_reducible exact ih2 _ _ _ _ _ _ _ _ _ _ _ _ _ _ _ _)
   | (with_reducible exact ih3 _ _ _ _ _ _ _ _ _ _ _ _)
   | (with_reducible exact ih4 _ _ _ _ _ _ _ _ _ _ _ _ _)
   | (with_reducible exact ih5 _ _ _ _ _ _ _ _ _ _ _ _)
   | (with_reducible exact impl_FarthestOffset.mono _ _ _ _ _ _)
   | (with_reducible exact impl_PlanBoth.mono _ _ _ _ _ _ _ _ _)
   | (with_reducible exact impl_RunCourse.mono _ _ _ _ _ _ _)
   | (with_reducible exact LeO.refl _)
   | (with_reducible exact LeO.none _)
   | (with_reducible refine LeO.ite ?_ ?_)
   | (with_reducible refine LeO.bind ?_ (fun _ => ?_))
   | exact ih0 _ _ _ _ _ _ _ _
   | exact ih1 _ _ _ _ _ _ _ _ _ _ _ _ _ _ _ _
   | exact ih2 _ _ _ _ _ _ _ _ _ _ _ _ _ _ _ _
   | exact ih3 _ _ _ _ _ _ _ _ _ _ _ _
   | exact ih4 _ _ _ _ _ _ _ _ _ _ _ _ _
   | exact ih5 _ _ _ _ _ _ _ _ _ _ _ _
   | exact impl_FarthestOffset.mono _ _ _ _ _ _
   | exact impl_PlanBoth.mono _ _ _ _ _ _ _ _ _
   | exact impl_RunCourse.mono _ _ _ _ _ _ _
   | exact LeO.none _
   | refine LeO.ite ?_ ?_
   | refine LeO.bind ?_ (fun _ => ?_)
  ·
   intro y0 y1 y2 y3 y4 y5 y6 y7 y8 y9 y10 y11 y12 y13 y14 y15
   unfold laws_FnHomeward.j1
   repeat' first
   | (with_reducible exact ih0 _ _ _ _ _ _ _ _)
   | (with_reducible exact ih1 _ _ _ _ _ _ _ _ _ _ _ _ _ _ _ _)
   | (with_reducible exact ih2 _ _ _ _ _ _ _ _ _ _ _ _ _ _ _ _)
   | (with_reducible exact ih3 _ _ _ _ _ _ _ _ _ _ _ _)
   | (with_reducible exact ih4 _ _ _ _ _ _ _ _ _ _ _ _ _)
   | (with_reducible exact ih5 _ _ _ _ _ _ _ _ _ _ _ _)
   | (with_reducible exact impl_FarthestOffset.mono _ _ _ _ _ _)
   | (with_reducible exact impl_PlanBoth.mono _ _ _ _ _ _ _ _ _)
   | (with_reducible exact impl_RunCourse.mono _ _ _ _ _ _ _)
   | (with_reducible exact LeO.refl _)
   | (with_reducible exact LeO.none _)
   | (with_reducible refine LeO.ite ?_ ?_)
   | (with_reducible refine LeO.bind ?_ (fun _ => ?_))
   | exact ih0 _ _ _ _ _ _ _ _
   | exact ih1 _ _ _ _ _ _ _ _ _ _ _ _ _ _ _ _
   | exact ih2 _ _ _ _ _ _ _ _ _ _ _ _ _ _ _ _
   | exact ih3 _ _ _ _ _ _ _ _ _ _ _ _
   | exact ih4 _ _ _ _ _ _ _ _ _ _ _ _ _
   | exact ih5 _ _ _ _ _ _ _ _ _ _ _ _
   | exact impl_FarthestOffset.mono _ _ _ _ _ _
   | exact impl_PlanBoth.mono _ _ _ _ _ _ _ _ _
   | exact impl_RunCourse.mono _ _ _ _ _ _ _
   | exact LeO.none _
   | refine LeO.ite ?_ ?_
   | refine LeO.bind ?_ (fun _ => ?_)
  ·
   intro y0 y1 y2 y3 y4 y5 y6 y7 y8 y9 y10 y11 y12 y13 y14 y15
   unfold laws_FnHomeward.j2
   repeat' first
   | (with_reducible exact ih0 _ _ _ _ _ _ _ _)
   | (with_reducible exact ih1 _ _ _ _ _ _ _ _ _ _ _ _ _ _ _ _)
   | (with_reducible exact ih2 _ _ _ _ _ _ _ _ _ _ _ _ _ _ _ _)
   | (with_reducible exact ih3 _ _ _ _ _ _ _ _ _ _ _ _)
   | (with_reducible exact ih4 _ _ _ _ _ _ _ _ _ _ _ _ _)
   | (with_reducible exact ih5 _ _ _ _ _ _ _ _ _ _ _ _)
   | (with_reducible exact impl_FarthestOffset.mono _ _ _ _ _ _)
   | (with_reducible exact impl_PlanBoth.mono _ _ _ _ _ _ _ _ _)
   | (with_reducible exact impl_RunCourse.mono _ _ _ _ _ _ _)
   | (with_reducible exact LeO.refl _)
   | (with_reducible exact LeO.none _)
   | (with_reducible refine LeO.ite ?_ ?_)
   | (with_reducible refine LeO.bind ?_ (fun _ => ?_))
   | exact ih0 _ _ _ _ _ _ _ _
   | exact ih1 _ _ _ _ _ _ _ _ _ _ _ _ _ _ _ _
   | exact ih2 _ _ _ _ _ _ _ _ _ _ _ _ _ _ _ _
   | exact ih3 _ _ _ _ _ _ _ _ _ _ _ _
   | exact ih4 _ _ _ _ _ _ _ _ _ _ _ _ _
   | exact ih5 _ _ _ _ _ _ _ _ _ _ _ _
   | exact impl_FarthestOffset.mono _ _ _ _ _ _
   | exact impl_PlanBoth.mono _ _ _ _ _ _ _ _ _
   | exact impl_RunCourse.mono _ _ _ _ _ _ _
   | exact LeO.none _
   | refine LeO.ite ?_ ?_
   | refine LeO.bind ?_ (fun _ => ?_)
  ·
   intro y0 y1 y2 y3 y4 y5 y6 y7 y8 y9 y10 y11
   unfold laws_FnHomeward.j3
   repeat' first
   | (with_reducible exact ih0 _ _ _ _ _ _ _ _)
   | (with_reducible exact ih1 _ _ _ _ _ _ _ _ _ _ _ _ _ _ _ _)
   | (with_reducible exact ih2 _ _ _ _ _ _ _ _ _ _ _ _ _ _ _ _)
   | (with_reducible exact ih3 _ _ _ _ _ _ _ _ _ _ _ _)
   | (with_reducible exact ih4 _ _ _ _ _ _ _ _ _ _ _ _ _)
   | (with_reducible exact ih5 _ _ _ _ _ _ _ _ _ _ _ _)
   | (with_reducible exact impl_FarthestOffset.mono _ _ _ _ _ _)
   | (with_reducible exact impl_PlanBoth.mono _ _ _ _ _ _ _ _ _)
   | (with_reducible exact impl_RunCourse.mono _ _ _ _ _ _ _)
   | (with_reducible exact LeO.refl _)
   | (with_reducible exact LeO.none _)
   | (with_reducible refine LeO.ite ?_ ?_)
   | (with_reducible refine LeO.bind ?_ (fun _ => ?_))
   | exact ih0 _ _ _ _ _ _ _ _
   | exact ih1 _ _ _ _ _ _ _ _ _ _ _ _ _ _ _ _
   | exact ih2 _ _ _ _ _ _ _ _ _ _ _ _ _ _ _ _
   | exact ih3 _ _ _ _ _ _ _ _ _ _ _ _
   | exact ih4 _ _ _ _ _ _ _ _ _ _ _ _ _
   | exact ih5 _ _ _ _ _ _ _ _ _ _ _ _
   | exact impl_FarthestOffset.mono _ _ _ _ _ _
   | exact impl_PlanBoth.mono _ _ _ _ _ _ _ _ _
   | exact impl_RunCourse.mono _ _ _ _ _ _ _
   | exact LeO.none _
   | refine LeO.ite ?_ ?_
   | refine LeO.bind ?_ (fun _ => ?_)
  ·
   intro y0 y1 y2 y3 y4 y5 y6 y7 y8 y9 y10 y11 y12
   unfold laws_FnHomeward.j4
   repeat' first
   | (with_reducible exact ih0 _ _ _ _ _ _ _ _)
   | (with_reducible exact ih1 _ _ _ _ _ _ _ _ _ _ _ _ _ _ _ _)
   | (with_reducible exact ih2 _ _ _ _ _ _ _ _ _ _ _ _ _ _ _ _)
   | (with_reducible exact ih3 _ _ _ _ _ _ _ _ _ _ _ _)
   | (with_reducible exact ih4 _ _ _ _ _ _ _ _ _ _ _ _ _)
   | (with_reducible exact ih5 _ _ _ _ _ _ _ _ _ _ _ _)
   | (with_reducible exact impl_FarthestOffset.mono _ _ _ _ _ _)
   | (with_reducible exact impl_PlanBoth.mono _ _ _ _ _ _ _ _ _)
   | (with_reducible exact impl_RunCourse.mono _ _ _ _ _ _ _)
   | (with_reducible exact LeO.refl _)
   | (with_reducible exact LeO.none _)
   | (with_reducible refine LeO.ite ?_ ?_)
   | (with_reducible refine LeO.bind ?_ (fun _ => ?_))
   | exact ih0 _ _ _ _ _ _ _ _
   | exact ih1 _ _ _ _ _ _ _ _ _ _ _ _ _ _ _ _
   | exact ih2 _ _ _ _ _ _ _ _ _ _ _ _ _ _ _ _
   | exact ih3 _ _ _ _ _ _ _ _ _ _ _ _
   | exact ih4 _ _ _ _ _ _ _ _ _ _ _ _ _
   | exact ih5 _ _ _ _ _ _ _ _ _ _ _ _
   | exact impl_FarthestOffset.mono _ _ _ _ _ _
   | exact impl_PlanBoth.mono _ _ _ _ _ _ _ _ _
   | exact impl_RunCourse.mono _ _ _ _ _ _ _
   | exact LeO.none _
   | refine LeO.ite ?_ ?_
   | refine LeO.bind ?_ (fun _ => ?_)
  ·
   intro y0 y1 y2 y3 y4 y5 y6 y7 y8 y9 y10 y11
   unfold laws_FnHomeward.l0
   repeat' first
   | (with_reducible exact ih0 _ _ _ _ _ _ _ _)
   | (with_reducible exact ih1 _ _ _ _ _ _ _ _ _ _ _ _ _ _ _ _)
   | (with_reducible exact ih2 _ _ _ _ _ _ _ _ _ _ _ _ _ _ _ _)
   | (with_reducible exact ih3 _ _ _ _ _ _ _ _ _ _ _ _)
   | (with_reducible exact ih4 _ _ _ _ _ _ _ _ _ _ _ _ _)
   | (with_reducible exact ih5 _ _ _ _ _ _ _ _ _ _ _ _)
   | (with_reducible exact impl_FarthestOffset.mono _ _ _ _ _ _)
   | (with_reducible exact impl_PlanBoth.mono _ _ _ _ _ _ _ _ _)
   | (with_reducible exact impl_RunCourse.mono _ _ _ _ _ _ _)
   | (with_reducible exact LeO.refl _)
   | (with_reducible exact LeO.none _)
   | (with_reducible refine LeO.ite ?_ ?_)
   | (with_reducible refine LeO.bind ?_ (fun _ => ?_))
   | exact ih0 _ _ _ _ _ _ _ _
   | exact ih1 _ _ _ _ _ _ _ _ _ _ _ _ _ _ _ _
   | exact ih2 _ _ _ _ _ _ _ _ _ _ _ _ _ _ _ _
   | exact ih3 _ _ _ _ _ _ _ _ _ _ _ _
   | exact ih4 _ _ _ _ _ _ _ _ _ _ _ _ _
   | exact ih5 _ _ _ _ _ _ _ _ _ _ _ _
   | exact impl_FarthestOffset.mono _ _ _ _ _ _
   | exact impl_PlanBoth.mono _ _ _ _ _ _ _ _ _
   | exact impl_RunCourse.mono _ _ _ _ _ _ _
   | exact LeO.none _
   | refine LeO.ite ?_ ?_
   | refine LeO.bind ?_ (fun _ => ?_)
theorem laws_FnHomeward.mono : ∀ a0 a1 k, LeO (laws_FnHomeward.f k a0 a1) (laws_FnHomeward.f (k + 1) a0 a1) := by
 intro a0 a1 k
 obtain ⟨ih0, ih1, ih2, ih3, ih4, ih5⟩ := laws_FnHomeward.mono_l k
 unfold laws_FnHomeward.f
 repeat' first
   | (with_reducible exact ih0 _ _ _ _ _ _ _ _)
   | (with_reducible exact ih1 _ _ _ _ _ _ _ _ _ _ _ _ _ _ _ _)
   | (with_reducible exact ih2 _ _ _ _ _ _ _ _ _ _ _ _ _ _ _ _)
   | (with_reducible exact ih3 _ _ _ _ _ _ _ _ _ _ _ _)
   | (with_reducible exact ih4 _ _ _ _ _ _ _ _ _ _ _ _ _)
   | (with_reducible exact ih5 _ _ _ _ _ _ _ _ _ _ _ _)
   | (with_reducible exact impl_FarthestOffset.mono _ _ _ _ _ _)
   | (with_reducible exact impl_PlanBoth.mono _ _ _ _ _ _ _ _ _)
   | (with_reducible exact impl_RunCourse.mono _ _ _ _ _ _ _)
   | (with_reducible exact LeO.refl _)
   | (with_reducible exact LeO.none _)
   | (with_reducible refine LeO.ite ?_ ?_)
   | (with_reducible refine LeO.bind ?_ (fun _ => ?_))
   | exact ih0 _ _ _ _ _ _ _ _
   | exact ih1 _ _ _ _ _ _ _ _ _ _ _ _ _ _ _ _
   | exact ih2 _ _ _ _ _ _ _ _ _ _ _ _ _ _ _ _
   | exact ih3 _ _ _ _ _ _ _ _ _ _ _ _
   | exact ih4 _ _ _ _ _ _ _ _ _ _ _ _ _
   | exact ih5 _ _ _ _ _ _ _ _ _ _ _ _
   | exact impl_FarthestOffset.mono _ _ _ _ _ _
   | exact impl_PlanBoth.mono _ _ _ _ _ _ _ _ _
   | exact impl_RunCourse.mono _ _ _ _ _ _ _
   | exact LeO.none _
   | refine LeO.ite ?_ ?_
   | refine LeO.bind ?_ (fun _ => ?_)
set_option maxHeartbeats 8000000 in
set_option maxRecDepth 100000 in
theorem laws_FnHomeward.calls (k : Nat) (A0 : Option Addr) (c0 : Nat) (l0 : List Int) (A1 : Option Addr) (c1 : Nat) (l1 : List Int) (r : Bool) (w : World) (hr0 : Kd.C (Kd.int .u8) w A0 l0.length l0) (hc0 : l0.length ≤ c0) (hr1 : Kd.C (Kd.int .u8) w A1 l1.length l1) (hc1 : l1.length ≤ c1) (h : laws_FnHomeward.f k l0 l1 = some r) :
  Calls Try.prog 12 #[.slice A0 l0.length c0, .slice A1 l1.length c1] w fun e w' => e = .returned (.bool r) ∧ Below w.heap.size w w' := by
 have hu40 := Try.underlying40
 have hu24 := Try.underlying24
 have HR0 := Aside0.mk hr0
 have HC0 := Aside0.mk hc0
 clear hr0 hc0
 have HR1 := Aside0.mk hr1
 have HC1 := Aside0.mk hc1
 clear hr1 hc1
 have HB := Aside0.mk (Below.refl w.heap.size w)
 have H : ((laws_b10Long.f l0 l1).bind fun t230 => (if t230 = true then (some true) else ((spec_B10Course.f l0).bind fun bt231 => ((spec_B10Course.f l1).bind fun bt238 => ((impl_ValidCourse.f bt231.1 bt231.2.1 bt238.2.2.1 bt238.2.2.2.1 bt238.2.2.2.2).bind fun t245 => (if t245 = true then (laws_FnHomeward.j0 k bt231.1 bt231.2.1 bt231.2.2.1 bt231.2.2.2.1 bt231.2.2.2.2 bt238.2.2.1 bt238.2.2.2.1 bt238.2.2.2.2) else (laws_FnHomeward.j0 k bt231.1 bt231.2.1 bt231.2.2.1 bt231.2.2.2.1 bt231.2.2.2.2 bt238.2.2.1 0 0))))))) = some r := h
 clear h
 replace H := Option.bind_eq_some_iff.mp H
 obtain ⟨t230, A30, H⟩ := H
 replace H : (if t230 = true then (some true) else ((spec_B10Course.f l0).bind fun bt231 => ((spec_B10Course.f l1).bind fun bt238 => ((impl_ValidCourse.f bt231.1 bt231.2.1 bt238.2.2.1 bt238.2.2.2.1 bt238.2.2.2.2).bind fun t245 => (if t245 = true then (laws_FnHomeward.j0 k bt231.1 bt231.2.1 bt231.2.2.1 bt231.2.2.2.1 bt231.2.2.2.2 bt238.2.2.1 bt238.2.2.2.1 bt238.2.2.2.2) else (laws_FnHomeward.j0 k bt231.1 bt231.2.1 bt231.2.2.1 bt231.2.2.2.1 bt231.2.2.2.2 bt238.2.2.1 0 0)))))) = some r := H
 have A3 := Aside0.mk A30
 clear A30
 by_cases c4 : t230 = true
 ·
  subst c4
  have H1 : (some true) = some r := by rw [if_pos rfl] at H; exact H
  clear H
  have H := H1
  clear H1
  obtain rfl := Option.some.inj H
  go_enter Try.func12, Try.ntmps12
  go_wp2_with (first | ((with_reducible refine gate_callee (f := 40) rfl ?_); refine goesL_ (some 31) rfl rfl Try.func40 (by kernel_rfl) rfl #[.slice A0 l0.length c0, .slice A1 l1.length c1] rfl (by (try simp only [List.map_toArray, List.map_cons, List.map_nil]); first | done | rfl | (simp only [List.length_drop, List.length_take]; rfl)) ?_; (with_reducible refine (laws_b10Long.calls _ _ l0 _ _ l1 true _ ?side1 ?side2 ?side3 ?side4 A3.out).mono ?_); (case side1 => repeat (first | exact HR0.out | (with_reducible refine Kd.C_alloc ?_ _) | (with_reducible refine Kd.C_drewN ?_ _) | (with_reducible refine Kd.C_drew ?_))); (case side2 => exact HC0.out); (case side3 => repeat (first | exact HR1.out | (with_reducible refine Kd.C_alloc ?_ _) | (with_reducible refine Kd.C_drewN ?_ _) | (with_reducible refine Kd.C_drew ?_))); (case side4 => exact HC1.out); rintro e w' ⟨rfl, ⟨nd, rfl⟩⟩; refine ⟨_, rfl, ?_⟩))
  go_ret
  exact ⟨by first | rfl | (simp [errW_none, errW_some] <;> rfl) | (simp [*, errW_none, errW_some] <;> rfl), by repeat (first | (with_reducible first | exact HB.out | apply below_alloc | apply pw_below_drewN | apply below_drew1) | exact HB.out)⟩
 ·
  replace c4 := Bool.eq_false_iff.mpr c4
  subst c4
  have H1 : ((spec_B10Course.f l0).bind fun bt231 => ((spec_B10Course.f l1).bind fun bt238 => ((impl_ValidCourse.f bt231.1 bt231.2.1 bt238.2.2.1 bt238.2.2.2.1 bt238.2.2.2.2).bind fun t245 => (if t245 = true then (laws_FnHomeward.j0 k bt231.1 bt231.2.1 bt231.2.2.1 bt231.2.2.2.1 bt231.2.2.2.2 bt238.2.2.1 bt238.2.2.2.1 bt238.2.2.2.2) else (laws_FnHomeward.j0 k bt231.1 bt231.2.1 bt231.2.2.1 bt231.2.2.2.1 bt231.2.2.2.2 bt238.2.2.1 0 0))))) = some r := by rw [if_neg (show ¬ (false = true) by decide)] at H; exact H
  clear H
  have H := H1
  clear H1
  replace H := Option.bind_eq_some_iff.mp H
  obtain ⟨⟨t231, t232, t233, t234, t235⟩, A50, H⟩ := H
  replace H : ((spec_B10Course.f l1).bind fun bt238 => ((impl_ValidCourse.f t231 t232 bt238.2.2.1 bt238.2.2.2.1 bt238.2.2.2.2).bind fun t245 => (if t245 = true then (laws_FnHomeward.j0 k t231 t232 t233 t234 t235 bt238.2.2.1 bt238.2.2.2.1 bt238.2.2.2.2) else (laws_FnHomeward.j0 k t231 t232 t233 t234 t235 bt238.2.2.1 0 0)))) = some r := H
  have A5 := Aside0.mk A50
  clear A50
  replace H := Option.bind_eq_some_iff.mp H
  obtain ⟨⟨t238, t239, t240, t241, t242⟩, A60, H⟩ := H
  replace H : ((impl_ValidCourse.f t231 t232 t240 t241 t242).bind fun t245 => (if t245 = true then (laws_FnHomeward.j0 k t231 t232 t233 t234 t235 t240 t241 t242) else (laws_FnHomeward.j0 k t231 t232 t233 t234 t235 t240 0 0))) = some r := H
  have A6 := Aside0.mk A60
  clear A60
  replace H := Option.bind_eq_some_iff.mp H
  obtain ⟨t245, A70, H⟩ := H
  replace H : (if t245 = true then (laws_FnHomeward.j0 k t231 t232 t233 t234 t235 t240 t241 t242) else (laws_FnHomeward.j0 k t231 t232 t233 t234 t235 t240 0 0)) = some r := H
  have A7 := Aside0.mk A70
  clear A70
  have HC8 := Aside0.mk H
  clear H
  go_enter Try.func12, Try.ntmps12
  go_upto_if 45 with (first | ((with_reducible refine gate_callee (f := 40) rfl ?_); refine goesL_ (some 31) rfl rfl Try.func40 (by kernel_rfl) rfl #[.slice A0 l0.length c0, .slice A1 l1.length c1] rfl (by (try simp only [List.map_toArray, List.map_cons, List.map_nil]); first | done | rfl | (simp only [List.length_drop, List.length_take]; rfl)) ?_; (with_reducible refine (laws_b10Long.calls _ _ l0 _ _ l1 false _ ?side1 ?side2 ?side3 ?side4 A3.out).mono ?_); (case side1 => repeat (first | exact HR0.out | (with_reducible refine Kd.C_alloc ?_ _) | (with_reducible refine Kd.C_drewN ?_ _) | (with_reducible refine Kd.C_drew ?_))); (case side2 => exact HC0.out); (case side3 => repeat (first | exact HR1.out | (with_reducible refine Kd.C_alloc ?_ _) | (with_reducible refine Kd.C_drewN ?_ _) | (with_reducible refine Kd.C_drew ?_))); (case side4 => exact HC1.out); rintro e w' ⟨rfl, ⟨nd, rfl⟩⟩; refine ⟨_, rfl, ?_⟩) | ((with_reducible refine gate_callee (f := 41) rfl ?_); refine goesL_ (some 34) rfl rfl Try.func41 (by kernel_rfl) rfl #[.slice A0 l0.length c0] rfl (by (try simp only [List.map_toArray, List.map_cons, List.map_nil]); first | done | rfl | (simp only [List.length_drop, List.length_take]; rfl)) ?_; (with_reducible refine (spec_B10Course.calls _ _ l0 t231 t232 t233 t234 t235 _ ?side1 ?side2 A5.out).mono ?_); (case side1 => repeat (first | exact HR0.out | (with_reducible refine Kd.C_alloc ?_ _) | (with_reducible refine Kd.C_drewN ?_ _) | (with_reducible refine Kd.C_drew ?_))); (case side2 => exact HC0.out); rintro e w9 ⟨rfl, hb⟩; refine ⟨_, rfl, ?_⟩; have n0_ := Aside0.mk (below_step (by repeat (first | (with_reducible first | exact HB.out | apply below_alloc | apply pw_below_drewN | apply below_drew1) | exact HB.out)) hb); clear HB; have HB := n0_; clear n0_; (try clear hb); (try clear hb2); (try clear hk); (try clear hi)) | ((with_reducible refine gate_dst (N := 5) rfl ?_); (try (refine gate_guard (by rfl) ?_; dsimp only)); refine box_event ?hg (N := 5) ?hd (cs := #[.int .i64 0, .int .i64 0]) (t := 40) ?hr ?_; (case hd => rfl); (case hg => rfl); (case hr => first | (go_simp; done) | (go_simp; rfl)); intro gb236 hg w10 hbox hb; have n0_ := Aside0.mk (below_step (by repeat (first | (with_reducible first | exact HB.out | apply below_alloc | apply pw_below_drewN | apply below_drew1) | exact HB.out)) hb); have n1_ := Aside0.mk (hbox); have n2_ := Aside0.mk ((by rw [hg]; exact (below_size (by repeat (first | (with_reducible first | exact HB.out | apply below_alloc | apply pw_below_drewN | apply below_drew1) | exact HB.out))) : w.heap.size ≤ gb236)); have n3_ := Aside0.mk ((by rw [hg]; exact (below_size (by repeat (first | (with_reducible first | exact HB.out | apply below_alloc | apply pw_below_drewN | apply below_drew1) | exact HB.out))) : w.heap.size ≤ gb236)); clear HB; have HB := n0_; have BK236 := n1_; have GW236 := n2_; have GE236 := n3_; clear n0_ n1_ n2_ n3_; clear hb hbox hg) | ((with_reducible refine gate_dst (N := 6) rfl ?_); (try (refine gate_guard (by rfl) ?_; dsimp only)); refine box_event ?hg (N := 6) ?hd (cs := #[.int .i64 0, .int .i64 0, .int .i64 0]) (t := 24) ?hr ?_; (case hd => rfl); (case hg => rfl); (case hr => first | (go_simp; done) | (go_simp; rfl)); intro gb237 hg w11 hbox hb; have n0_ := Aside0.mk (blk_below (g := gb236) (o := .cells #[.int .i64 0, .int .i64 0] 40 (0, 0)) (by (with_reducible repeat (first | refine blk_drewN ?_ _ | refine blk_drew ?_ | refine blk_alloc ?_ _)); exact BK236.out) hb); have n1_ := Aside0.mk (below_step (by repeat (first | (with_reducible first | exact HB.out | apply below_alloc | apply pw_below_drewN | apply below_drew1 | refine below_set ?_ GE236.out) | exact HB.out)) hb); have n2_ := Aside0.mk (hbox); have n3_ := Aside0.mk ((by rw [hg]; exact (below_size (by repeat (first | (with_reducible first | exact HB.out | apply below_alloc | apply pw_below_drewN | apply below_drew1 | refine below_set ?_ GE236.out) | exact HB.out))) : w.heap.size ≤ gb237)); have n4_ := Aside0.mk ((by rw [hg]; exact (below_size (by repeat (first | (with_reducible first | exact HB.out | apply below_alloc | apply pw_below_drewN | apply below_drew1 | refine below_set ?_ GE236.out) | exact HB.out))) : w.heap.size ≤ gb237)); have n5_ := Aside0.mk ((by rw [hg]; exact Nat.ne_of_lt (blk_lt (g := gb236) (o := .cells #[.int .i64 0, .int .i64 0] 40 (0, 0)) (by (with_reducible repeat (first | refine blk_drewN ?_ _ | refine blk_drew ?_ | refine blk_alloc ?_ _)); exact BK236.out)) : gb236 ≠ gb237)); have n6_ := Aside0.mk ((by rw [hg]; exact Nat.ne_of_gt (blk_lt (g := gb236) (o := .cells #[.int .i64 0, .int .i64 0] 40 (0, 0)) (by (with_reducible repeat (first | refine blk_drewN ?_ _ | refine blk_drew ?_ | refine blk_alloc ?_ _)); exact BK236.out)) : gb237 ≠ gb236)); clear BK236; clear HB; have BK236 := n0_; have HB := n1_; have BK237 := n2_; have GW237 := n3_; have GE237 := n4_; have NB236_237 := n5_; have NB237_236 := n6_; clear n0_ n1_ n2_ n3_ n4_ n5_ n6_; clear hb hbox hg; have hnb12 := NB236_237.out; have hnc12 := NB237_236.out; have hcz13_0 : w11.cell? ⟨gb236, 0, none⟩ = some (.int .i64 0) := (blk_cell BK236.out 0).trans rfl; have hcz13_1 : w11.cell? ⟨gb236, 1, none⟩ = some (.int .i64 0) := (blk_cell BK236.out 1).trans rfl; have hfz13_0 := blk_frozen BK236.out 0; have hfz13_1 := blk_frozen BK236.out 1; have hcz14_0 : w11.cell? ⟨gb237, 0, none⟩ = some (.int .i64 0) := (blk_cell BK237.out 0).trans rfl; have hcz14_1 : w11.cell? ⟨gb237, 1, none⟩ = some (.int .i64 0) := (blk_cell BK237.out 1).trans rfl; have hcz14_2 : w11.cell? ⟨gb237, 2, none⟩ = some (.int .i64 0) := (blk_cell BK237.out 2).trans rfl; have hfz14_0 := blk_frozen BK237.out 0; have hfz14_1 := blk_frozen BK237.out 1; have hfz14_2 := blk_frozen BK237.out 2) | ((with_reducible refine gate_callee (f := 41) rfl ?_); refine goesL_ (some 39) rfl rfl Try.func41 (by kernel_rfl) rfl #[.slice A1 l1.length c1] rfl (by (try simp only [List.map_toArray, List.map_cons, List.map_nil]); first | done | rfl | (simp only [List.length_drop, List.length_take]; rfl)) ?_; (with_reducible refine (spec_B10Course.calls _ _ l1 t238 t239 t240 t241 t242 _ ?side1 ?side2 A6.out).mono ?_); (case side1 => exact Kd.C_below HR1.out (by repeat (first | (with_reducible first | exact HB.out | apply below_alloc | apply pw_below_drewN | apply below_drew1 | refine below_set ?_ GE236.out | refine below_set ?_ GE237.out) | exact HB.out))); (case side2 => exact HC1.out); rintro e w15 ⟨rfl, hb⟩; refine ⟨_, rfl, ?_⟩; have n0_ := Aside0.mk (blk_below (g := gb236) (o := .cells #[.int .i64 t231, .int .i64 t232] 40 (0, 0)) (by (with_reducible repeat (first | refine blk_drewN ?_ _ | refine blk_drew ?_ | refine blk_alloc ?_ _)); refine blk_far ?_ NB236_237.out _; (with_reducible repeat (first | refine blk_drewN ?_ _ | refine blk_drew ?_ | refine blk_alloc ?_ _)); refine blk_far ?_ NB236_237.out _; (with_reducible repeat (first | refine blk_drewN ?_ _ | refine blk_drew ?_ | refine blk_alloc ?_ _)); refine blk_far ?_ NB236_237.out _; (with_reducible repeat (first | refine blk_drewN ?_ _ | refine blk_drew ?_ | refine blk_alloc ?_ _)); refine blk_put (cs := #[.int .i64 t231, .int .i64 0]) ?_ 1 _ rfl; (with_reducible repeat (first | refine blk_drewN ?_ _ | refine blk_drew ?_ | refine blk_alloc ?_ _)); refine blk_put (cs := #[.int .i64 0, .int .i64 0]) ?_ 0 _ rfl; (with_reducible repeat (first | refine blk_drewN ?_ _ | refine blk_drew ?_ | refine blk_alloc ?_ _)); exact BK236.out) hb); have n1_ := Aside0.mk (blk_below (g := gb237) (o := .cells #[.int .i64 t233, .int .i64 t234, .int .i64 t235] 24 (0, 0)) (by (with_reducible repeat (first | refine blk_drewN ?_ _ | refine blk_drew ?_ | refine blk_alloc ?_ _)); refine blk_put (cs := #[.int .i64 t233, .int .i64 t234, .int .i64 0]) ?_ 2 _ rfl; (with_reducible repeat (first | refine blk_drewN ?_ _ | refine blk_drew ?_ | refine blk_alloc ?_ _)); refine blk_put (cs := #[.int .i64 t233, .int .i64 0, .int .i64 0]) ?_ 1 _ rfl; (with_reducible repeat (first | refine blk_drewN ?_ _ | refine blk_drew ?_ | refine blk_alloc ?_ _)); refine blk_put (cs := #[.int .i64 0, .int .i64 0, .int .i64 0]) ?_ 0 _ rfl; (with_reducible repeat (first | refine blk_drewN ?_ _ | refine blk_drew ?_ | refine blk_alloc ?_ _)); refine blk_far ?_ NB237_236.out _; (with_reducible repeat (first | refine blk_drewN ?_ _ | refine blk_drew ?_ | refine blk_alloc ?_ _)); refine blk_far ?_ NB237_236.out _; (with_reducible repeat (first | refine blk_drewN ?_ _ | refine blk_drew ?_ | refine blk_alloc ?_ _)); exact BK237.out) hb); have n2_ := Aside0.mk (below_step (by repeat (first | (with_reducible first | exact HB.out | apply below_alloc | apply pw_below_drewN | apply below_drew1 | refine below_set ?_ GE236.out | refine below_set ?_ GE237.out) | exact HB.out)) hb); clear BK236; clear BK237; clear HB; have BK236 := n0_; have BK237 := n1_; have HB := n2_; clear n0_ n1_ n2_; (try clear hb); (try clear hb2); (try clear hk); (try clear hi)) | ((with_reducible refine gate_dst (N := 7) rfl ?_); (try (refine gate_guard (by rfl) ?_; dsimp only)); refine box_event ?hg (N := 7) ?hd (cs := #[.int .i64 0, .int .i64 0]) (t := 40) ?hr ?_; (case hd => rfl); (case hg => rfl); (case hr => first | (go_simp; done) | (go_simp; rfl)); intro gb243 hg w16 hbox hb; have n0_ := Aside0.mk (blk_below (g := gb236) (o := .cells #[.int .i64 t231, .int .i64 t232] 40 (0, 0)) (by (with_reducible repeat (first | refine blk_drewN ?_ _ | refine blk_drew ?_ | refine blk_alloc ?_ _)); exact BK236.out) hb); have n1_ := Aside0.mk (blk_below (g := gb237) (o := .cells #[.int .i64 t233, .int .i64 t234, .int .i64 t235] 24 (0, 0)) (by (with_reducible repeat (first | refine blk_drewN ?_ _ | refine blk_drew ?_ | refine blk_alloc ?_ _)); exact BK237.out) hb); have n2_ := Aside0.mk (below_step (by repeat (first | (with_reducible first | exact HB.out | apply below_alloc | apply pw_below_drewN | apply below_drew1 | refine below_set ?_ GE236.out | refine below_set ?_ GE237.out) | exact HB.out)) hb); have n3_ := Aside0.mk (hbox); have n4_ := Aside0.mk ((by rw [hg]; exact (below_size (by repeat (first | (with_reducible first | exact HB.out | apply below_alloc | apply pw_below_drewN | apply below_drew1 | refine below_set ?_ GE236.out | refine below_set ?_ GE237.out) | exact HB.out))) : w.heap.size ≤ gb243)); have n5_ := Aside0.mk ((by rw [hg]; exact (below_size (by repeat (first | (with_reducible first | exact HB.out | apply below_alloc | apply pw_below_drewN | apply below_drew1 | refine below_set ?_ GE236.out | refine below_set ?_ GE237.out) | exact HB.out))) : w.heap.size ≤ gb243)); have n6_ := Aside0.mk ((by rw [hg]; exact Nat.ne_of_lt (blk_lt (g := gb236) (o := .cells #[.int .i64 t231, .int .i64 t232] 40 (0, 0)) (by (with_reducible repeat (first | refine blk_drewN ?_ _ | refine blk_drew ?_ | refine blk_alloc ?_ _)); exact BK236.out)) : gb236 ≠ gb243)); have n7_ := Aside0.mk ((by rw [hg]; exact Nat.ne_of_gt (blk_lt (g := gb236) (o := .cells #[.int .i64 t231, .int .i64 t232] 40 (0, 0)) (by (with_reducible repeat (first | refine blk_drewN ?_ _ | refine blk_drew ?_ | refine blk_alloc ?_ _)); exact BK236.out)) : gb243 ≠ gb236)); have n8_ := Aside0.mk ((by rw [hg]; exact Nat.ne_of_lt (blk_lt (g := gb237) (o := .cells #[.int .i64 t233, .int .i64 t234, .int .i64 t235] 24 (0, 0)) (by (with_reducible repeat (first | refine blk_drewN ?_ _ | refine blk_drew ?_ | refine blk_alloc ?_ _)); exact BK237.out)) : gb237 ≠ gb243)); have n9_ := Aside0.mk ((by rw [hg]; exact Nat.ne_of_gt (blk_lt (g := gb237) (o := .cells #[.int .i64 t233, .int .i64 t234, .int .i64 t235] 24 (0, 0)) (by (with_reducible repeat (first | refine blk_drewN ?_ _ | refine blk_drew ?_ | refine blk_alloc ?_ _)); exact BK237.out)) : gb243 ≠ gb237)); clear BK236; clear BK237; clear HB; have BK236 := n0_; have BK237 := n1_; have HB := n2_; have BK243 := n3_; have GW243 := n4_; have GE243 := n5_; have NB236_243 := n6_; have NB243_236 := n7_; have NB237_243 := n8_; have NB243_237 := n9_; clear n0_ n1_ n2_ n3_ n4_ n5_ n6_ n7_ n8_ n9_; clear hb hbox hg) | ((with_reducible refine gate_dst (N := 8) rfl ?_); (try (refine gate_guard (by rfl) ?_; dsimp only)); refine box_event ?hg (N := 8) ?hd (cs := #[.int .i64 0, .int .i64 0, .int .i64 0]) (t := 24) ?hr ?_; (case hd => rfl); (case hg => rfl); (case hr => first | (go_simp; done) | (go_simp; rfl)); intro gb244 hg w17 hbox hb; have n0_ := Aside0.mk (blk_below (g := gb236) (o := .cells #[.int .i64 t231, .int .i64 t232] 40 (0, 0)) (by (with_reducible repeat (first | refine blk_drewN ?_ _ | refine blk_drew ?_ | refine blk_alloc ?_ _)); exact BK236.out) hb); have n1_ := Aside0.mk (blk_below (g := gb237) (o := .cells #[.int .i64 t233, .int .i64 t234, .int .i64 t235] 24 (0, 0)) (by (with_reducible repeat (first | refine blk_drewN ?_ _ | refine blk_drew ?_ | refine blk_alloc ?_ _)); exact BK237.out) hb); have n2_ := Aside0.mk (blk_below (g := gb243) (o := .cells #[.int .i64 0, .int .i64 0] 40 (0, 0)) (by (with_reducible repeat (first | refine blk_drewN ?_ _ | refine blk_drew ?_ | refine blk_alloc ?_ _)); exact BK243.out) hb); have n3_ := Aside0.mk (below_step (by repeat (first | (with_reducible first | exact HB.out | apply below_alloc | apply pw_below_drewN | apply below_drew1 | refine below_set ?_ GE236.out | refine below_set ?_ GE237.out | refine below_set ?_ GE243.out) | exact HB.out)) hb); have n4_ := Aside0.mk (hbox); have n5_ := Aside0.mk ((by rw [hg]; exact (below_size (by repeat (first | (with_reducible first | exact HB.out | apply below_alloc | apply pw_below_drewN | apply below_drew1 | refine below_set ?_ GE236.out | refine below_set ?_ GE237.out | refine below_set ?_ GE243.out) | exact HB.out))) : w.heap.size ≤ gb244)); have n6_ := Aside0.mk ((by rw [hg]; exact (below_size (by repeat (first | (with_reducible first | exact HB.out | apply below_alloc | apply pw_below_drewN | apply below_drew1 | refine below_set ?_ GE236.out | refine below_set ?_ GE237.out | refine below_set ?_ GE243.out) | exact HB.out))) : w.heap.size ≤ gb244)); have n7_ := Aside0.mk ((by rw [hg]; exact Nat.ne_of_lt (blk_lt (g := gb236) (o := .cells #[.int .i64 t231, .int .i64 t232] 40 (0, 0)) (by (with_reducible repeat (first | refine blk_drewN ?_ _ | refine blk_drew ?_ | refine blk_alloc ?_ _)); exact BK236.out)) : gb236 ≠ gb244)); have n8_ := Aside0.mk ((by rw [hg]; exact Nat.ne_of_gt (blk_lt (g := gb236) (o := .cells #[.int .i64 t231, .int .i64 t232] 40 (0, 0)) (by (with_reducible repeat (first | refine blk_drewN ?_ _ | refine blk_drew ?_ | refine blk_alloc ?_ _)); exact BK236.out)) : gb244 ≠ gb236)); have n9_ := Aside0.mk ((by rw [hg]; exact Nat.ne_of_lt (blk_lt (g := gb237) (o := .cells #[.int .i64 t233, .int .i64 t234, .int .i64 t235] 24 (0, 0)) (by (with_reducible repeat (first | refine blk_drewN ?_ _ | refine blk_drew ?_ | refine blk_alloc ?_ _)); exact BK237.out)) : gb237 ≠ gb244)); have n10_ := Aside0.mk ((by rw [hg]; exact Nat.ne_of_gt (blk_lt (g := gb237) (o := .cells #[.int .i64 t233, .int .i64 t234, .int .i64 t235] 24 (0, 0)) (by (with_reducible repeat (first | refine blk_drewN ?_ _ | refine blk_drew ?_ | refine blk_alloc ?_ _)); exact BK237.out)) : gb244 ≠ gb237)); have n11_ := Aside0.mk ((by rw [hg]; exact Nat.ne_of_lt (blk_lt (g := gb243) (o := .cells #[.int .i64 0, .int .i64 0] 40 (0, 0)) (by (with_reducible repeat (first | refine blk_drewN ?_ _ | refine blk_drew ?_ | refine blk_alloc ?_ _)); exact BK243.out)) : gb243 ≠ gb244)); have n12_ := Aside0.mk ((by rw [hg]; exact Nat.ne_of_gt (blk_lt (g := gb243) (o := .cells #[.int .i64 0, .int .i64 0] 40 (0, 0)) (by (with_reducible repeat (first | refine blk_drewN ?_ _ | refine blk_drew ?_ | refine blk_alloc ?_ _)); exact BK243.out)) : gb244 ≠ gb243)); clear BK236; clear BK237; clear BK243; clear HB; have BK236 := n0_; have BK237 := n1_; have BK243 := n2_; have HB := n3_; have BK244 := n4_; have GW244 := n5_; have GE244 := n6_; have NB236_244 := n7_; have NB244_236 := n8_; have NB237_244 := n9_; have NB244_237 := n10_; have NB243_244 := n11_; have NB244_243 := n12_; clear n0_ n1_ n2_ n3_ n4_ n5_ n6_ n7_ n8_ n9_ n10_ n11_ n12_; clear hb hbox hg; have hnb18 := NB243_236.out; have hnc18 := NB236_243.out; have hnb19 := NB243_237.out; have hnc19 := NB237_243.out; have hnb20 := NB243_244.out; have hnc20 := NB244_243.out; have hcz21_0 : w17.cell? ⟨gb243, 0, none⟩ = some (.int .i64 0) := (blk_cell BK243.out 0).trans rfl; have hcz21_1 : w17.cell? ⟨gb243, 1, none⟩ = some (.int .i64 0) := (blk_cell BK243.out 1).trans rfl; have hfz21_0 := blk_frozen BK243.out 0; have hfz21_1 := blk_frozen BK243.out 1; have hnb22 := NB244_236.out; have hnc22 := NB236_244.out; have hnb23 := NB244_237.out; have hnc23 := NB237_244.out; have hcz24_0 : w17.cell? ⟨gb244, 0, none⟩ = some (.int .i64 0) := (blk_cell BK244.out 0).trans rfl; have hcz24_1 : w17.cell? ⟨gb244, 1, none⟩ = some (.int .i64 0) := (blk_cell BK244.out 1).trans rfl; have hcz24_2 : w17.cell? ⟨gb244, 2, none⟩ = some (.int .i64 0) := (blk_cell BK244.out 2).trans rfl; have hfz24_0 := blk_frozen BK244.out 0; have hfz24_1 := blk_frozen BK244.out 1; have hfz24_2 := blk_frozen BK244.out 2; have hcz25_0 : w17.cell? ⟨gb236, 0, none⟩ = some (.int .i64 t231) := (blk_cell BK236.out 0).trans rfl; have hcz25_1 : w17.cell? ⟨gb236, 1, none⟩ = some (.int .i64 t232) := (blk_cell BK236.out 1).trans rfl; have hfz25_0 := blk_frozen BK236.out 0; have hfz25_1 := blk_frozen BK236.out 1) | ((with_reducible refine gate_callee (f := 42) rfl ?_); refine goesL_ (some 44) rfl rfl Try.func42 (by kernel_rfl) rfl #[.agg #[.int .i64 t231, .int .i64 t232], .agg #[.int .i64 t240, .int .i64 t241, .int .i64 t242]] rfl (by (try simp only [List.map_toArray, List.map_cons, List.map_nil]); first | done | rfl | (simp only [List.length_drop, List.length_take]; rfl)) ?_; (with_reducible refine (impl_ValidCourse.calls t231 t232 t240 t241 t242 t245 _ A7.out).mono ?_); rintro e w26 ⟨rfl, hb⟩; refine ⟨_, rfl, ?_⟩; have n0_ := Aside0.mk (blk_below (g := gb236) (o := .cells #[.int .i64 t231, .int .i64 t232] 40 (0, 0)) (by (with_reducible repeat (first | refine blk_drewN ?_ _ | refine blk_drew ?_ | refine blk_alloc ?_ _)); refine blk_far ?_ NB236_244.out _; (with_reducible repeat (first | refine blk_drewN ?_ _ | refine blk_drew ?_ | refine blk_alloc ?_ _)); refine blk_far ?_ NB236_244.out _; (with_reducible repeat (first | refine blk_drewN ?_ _ | refine blk_drew ?_ | refine blk_alloc ?_ _)); refine blk_far ?_ NB236_244.out _; (with_reducible repeat (first | refine blk_drewN ?_ _ | refine blk_drew ?_ | refine blk_alloc ?_ _)); refine blk_far ?_ NB236_243.out _; (with_reducible repeat (first | refine blk_drewN ?_ _ | refine blk_drew ?_ | refine blk_alloc ?_ _)); refine blk_far ?_ NB236_243.out _; (with_reducible repeat (first | refine blk_drewN ?_ _ | refine blk_drew ?_ | refine blk_alloc ?_ _)); exact BK236.out) hb); have n1_ := Aside0.mk (blk_below (g := gb237) (o := .cells #[.int .i64 t233, .int .i64 t234, .int .i64 t235] 24 (0, 0)) (by (with_reducible repeat (first | refine blk_drewN ?_ _ | refine blk_drew ?_ | refine blk_alloc ?_ _)); refine blk_far ?_ NB237_244.out _; (with_reducible repeat (first | refine blk_drewN ?_ _ | refine blk_drew ?_ | refine blk_alloc ?_ _)); refine blk_far ?_ NB237_244.out _; (with_reducible repeat (first | refine blk_drewN ?_ _ | refine blk_drew ?_ | refine blk_alloc ?_ _)); refine blk_far ?_ NB237_244.out _; (with_reducible repeat (first | refine blk_drewN ?_ _ | refine blk_drew ?_ | refine blk_alloc ?_ _)); refine blk_far ?_ NB237_243.out _; (with_reducible repeat (first | refine blk_drewN ?_ _ | refine blk_drew ?_ | refine blk_alloc ?_ _)); refine blk_far ?_ NB237_243.out _; (with_reducible repeat (first | refine blk_drewN ?_ _ | refine blk_drew ?_ | refine blk_alloc ?_ _)); exact BK237.out) hb); have n2_ := Aside0.mk (blk_below (g := gb243) (o := .cells #[.int .i64 t238, .int .i64 t239] 40 (0, 0)) (by (with_reducible repeat (first | refine blk_drewN ?_ _ | refine blk_drew ?_ | refine blk_alloc ?_ _)); refine blk_far ?_ NB243_244.out _; (with_reducible repeat (first | refine blk_drewN ?_ _ | refine blk_drew ?_ | refine blk_alloc ?_ _)); refine blk_far ?_ NB243_244.out _; (with_reducible repeat (first | refine blk_drewN ?_ _ | refine blk_drew ?_ | refine blk_alloc ?_ _)); refine blk_far ?_ NB243_244.out _; (with_reducible repeat (first | refine blk_drewN ?_ _ | refine blk_drew ?_ | refine blk_alloc ?_ _)); refine blk_put (cs := #[.int .i64 t238, .int .i64 0]) ?_ 1 _ rfl; (with_reducible repeat (first | refine blk_drewN ?_ _ | refine blk_drew ?_ | refine blk_alloc ?_ _)); refine blk_put (cs := #[.int .i64 0, .int .i64 0]) ?_ 0 _ rfl; (with_reducible repeat (first | refine blk_drewN ?_ _ | refine blk_drew ?_ | refine blk_alloc ?_ _)); exact BK243.out) hb); have n3_ := Aside0.mk (blk_below (g := gb244) (o := .cells #[.int .i64 t240, .int .i64 t241, .int .i64 t242] 24 (0, 0)) (by (with_reducible repeat (first | refine blk_drewN ?_ _ | refine blk_drew ?_ | refine blk_alloc ?_ _)); refine blk_put (cs := #[.int .i64 t240, .int .i64 t241, .int .i64 0]) ?_ 2 _ rfl; (with_reducible repeat (first | refine blk_drewN ?_ _ | refine blk_drew ?_ | refine blk_alloc ?_ _)); refine blk_put (cs := #[.int .i64 t240, .int .i64 0, .int .i64 0]) ?_ 1 _ rfl; (with_reducible repeat (first | refine blk_drewN ?_ _ | refine blk_drew ?_ | refine blk_alloc ?_ _)); refine blk_put (cs := #[.int .i64 0, .int .i64 0, .int .i64 0]) ?_ 0 _ rfl; (with_reducible repeat (first | refine blk_drewN ?_ _ | refine blk_drew ?_ | refine blk_alloc ?_ _)); refine blk_far ?_ NB244_243.out _; (with_reducible repeat (first | refine blk_drewN ?_ _ | refine blk_drew ?_ | refine blk_alloc ?_ _)); refine blk_far ?_ NB244_243.out _; (with_reducible repeat (first | refine blk_drewN ?_ _ | refine blk_drew ?_ | refine blk_alloc ?_ _)); exact BK244.out) hb); have n4_ := Aside0.mk (below_step (by repeat (first | (with_reducible first | exact HB.out | apply below_alloc | apply pw_below_drewN | apply below_drew1 | refine below_set ?_ GE236.out | refine below_set ?_ GE237.out | refine below_set ?_ GE243.out | refine below_set ?_ GE244.out) | exact HB.out)) hb); clear BK236; clear BK237; clear BK243; clear BK244; clear HB; have BK236 := n0_; have BK237 := n1_; have BK243 := n2_; have BK244 := n3_; have HB := n4_; clear n0_ n1_ n2_ n3_ n4_; (try clear hb); (try clear hb2); (try clear hk); (try clear hi)))
  (try simp only [Act.put, List.setIfInBounds_toArray, List.set_cons_zero, List.set_cons_succ])
  go_cut [] (fun wc => ∃ (kq : Nat) (x245000_7 : Int) (x245001_7 : Int) (x245002_7 : Int), Aside0 (laws_FnHomeward.j0 kq t231 t232 t233 t234 t235 x245000_7 x245001_7 x245002_7 = some r) ∧ Aside0 (kq ≤ k) ∧ Aside0 (wc.heap[gb236]? = some (.cells #[.int .i64 t231, .int .i64 t232] 40 (0, 0))) ∧ Aside0 (wc.heap[gb237]? = some (.cells #[.int .i64 t233, .int .i64 t234, .int .i64 t235] 24 (0, 0))) ∧ Aside0 (wc.heap[gb243]? = some (.cells #[.int .i64 t238, .int .i64 t239] 40 (0, 0))) ∧ Aside0 (wc.heap[gb244]? = some (.cells #[.int .i64 x245000_7, .int .i64 x245001_7, .int .i64 x245002_7] 24 (0, 0))) ∧ Aside0 (Below w.heap.size w wc))
  case first =>
   as_aux_lemma =>
    have H := HC8.out
    clear HC8
    by_cases c27 : t245 = true
    ·
     subst c27
     have H1 : (laws_FnHomeward.j0 k t231 t232 t233 t234 t235 t240 t241 t242) = some r := by rw [if_pos rfl] at H; exact H
     clear H
     have H := H1
     clear H1
     have H' := Aside0.mk H
     clear H
     go_wp2
     go_meet
     case rel => exact ⟨_, (t240), (t241), (t242), H', ⟨by first | omega | exact Nat.le_refl _⟩, ⟨by (with_reducible repeat (first | refine blk_drewN ?_ _ | refine blk_drew ?_ | refine blk_alloc ?_ _)); exact BK236.out⟩, ⟨by (with_reducible repeat (first | refine blk_drewN ?_ _ | refine blk_drew ?_ | refine blk_alloc ?_ _)); exact BK237.out⟩, ⟨by (with_reducible repeat (first | refine blk_drewN ?_ _ | refine blk_drew ?_ | refine blk_alloc ?_ _)); exact BK243.out⟩, ⟨by (with_reducible repeat (first | refine blk_drewN ?_ _ | refine blk_drew ?_ | refine blk_alloc ?_ _)); exact BK244.out⟩, ⟨by repeat (first | (with_reducible first | exact HB.out | apply below_alloc | apply pw_below_drewN | apply below_drew1 | refine below_set ?_ GE236.out | refine below_set ?_ GE237.out | refine below_set ?_ GE243.out | refine below_set ?_ GE244.out) | exact HB.out)⟩⟩
    ·
     replace c27 := Bool.eq_false_iff.mpr c27
     subst c27
     have H1 : (laws_FnHomeward.j0 k t231 t232 t233 t234 t235 t240 0 0) = some r := by rw [if_neg (show ¬ (false = true) by decide)] at H; exact H
     clear H
     have H := H1
     clear H1
     have H' := Aside0.mk H
     clear H
     have hnb28 := NB244_236.out
     have hnc28 := NB236_244.out
     have hnb29 := NB244_237.out
     have hnc29 := NB237_244.out
     have hnb30 := NB244_243.out
     have hnc30 := NB243_244.out
     have hcz31_0 : w26.cell? ⟨gb244, 0, none⟩ = some (.int .i64 t240) := (blk_cell BK244.out 0).trans rfl
     have hcz31_1 : w26.cell? ⟨gb244, 1, none⟩ = some (.int .i64 t241) := (blk_cell BK244.out 1).trans rfl
     have hcz31_2 : w26.cell? ⟨gb244, 2, none⟩ = some (.int .i64 t242) := (blk_cell BK244.out 2).trans rfl
     have hfz31_0 := blk_frozen BK244.out 0
     have hfz31_1 := blk_frozen BK244.out 1
     have hfz31_2 := blk_frozen BK244.out 2
     go_wp2
     go_meet
     case rel => exact ⟨_, (t240), (0), (0), H', ⟨by first | omega | exact Nat.le_refl _⟩, ⟨by (with_reducible repeat (first | refine blk_drewN ?_ _ | refine blk_drew ?_ | refine blk_alloc ?_ _)); refine blk_far ?_ NB236_244.out _; (with_reducible repeat (first | refine blk_drewN ?_ _ | refine blk_drew ?_ | refine blk_alloc ?_ _)); refine blk_far ?_ NB236_244.out _; (with_reducible repeat (first | refine blk_drewN ?_ _ | refine blk_drew ?_ | refine blk_alloc ?_ _)); refine blk_far ?_ NB236_244.out _; (with_reducible repeat (first | refine blk_drewN ?_ _ | refine blk_drew ?_ | refine blk_alloc ?_ _)); exact BK236.out⟩, ⟨by (with_reducible repeat (first | refine blk_drewN ?_ _ | refine blk_drew ?_ | refine blk_alloc ?_ _)); refine blk_far ?_ NB237_244.out _; (with_reducible repeat (first | refine blk_drewN ?_ _ | refine blk_drew ?_ | refine blk_alloc ?_ _)); refine blk_far ?_ NB237_244.out _; (with_reducible repeat (first | refine blk_drewN ?_ _ | refine blk_drew ?_ | refine blk_alloc ?_ _)); refine blk_far ?_ NB237_244.out _; (with_reducible repeat (first | refine blk_drewN ?_ _ | refine blk_drew ?_ | refine blk_alloc ?_ _)); exact BK237.out⟩, ⟨by (with_reducible repeat (first | refine blk_drewN ?_ _ | refine blk_drew ?_ | refine blk_alloc ?_ _)); refine blk_far ?_ NB243_244.out _; (with_reducible repeat (first | refine blk_drewN ?_ _ | refine blk_drew ?_ | refine blk_alloc ?_ _)); refine blk_far ?_ NB243_244.out _; (with_reducible repeat (first | refine blk_drewN ?_ _ | refine blk_drew ?_ | refine blk_alloc ?_ _)); refine blk_far ?_ NB243_244.out _; (with_reducible repeat (first | refine blk_drewN ?_ _ | refine blk_drew ?_ | refine blk_alloc ?_ _)); exact BK243.out⟩, ⟨by (with_reducible repeat (first | refine blk_drewN ?_ _ | refine blk_drew ?_ | refine blk_alloc ?_ _)); refine blk_put (cs := #[.int .i64 t240, .int .i64 0, .int .i64 t242]) ?_ 2 _ rfl; (with_reducible repeat (first | refine blk_drewN ?_ _ | refine blk_drew ?_ | refine blk_alloc ?_ _)); refine blk_put (cs := #[.int .i64 t240, .int .i64 t241, .int .i64 t242]) ?_ 1 _ rfl; (with_reducible repeat (first | refine blk_drewN ?_ _ | refine blk_drew ?_ | refine blk_alloc ?_ _)); refine blk_put (cs := #[.int .i64 t240, .int .i64 t241, .int .i64 t242]) ?_ 0 _ rfl; (with_reducible repeat (first | refine blk_drewN ?_ _ | refine blk_drew ?_ | refine blk_alloc ?_ _)); exact BK244.out⟩, ⟨by repeat (first | (with_reducible first | exact HB.out | apply below_alloc | apply pw_below_drewN | apply below_drew1 | refine below_set ?_ GE236.out | refine below_set ?_ GE237.out | refine below_set ?_ GE243.out | refine below_set ?_ GE244.out) | exact HB.out)⟩⟩
  case rest =>
   as_aux_lemma =>
    clear HC8
    try clear c1
    try clear c2
    try clear p2
    try clear c3
    try clear c4
    try clear c12
    try clear c18
    try clear c19
    try clear c20
    try clear c22
    try clear c23
    try clear c27
    try clear c28
    try clear c29
    try clear c30
    try clear hcz13_0
    try clear hcz13_1
    try clear hcz14_0
    try clear hcz14_1
    try clear hcz14_2
    try clear hcz21_0
    try clear hcz21_1
    try clear hcz24_0
    try clear hcz24_1
    try clear hcz24_2
    try clear hcz25_0
    try clear hcz25_1
    try clear hcz31_0
    try clear hcz31_1
    try clear hcz31_2
    try clear hfz13_0
    try clear hfz13_1
    try clear hfz14_0
    try clear hfz14_1
    try clear hfz14_2
    try clear hfz21_0
    try clear hfz21_1
    try clear hfz24_0
    try clear hfz24_1
    try clear hfz24_2
    try clear hfz25_0
    try clear hfz25_1
    try clear hfz31_0
    try clear hfz31_1
    try clear hfz31_2
    obtain ⟨kq, x245000_7, x245001_7, x245002_7, HA, HJ7, BK236, BK237, BK243, BK244, HB⟩ := hcut
    cases kq with
    | zero => exact absurd HA.out (by simp [laws_FnHomeward.j0])
    | succ kj7 =>
     have H := HA.out
     clear HA
     simp only [laws_FnHomeward.j0] at H
     replace H := Option.bind_eq_some_iff.mp H
     obtain ⟨⟨t246, t247⟩, A320, H⟩ := H
     replace H : ((impl_PlanHome.f t231 t232 t233 t234 t235).bind fun bt248 => ((impl_FarthestOffset.f kj7 t231 t232 t233 t234 t235).bind fun bt252 => ((impl_MirrorCourse.f t233 t234 t235).bind fun bt254 => ((impl_StepsHome.f t231 t232 bt254.1 bt254.2.1 bt254.2.2).bind fun bt258 => (if (bt248.2 != t247) = true then (laws_FnHomeward.j1 kj7 t246 t247 bt248.1 bt252.1 true t231 t232 t233 t234 t235 x245000_7 x245001_7 x245002_7 bt254.1 bt254.2.1 bt254.2.2) else (if (bt252.2 != t247) = true then (laws_FnHomeward.j1 kj7 t246 t247 bt248.1 bt252.1 true t231 t232 t233 t234 t235 x245000_7 x245001_7 x245002_7 bt254.1 bt254.2.1 bt254.2.2) else (if (bt258.2 != t247) = true then (laws_FnHomeward.j1 kj7 t246 t247 bt248.1 bt252.1 true t231 t232 t233 t234 t235 x245000_7 x245001_7 x245002_7 bt254.1 bt254.2.1 bt254.2.2) else (if bt258.1 = t246 then (laws_FnHomeward.j1 kj7 t246 t247 bt248.1 bt252.1 ((bt248.1.length : Int) != t246) t231 t232 t233 t234 t235 x245000_7 x245001_7 x245002_7 bt254.1 bt254.2.1 bt254.2.2) else (laws_FnHomeward.j1 kj7 t246 t247 bt248.1 bt252.1 true t231 t232 t233 t234 t235 x245000_7 x245001_7 x245002_7 bt254.1 bt254.2.1 bt254.2.2))))))))) = some r := H
     have A32 := Aside0.mk A320
     clear A320
     replace H := Option.bind_eq_some_iff.mp H
     obtain ⟨⟨t248, t251⟩, A330, H⟩ := H
     replace H : ((impl_FarthestOffset.f kj7 t231 t232 t233 t234 t235).bind fun bt252 => ((impl_MirrorCourse.f t233 t234 t235).bind fun bt254 => ((impl_StepsHome.f t231 t232 bt254.1 bt254.2.1 bt254.2.2).bind fun bt258 => (if (t251 != t247) = true then (laws_FnHomeward.j1 kj7 t246 t247 t248 bt252.1 true t231 t232 t233 t234 t235 x245000_7 x245001_7 x245002_7 bt254.1 bt254.2.1 bt254.2.2) else (if (bt252.2 != t247) = true then (laws_FnHomeward.j1 kj7 t246 t247 t248 bt252.1 true t231 t232 t233 t234 t235 x245000_7 x245001_7 x245002_7 bt254.1 bt254.2.1 bt254.2.2) else (if (bt258.2 != t247) = true then (laws_FnHomeward.j1 kj7 t246 t247 t248 bt252.1 true t231 t232 t233 t234 t235 x245000_7 x245001_7 x245002_7 bt254.1 bt254.2.1 bt254.2.2) else (if bt258.1 = t246 then (laws_FnHomeward.j1 kj7 t246 t247 t248 bt252.1 ((t248.length : Int) != t246) t231 t232 t233 t234 t235 x245000_7 x245001_7 x245002_7 bt254.1 bt254.2.1 bt254.2.2) else (laws_FnHomeward.j1 kj7 t246 t247 t248 bt252.1 true t231 t232 t233 t234 t235 x245000_7 x245001_7 x245002_7 bt254.1 bt254.2.1 bt254.2.2)))))))) = some r := H
     have A33 := Aside0.mk A330
     clear A330
     replace H := Option.bind_eq_some_iff.mp H
     obtain ⟨⟨t252, t253⟩, A340, H⟩ := H
     replace H : ((impl_MirrorCourse.f t233 t234 t235).bind fun bt254 => ((impl_StepsHome.f t231 t232 bt254.1 bt254.2.1 bt254.2.2).bind fun bt258 => (if (t251 != t247) = true then (laws_FnHomeward.j1 kj7 t246 t247 t248 t252 true t231 t232 t233 t234 t235 x245000_7 x245001_7 x245002_7 bt254.1 bt254.2.1 bt254.2.2) else (if (t253 != t247) = true then (laws_FnHomeward.j1 kj7 t246 t247 t248 t252 true t231 t232 t233 t234 t235 x245000_7 x245001_7 x245002_7 bt254.1 bt254.2.1 bt254.2.2) else (if (bt258.2 != t247) = true then (laws_FnHomeward.j1 kj7 t246 t247 t248 t252 true t231 t232 t233 t234 t235 x245000_7 x245001_7 x245002_7 bt254.1 bt254.2.1 bt254.2.2) else (if bt258.1 = t246 then (laws_FnHomeward.j1 kj7 t246 t247 t248 t252 ((t248.length : Int) != t246) t231 t232 t233 t234 t235 x245000_7 x245001_7 x245002_7 bt254.1 bt254.2.1 bt254.2.2) else (laws_FnHomeward.j1 kj7 t246 t247 t248 t252 true t231 t232 t233 t234 t235 x245000_7 x245001_7 x245002_7 bt254.1 bt254.2.1 bt254.2.2))))))) = some r := H
     have A34 := Aside0.mk A340
     clear A340
     replace H := Option.bind_eq_some_iff.mp H
     obtain ⟨⟨t254, t255, t256⟩, A350, H⟩ := H
     replace H : ((impl_StepsHome.f t231 t232 t254 t255 t256).bind fun bt258 => (if (t251 != t247) = true then (laws_FnHomeward.j1 kj7 t246 t247 t248 t252 true t231 t232 t233 t234 t235 x245000_7 x245001_7 x245002_7 t254 t255 t256) else (if (t253 != t247) = true then (laws_FnHomeward.j1 kj7 t246 t247 t248 t252 true t231 t232 t233 t234 t235 x245000_7 x245001_7 x245002_7 t254 t255 t256) else (if (bt258.2 != t247) = true then (laws_FnHomeward.j1 kj7 t246 t247 t248 t252 true t231 t232 t233 t234 t235 x245000_7 x245001_7 x245002_7 t254 t255 t256) else (if bt258.1 = t246 then (laws_FnHomeward.j1 kj7 t246 t247 t248 t252 ((t248.length : Int) != t246) t231 t232 t233 t234 t235 x245000_7 x245001_7 x245002_7 t254 t255 t256) else (laws_FnHomeward.j1 kj7 t246 t247 t248 t252 true t231 t232 t233 t234 t235 x245000_7 x245001_7 x245002_7 t254 t255 t256)))))) = some r := H
     have A35 := Aside0.mk A350
     clear A350
     replace H := Option.bind_eq_some_iff.mp H
     obtain ⟨⟨t258, t259⟩, A360, H⟩ := H
     replace H : (if (t251 != t247) = true then (laws_FnHomeward.j1 kj7 t246 t247 t248 t252 true t231 t232 t233 t234 t235 x245000_7 x245001_7 x245002_7 t254 t255 t256) else (if (t253 != t247) = true then (laws_FnHomeward.j1 kj7 t246 t247 t248 t252 true t231 t232 t233 t234 t235 x245000_7 x245001_7 x245002_7 t254 t255 t256) else (if (t259 != t247) = true then (laws_FnHomeward.j1 kj7 t246 t247 t248 t252 true t231 t232 t233 t234 t235 x245000_7 x245001_7 x245002_7 t254 t255 t256) else (if t258 = t246 then (laws_FnHomeward.j1 kj7 t246 t247 t248 t252 ((t248.length : Int) != t246) t231 t232 t233 t234 t235 x245000_7 x245001_7 x245002_7 t254 t255 t256) else (laws_FnHomeward.j1 kj7 t246 t247 t248 t252 true t231 t232 t233 t234 t235 x245000_7 x245001_7 x245002_7 t254 t255 t256))))) = some r := H
     have A36 := Aside0.mk A360
     clear A360
     have HC37 := Aside0.mk H
     clear H
     have hnb38 := NB236_237.out
     have hnc38 := NB237_236.out
     have hnb39 := NB236_243.out
     have hnc39 := NB243_236.out
     have hnb40 := NB236_244.out
     have hnc40 := NB244_236.out
     have hcz41_0 : wc.cell? ⟨gb236, 0, none⟩ = some (.int .i64 t231) := (blk_cell BK236.out 0).trans rfl
     have hcz41_1 : wc.cell? ⟨gb236, 1, none⟩ = some (.int .i64 t232) := (blk_cell BK236.out 1).trans rfl
     have hfz41_0 := blk_frozen BK236.out 0
     have hfz41_1 := blk_frozen BK236.out 1
     have hnb42 := NB237_243.out
     have hnc42 := NB243_237.out
     have hnb43 := NB237_244.out
     have hnc43 := NB244_237.out
     have hcz44_0 : wc.cell? ⟨gb237, 0, none⟩ = some (.int .i64 t233) := (blk_cell BK237.out 0).trans rfl
     have hcz44_1 : wc.cell? ⟨gb237, 1, none⟩ = some (.int .i64 t234) := (blk_cell BK237.out 1).trans rfl
     have hcz44_2 : wc.cell? ⟨gb237, 2, none⟩ = some (.int .i64 t235) := (blk_cell BK237.out 2).trans rfl
     have hfz44_0 := blk_frozen BK237.out 0
     have hfz44_1 := blk_frozen BK237.out 1
     have hfz44_2 := blk_frozen BK237.out 2
     go_upto_region 12 with (first | ((with_reducible refine gate_callee (f := 35) rfl ?_); refine goesL_ (some 52) rfl rfl Try.func35 (by kernel_rfl) rfl #[.agg #[.int .i64 t231, .int .i64 t232], .agg #[.int .i64 t233, .int .i64 t234, .int .i64 t235]] rfl (by (try simp only [List.map_toArray, List.map_cons, List.map_nil]); first | done | rfl | (simp only [List.length_drop, List.length_take]; rfl)) ?_; (with_reducible refine (impl_StepsHome.calls t231 t232 t233 t234 t235 t246 t247 _ A32.out).mono ?_); rintro e w45 ⟨rfl, hb⟩; refine ⟨_, rfl, ?_⟩; have n0_ := Aside0.mk (blk_below (g := gb236) (o := .cells #[.int .i64 t231, .int .i64 t232] 40 (0, 0)) (by (with_reducible repeat (first | refine blk_drewN ?_ _ | refine blk_drew ?_ | refine blk_alloc ?_ _)); exact BK236.out) hb); have n1_ := Aside0.mk (blk_below (g := gb237) (o := .cells #[.int .i64 t233, .int .i64 t234, .int .i64 t235] 24 (0, 0)) (by (with_reducible repeat (first | refine blk_drewN ?_ _ | refine blk_drew ?_ | refine blk_alloc ?_ _)); exact BK237.out) hb); have n2_ := Aside0.mk (blk_below (g := gb243) (o := .cells #[.int .i64 t238, .int .i64 t239] 40 (0, 0)) (by (with_reducible repeat (first | refine blk_drewN ?_ _ | refine blk_drew ?_ | refine blk_alloc ?_ _)); exact BK243.out) hb); have n3_ := Aside0.mk (blk_below (g := gb244) (o := .cells #[.int .i64 x245000_7, .int .i64 x245001_7, .int .i64 x245002_7] 24 (0, 0)) (by (with_reducible repeat (first | refine blk_drewN ?_ _ | refine blk_drew ?_ | refine blk_alloc ?_ _)); exact BK244.out) hb); have n4_ := Aside0.mk (below_step (by repeat (first | (with_reducible first | exact HB.out | apply below_alloc | apply pw_below_drewN | apply below_drew1 | refine below_set ?_ GE236.out | refine below_set ?_ GE237.out | refine below_set ?_ GE243.out | refine below_set ?_ GE244.out) | exact HB.out)) hb); clear BK236; clear BK237; clear BK243; clear BK244; clear HB; have BK236 := n0_; have BK237 := n1_; have BK243 := n2_; have BK244 := n3_; have HB := n4_; clear n0_ n1_ n2_ n3_ n4_; (try clear hb); (try clear hb2); (try clear hk); (try clear hi); have hcz46_0 : w45.cell? ⟨gb236, 0, none⟩ = some (.int .i64 t231) := (blk_cell BK236.out 0).trans rfl; have hcz46_1 : w45.cell? ⟨gb236, 1, none⟩ = some (.int .i64 t232) := (blk_cell BK236.out 1).trans rfl; have hfz46_0 := blk_frozen BK236.out 0; have hfz46_1 := blk_frozen BK236.out 1; have hcz47_0 : w45.cell? ⟨gb237, 0, none⟩ = some (.int .i64 t233) := (blk_cell BK237.out 0).trans rfl; have hcz47_1 : w45.cell? ⟨gb237, 1, none⟩ = some (.int .i64 t234) := (blk_cell BK237.out 1).trans rfl; have hcz47_2 : w45.cell? ⟨gb237, 2, none⟩ = some (.int .i64 t235) := (blk_cell BK237.out 2).trans rfl; have hfz47_0 := blk_frozen BK237.out 0; have hfz47_1 := blk_frozen BK237.out 1; have hfz47_2 := blk_frozen BK237.out 2) | ((with_reducible refine gate_callee (f := 37) rfl ?_); refine goesL_ (some 58) rfl rfl Try.func37 (by kernel_rfl) rfl #[.agg #[.int .i64 t231, .int .i64 t232], .agg #[.int .i64 t233, .int .i64 t234, .int .i64 t235]] rfl (by (try simp only [List.map_toArray, List.map_cons, List.map_nil]); first | done | rfl | (simp only [List.length_drop, List.length_take]; rfl)) ?_; (with_reducible refine (impl_PlanHome.calls t231 t232 t233 t234 t235 t248 t251 _ A33.out).mono ?_); rintro e w48 ⟨v249, rfl, ho0, hb⟩; refine ⟨_, rfl, ?_⟩; have n0_ := Aside0.mk (Kd.R_lower ho0 (below_size (by repeat (first | (with_reducible first | exact HB.out | apply below_alloc | apply pw_below_drewN | apply below_drew1 | refine below_set ?_ GE236.out | refine below_set ?_ GE237.out | refine below_set ?_ GE243.out | refine below_set ?_ GE244.out) | exact HB.out)))); have n1_ := Aside0.mk (blk_below (g := gb236) (o := .cells #[.int .i64 t231, .int .i64 t232] 40 (0, 0)) (by (with_reducible repeat (first | refine blk_drewN ?_ _ | refine blk_drew ?_ | refine blk_alloc ?_ _)); exact BK236.out) hb); have n2_ := Aside0.mk (blk_below (g := gb237) (o := .cells #[.int .i64 t233, .int .i64 t234, .int .i64 t235] 24 (0, 0)) (by (with_reducible repeat (first | refine blk_drewN ?_ _ | refine blk_drew ?_ | refine blk_alloc ?_ _)); exact BK237.out) hb); have n3_ := Aside0.mk (blk_below (g := gb243) (o := .cells #[.int .i64 t238, .int .i64 t239] 40 (0, 0)) (by (with_reducible repeat (first | refine blk_drewN ?_ _ | refine blk_drew ?_ | refine blk_alloc ?_ _)); exact BK243.out) hb); have n4_ := Aside0.mk (blk_below (g := gb244) (o := .cells #[.int .i64 x245000_7, .int .i64 x245001_7, .int .i64 x245002_7] 24 (0, 0)) (by (with_reducible repeat (first | refine blk_drewN ?_ _ | refine blk_drew ?_ | refine blk_alloc ?_ _)); exact BK244.out) hb); have n5_ := Aside0.mk (below_step (by repeat (first | (with_reducible first | exact HB.out | apply below_alloc | apply pw_below_drewN | apply below_drew1 | refine below_set ?_ GE236.out | refine below_set ?_ GE237.out | refine below_set ?_ GE243.out | refine below_set ?_ GE244.out) | exact HB.out)) hb); clear BK236; clear BK237; clear BK243; clear BK244; clear HB; have HO250 := n0_; have BK236 := n1_; have BK237 := n2_; have BK243 := n3_; have BK244 := n4_; have HB := n5_; clear n0_ n1_ n2_ n3_ n4_ n5_; (try clear hb); (try clear hb2); (try clear hk); (try clear hi); (try clear ho0); have hcz49_0 : w48.cell? ⟨gb236, 0, none⟩ = some (.int .i64 t231) := (blk_cell BK236.out 0).trans rfl; have hcz49_1 : w48.cell? ⟨gb236, 1, none⟩ = some (.int .i64 t232) := (blk_cell BK236.out 1).trans rfl; have hfz49_0 := blk_frozen BK236.out 0; have hfz49_1 := blk_frozen BK236.out 1; have hcz50_0 : w48.cell? ⟨gb237, 0, none⟩ = some (.int .i64 t233) := (blk_cell BK237.out 0).trans rfl; have hcz50_1 : w48.cell? ⟨gb237, 1, none⟩ = some (.int .i64 t234) := (blk_cell BK237.out 1).trans rfl; have hcz50_2 : w48.cell? ⟨gb237, 2, none⟩ = some (.int .i64 t235) := (blk_cell BK237.out 2).trans rfl; have hfz50_0 := blk_frozen BK237.out 0; have hfz50_1 := blk_frozen BK237.out 1; have hfz50_2 := blk_frozen BK237.out 2) | ((with_reducible refine gate_callee (f := 43) rfl ?_); refine goesL_ (some 64) rfl rfl Try.func43 (by kernel_rfl) rfl #[.agg #[.int .i64 t231, .int .i64 t232], .agg #[.int .i64 t233, .int .i64 t234, .int .i64 t235]] rfl (by (try simp only [List.map_toArray, List.map_cons, List.map_nil]); first | done | rfl | (simp only [List.length_drop, List.length_take]; rfl)) ?_; (with_reducible refine (impl_FarthestOffset.calls kj7 t231 t232 t233 t234 t235 t252 t253 _ A34.out).mono ?_); rintro e w51 ⟨rfl, hb⟩; refine ⟨_, rfl, ?_⟩; have n0_ := Aside0.mk (Kd.R_below (by (with_reducible repeat (first | apply Kd.R_alloc | apply Kd.R_drewN | apply Kd.R_drew)); exact HO250.out) hb); have n1_ := Aside0.mk (blk_below (g := gb236) (o := .cells #[.int .i64 t231, .int .i64 t232] 40 (0, 0)) (by (with_reducible repeat (first | refine blk_drewN ?_ _ | refine blk_drew ?_ | refine blk_alloc ?_ _)); exact BK236.out) hb); have n2_ := Aside0.mk (blk_below (g := gb237) (o := .cells #[.int .i64 t233, .int .i64 t234, .int .i64 t235] 24 (0, 0)) (by (with_reducible repeat (first | refine blk_drewN ?_ _ | refine blk_drew ?_ | refine blk_alloc ?_ _)); exact BK237.out) hb); have n3_ := Aside0.mk (blk_below (g := gb243) (o := .cells #[.int .i64 t238, .int .i64 t239] 40 (0, 0)) (by (with_reducible repeat (first | refine blk_drewN ?_ _ | refine blk_drew ?_ | refine blk_alloc ?_ _)); exact BK243.out) hb); have n4_ := Aside0.mk (blk_below (g := gb244) (o := .cells #[.int .i64 x245000_7, .int .i64 x245001_7, .int .i64 x245002_7] 24 (0, 0)) (by (with_reducible repeat (first | refine blk_drewN ?_ _ | refine blk_drew ?_ | refine blk_alloc ?_ _)); exact BK244.out) hb); have n5_ := Aside0.mk (below_step (by repeat (first | (with_reducible first | exact HB.out | apply below_alloc | apply pw_below_drewN | apply below_drew1 | refine below_set ?_ GE236.out | refine below_set ?_ GE237.out | refine below_set ?_ GE243.out | refine below_set ?_ GE244.out) | exact HB.out)) hb); clear HO250; clear BK236; clear BK237; clear BK243; clear BK244; clear HB; have HO250 := n0_; have BK236 := n1_; have BK237 := n2_; have BK243 := n3_; have BK244 := n4_; have HB := n5_; clear n0_ n1_ n2_ n3_ n4_ n5_; (try clear hb); (try clear hb2); (try clear hk); (try clear hi); have hcz52_0 : w51.cell? ⟨gb237, 0, none⟩ = some (.int .i64 t233) := (blk_cell BK237.out 0).trans rfl; have hcz52_1 : w51.cell? ⟨gb237, 1, none⟩ = some (.int .i64 t234) := (blk_cell BK237.out 1).trans rfl; have hcz52_2 : w51.cell? ⟨gb237, 2, none⟩ = some (.int .i64 t235) := (blk_cell BK237.out 2).trans rfl; have hfz52_0 := blk_frozen BK237.out 0; have hfz52_1 := blk_frozen BK237.out 1; have hfz52_2 := blk_frozen BK237.out 2) | ((with_reducible refine gate_callee (f := 15) rfl ?_); refine goesL_ (some 68) rfl rfl Try.func15 (by kernel_rfl) rfl #[.agg #[.int .i64 t233, .int .i64 t234, .int .i64 t235]] rfl (by (try simp only [List.map_toArray, List.map_cons, List.map_nil]); first | done | rfl | (simp only [List.length_drop, List.length_take]; rfl)) ?_; (with_reducible refine (impl_MirrorCourse.calls t233 t234 t235 t254 t255 t256 _ A35.out).mono ?_); rintro e w53 ⟨rfl, hb⟩; refine ⟨_, rfl, ?_⟩; have n0_ := Aside0.mk (Kd.R_below (by (with_reducible repeat (first | apply Kd.R_alloc | apply Kd.R_drewN | apply Kd.R_drew)); exact HO250.out) hb); have n1_ := Aside0.mk (blk_below (g := gb236) (o := .cells #[.int .i64 t231, .int .i64 t232] 40 (0, 0)) (by (with_reducible repeat (first | refine blk_drewN ?_ _ | refine blk_drew ?_ | refine blk_alloc ?_ _)); exact BK236.out) hb); have n2_ := Aside0.mk (blk_below (g := gb237) (o := .cells #[.int .i64 t233, .int .i64 t234, .int .i64 t235] 24 (0, 0)) (by (with_reducible repeat (first | refine blk_drewN ?_ _ | refine blk_drew ?_ | refine blk_alloc ?_ _)); exact BK237.out) hb); have n3_ := Aside0.mk (blk_below (g := gb243) (o := .cells #[.int .i64 t238, .int .i64 t239] 40 (0, 0)) (by (with_reducible repeat (first | refine blk_drewN ?_ _ | refine blk_drew ?_ | refine blk_alloc ?_ _)); exact BK243.out) hb); have n4_ := Aside0.mk (blk_below (g := gb244) (o := .cells #[.int .i64 x245000_7, .int .i64 x245001_7, .int .i64 x245002_7] 24 (0, 0)) (by (with_reducible repeat (first | refine blk_drewN ?_ _ | refine blk_drew ?_ | refine blk_alloc ?_ _)); exact BK244.out) hb); have n5_ := Aside0.mk (below_step (by repeat (first | (with_reducible first | exact HB.out | apply below_alloc | apply pw_below_drewN | apply below_drew1 | refine below_set ?_ GE236.out | refine below_set ?_ GE237.out | refine below_set ?_ GE243.out | refine below_set ?_ GE244.out) | exact HB.out)) hb); clear HO250; clear BK236; clear BK237; clear BK243; clear BK244; clear HB; have HO250 := n0_; have BK236 := n1_; have BK237 := n2_; have BK243 := n3_; have BK244 := n4_; have HB := n5_; clear n0_ n1_ n2_ n3_ n4_ n5_; (try clear hb); (try clear hb2); (try clear hk); (try clear hi)) | ((with_reducible refine gate_dst (N := 15) rfl ?_); (try (refine gate_guard (by rfl) ?_; dsimp only)); refine box_event ?hg (N := 15) ?hd (cs := #[.int .i64 0, .int .i64 0, .int .i64 0]) (t := 24) ?hr ?_; (case hd => rfl); (case hg => rfl); (case hr => first | (go_simp; done) | (go_simp; rfl)); intro gb257 hg w54 hbox hb; have n0_ := Aside0.mk (Kd.R_below (by (with_reducible repeat (first | apply Kd.R_alloc | apply Kd.R_drewN | apply Kd.R_drew)); exact HO250.out) hb); have n1_ := Aside0.mk (blk_below (g := gb236) (o := .cells #[.int .i64 t231, .int .i64 t232] 40 (0, 0)) (by (with_reducible repeat (first | refine blk_drewN ?_ _ | refine blk_drew ?_ | refine blk_alloc ?_ _)); exact BK236.out) hb); have n2_ := Aside0.mk (blk_below (g := gb237) (o := .cells #[.int .i64 t233, .int .i64 t234, .int .i64 t235] 24 (0, 0)) (by (with_reducible repeat (first | refine blk_drewN ?_ _ | refine blk_drew ?_ | refine blk_alloc ?_ _)); exact BK237.out) hb); have n3_ := Aside0.mk (blk_below (g := gb243) (o := .cells #[.int .i64 t238, .int .i64 t239] 40 (0, 0)) (by (with_reducible repeat (first | refine blk_drewN ?_ _ | refine blk_drew ?_ | refine blk_alloc ?_ _)); exact BK243.out) hb); have n4_ := Aside0.mk (blk_below (g := gb244) (o := .cells #[.int .i64 x245000_7, .int .i64 x245001_7, .int .i64 x245002_7] 24 (0, 0)) (by (with_reducible repeat (first | refine blk_drewN ?_ _ | refine blk_drew ?_ | refine blk_alloc ?_ _)); exact BK244.out) hb); have n5_ := Aside0.mk (below_step (by repeat (first | (with_reducible first | exact HB.out | apply below_alloc | apply pw_below_drewN | apply below_drew1 | refine below_set ?_ GE236.out | refine below_set ?_ GE237.out | refine below_set ?_ GE243.out | refine below_set ?_ GE244.out) | exact HB.out)) hb); have n6_ := Aside0.mk (hbox); have n7_ := Aside0.mk ((by rw [hg]; exact (below_size (by repeat (first | (with_reducible first | exact HB.out | apply below_alloc | apply pw_below_drewN | apply below_drew1 | refine below_set ?_ GE236.out | refine below_set ?_ GE237.out | refine below_set ?_ GE243.out | refine below_set ?_ GE244.out) | exact HB.out))) : w.heap.size ≤ gb257)); have n8_ := Aside0.mk ((by rw [hg]; exact (below_size (by repeat (first | (with_reducible first | exact HB.out | apply below_alloc | apply pw_below_drewN | apply below_drew1 | refine below_set ?_ GE236.out | refine below_set ?_ GE237.out | refine below_set ?_ GE243.out | refine below_set ?_ GE244.out) | exact HB.out))) : w.heap.size ≤ gb257)); have n9_ := Aside0.mk ((by rw [hg]; exact Nat.ne_of_lt (blk_lt (g := gb236) (o := .cells #[.int .i64 t231, .int .i64 t232] 40 (0, 0)) (by (with_reducible repeat (first | refine blk_drewN ?_ _ | refine blk_drew ?_ | refine blk_alloc ?_ _)); exact BK236.out)) : gb236 ≠ gb257)); have n10_ := Aside0.mk ((by rw [hg]; exact Nat.ne_of_gt (blk_lt (g := gb236) (o := .cells #[.int .i64 t231, .int .i64 t232] 40 (0, 0)) (by (with_reducible repeat (first | refine blk_drewN ?_ _ | refine blk_drew ?_ | refine blk_alloc ?_ _)); exact BK236.out)) : gb257 ≠ gb236)); have n11_ := Aside0.mk ((by rw [hg]; exact Nat.ne_of_lt (blk_lt (g := gb237) (o := .cells #[.int .i64 t233, .int .i64 t234, .int .i64 t235] 24 (0, 0)) (by (with_reducible repeat (first | refine blk_drewN ?_ _ | refine blk_drew ?_ | refine blk_alloc ?_ _)); exact BK237.out)) : gb237 ≠ gb257)); have n12_ := Aside0.mk ((by rw [hg]; exact Nat.ne_of_gt (blk_lt (g := gb237) (o := .cells #[.int .i64 t233, .int .i64 t234, .int .i64 t235] 24 (0, 0)) (by (with_reducible repeat (first | refine blk_drewN ?_ _ | refine blk_drew ?_ | refine blk_alloc ?_ _)); exact BK237.out)) : gb257 ≠ gb237)); have n13_ := Aside0.mk ((by rw [hg]; exact Nat.ne_of_lt (blk_lt (g := gb243) (o := .cells #[.int .i64 t238, .int .i64 t239] 40 (0, 0)) (by (with_reducible repeat (first | refine blk_drewN ?_ _ | refine blk_drew ?_ | refine blk_alloc ?_ _)); exact BK243.out)) : gb243 ≠ gb257)); have n14_ := Aside0.mk ((by rw [hg]; exact Nat.ne_of_gt (blk_lt (g := gb243) (o := .cells #[.int .i64 t238, .int .i64 t239] 40 (0, 0)) (by (with_reducible repeat (first | refine blk_drewN ?_ _ | refine blk_drew ?_ | refine blk_alloc ?_ _)); exact BK243.out)) : gb257 ≠ gb243)); have n15_ := Aside0.mk ((by rw [hg]; exact Nat.ne_of_lt (blk_lt (g := gb244) (o := .cells #[.int .i64 x245000_7, .int .i64 x245001_7, .int .i64 x245002_7] 24 (0, 0)) (by (with_reducible repeat (first | refine blk_drewN ?_ _ | refine blk_drew ?_ | refine blk_alloc ?_ _)); exact BK244.out)) : gb244 ≠ gb257)); have n16_ := Aside0.mk ((by rw [hg]; exact Nat.ne_of_gt (blk_lt (g := gb244) (o := .cells #[.int .i64 x245000_7, .int .i64 x245001_7, .int .i64 x245002_7] 24 (0, 0)) (by (with_reducible repeat (first | refine blk_drewN ?_ _ | refine blk_drew ?_ | refine blk_alloc ?_ _)); exact BK244.out)) : gb257 ≠ gb244)); clear HO250; clear BK236; clear BK237; clear BK243; clear BK244; clear HB; have HO250 := n0_; have BK236 := n1_; have BK237 := n2_; have BK243 := n3_; have BK244 := n4_; have HB := n5_; have BK257 := n6_; have GW257 := n7_; have GE257 := n8_; have NB236_257 := n9_; have NB257_236 := n10_; have NB237_257 := n11_; have NB257_237 := n12_; have NB243_257 := n13_; have NB257_243 := n14_; have NB244_257 := n15_; have NB257_244 := n16_; clear n0_ n1_ n2_ n3_ n4_ n5_ n6_ n7_ n8_ n9_ n10_ n11_ n12_ n13_ n14_ n15_ n16_; clear hb hbox hg; have hnb55 := NB257_236.out; have hnc55 := NB236_257.out; have hnb56 := NB257_237.out; have hnc56 := NB237_257.out; have hnb57 := NB257_243.out; have hnc57 := NB243_257.out; have hnb58 := NB257_244.out; have hnc58 := NB244_257.out; have hcz59_0 : w54.cell? ⟨gb257, 0, none⟩ = some (.int .i64 0) := (blk_cell BK257.out 0).trans rfl; have hcz59_1 : w54.cell? ⟨gb257, 1, none⟩ = some (.int .i64 0) := (blk_cell BK257.out 1).trans rfl; have hcz59_2 : w54.cell? ⟨gb257, 2, none⟩ = some (.int .i64 0) := (blk_cell BK257.out 2).trans rfl; have hfz59_0 := blk_frozen BK257.out 0; have hfz59_1 := blk_frozen BK257.out 1; have hfz59_2 := blk_frozen BK257.out 2; have hcz60_0 : w54.cell? ⟨gb236, 0, none⟩ = some (.int .i64 t231) := (blk_cell BK236.out 0).trans rfl; have hcz60_1 : w54.cell? ⟨gb236, 1, none⟩ = some (.int .i64 t232) := (blk_cell BK236.out 1).trans rfl; have hfz60_0 := blk_frozen BK236.out 0; have hfz60_1 := blk_frozen BK236.out 1) | ((with_reducible refine gate_callee (f := 35) rfl ?_); refine goesL_ (some 72) rfl rfl Try.func35 (by kernel_rfl) rfl #[.agg #[.int .i64 t231, .int .i64 t232], .agg #[.int .i64 t254, .int .i64 t255, .int .i64 t256]] rfl (by (try simp only [List.map_toArray, List.map_cons, List.map_nil]); first | done | rfl | (simp only [List.length_drop, List.length_take]; rfl)) ?_; (with_reducible refine (impl_StepsHome.calls t231 t232 t254 t255 t256 t258 t259 _ A36.out).mono ?_); rintro e w61 ⟨rfl, hb⟩; refine ⟨_, rfl, ?_⟩; have n0_ := Aside0.mk (Kd.R_below (by (with_reducible repeat (first | apply Kd.R_alloc | apply Kd.R_drewN | apply Kd.R_drew)); exact (Kd.R_mono (Kd.R_far (p := ⟨gb257, 2, none⟩) (Kd.R_far (p := ⟨gb257, 1, none⟩) (Kd.R_far (p := ⟨gb257, 0, none⟩) (Kd.R_types HO250.out BK257.out (by decide)) (fun _ hk => hk.2) (.int .i64 t254)) (fun _ hk => hk.2) (.int .i64 t255)) (fun _ hk => hk.2) (.int .i64 t256)) (fun _ h_ => h_.1))) hb); have n1_ := Aside0.mk (blk_below (g := gb236) (o := .cells #[.int .i64 t231, .int .i64 t232] 40 (0, 0)) (by (with_reducible repeat (first | refine blk_drewN ?_ _ | refine blk_drew ?_ | refine blk_alloc ?_ _)); refine blk_far ?_ NB236_257.out _; (with_reducible repeat (first | refine blk_drewN ?_ _ | refine blk_drew ?_ | refine blk_alloc ?_ _)); refine blk_far ?_ NB236_257.out _; (with_reducible repeat (first | refine blk_drewN ?_ _ | refine blk_drew ?_ | refine blk_alloc ?_ _)); refine blk_far ?_ NB236_257.out _; (with_reducible repeat (first | refine blk_drewN ?_ _ | refine blk_drew ?_ | refine blk_alloc ?_ _)); exact BK236.out) hb); have n2_ := Aside0.mk (blk_below (g := gb237) (o := .cells #[.int .i64 t233, .int .i64 t234, .int .i64 t235] 24 (0, 0)) (by (with_reducible repeat (first | refine blk_drewN ?_ _ | refine blk_drew ?_ | refine blk_alloc ?_ _)); refine blk_far ?_ NB237_257.out _; (with_reducible repeat (first | refine blk_drewN ?_ _ | refine blk_drew ?_ | refine blk_alloc ?_ _)); refine blk_far ?_ NB237_257.out _; (with_reducible repeat (first | refine blk_drewN ?_ _ | refine blk_drew ?_ | refine blk_alloc ?_ _)); refine blk_far ?_ NB237_257.out _; (with_reducible repeat (first | refine blk_drewN ?_ _ | refine blk_drew ?_ | refine blk_alloc ?_ _)); exact BK237.out) hb); have n3_ := Aside0.mk (blk_below (g := gb243) (o := .cells #[.int .i64 t238, .int .i64 t239] 40 (0, 0)) (by (with_reducible repeat (first | refine blk_drewN ?_ _ | refine blk_drew ?_ | refine blk_alloc ?_ _)); refine blk_far ?_ NB243_257.out _; (with_reducible repeat (first | refine blk_drewN ?_ _ | refine blk_drew ?_ | refine blk_alloc ?_ _)); refine blk_far ?_ NB243_257.out _; (with_reducible repeat (first | refine blk_drewN ?_ _ | refine blk_drew ?_ | refine blk_alloc ?_ _)); refine blk_far ?_ NB243_257.out _; (with_reducible repeat (first | refine blk_drewN ?_ _ | refine blk_drew ?_ | refine blk_alloc ?_ _)); exact BK243.out) hb); have n4_ := Aside0.mk (blk_below (g := gb244) (o := .cells #[.int .i64 x245000_7, .int .i64 x245001_7, .int .i64 x245002_7] 24 (0, 0)) (by (with_reducible repeat (first | refine blk_drewN ?_ _ | refine blk_drew ?_ | refine blk_alloc ?_ _)); refine blk_far ?_ NB244_257.out _; (with_reducible repeat (first | refine blk_drewN ?_ _ | refine blk_drew ?_ | refine blk_alloc ?_ _)); refine blk_far ?_ NB244_257.out _; (with_reducible repeat (first | refine blk_drewN ?_ _ | refine blk_drew ?_ | refine blk_alloc ?_ _)); refine blk_far ?_ NB244_257.out _; (with_reducible repeat (first | refine blk_drewN ?_ _ | refine blk_drew ?_ | refine blk_alloc ?_ _)); exact BK244.out) hb); have n5_ := Aside0.mk (blk_below (g := gb257) (o := .cells #[.int .i64 t254, .int .i64 t255, .int .i64 t256] 24 (0, 0)) (by (with_reducible repeat (first | refine blk_drewN ?_ _ | refine blk_drew ?_ | refine blk_alloc ?_ _)); refine blk_put (cs := #[.int .i64 t254, .int .i64 t255, .int .i64 0]) ?_ 2 _ rfl; (with_reducible repeat (first | refine blk_drewN ?_ _ | refine blk_drew ?_ | refine blk_alloc ?_ _)); refine blk_put (cs := #[.int .i64 t254, .int .i64 0, .int .i64 0]) ?_ 1 _ rfl; (with_reducible repeat (first | refine blk_drewN ?_ _ | refine blk_drew ?_ | refine blk_alloc ?_ _)); refine blk_put (cs := #[.int .i64 0, .int .i64 0, .int .i64 0]) ?_ 0 _ rfl; (with_reducible repeat (first | refine blk_drewN ?_ _ | refine blk_drew ?_ | refine blk_alloc ?_ _)); exact BK257.out) hb); have n6_ := Aside0.mk (below_step (by repeat (first | (with_reducible first | exact HB.out | apply below_alloc | apply pw_below_drewN | apply below_drew1 | refine below_set ?_ GE236.out | refine below_set ?_ GE237.out | refine below_set ?_ GE243.out | refine below_set ?_ GE244.out | refine below_set ?_ GE257.out) | exact HB.out)) hb); clear HO250; clear BK236; clear BK237; clear BK243; clear BK244; clear BK257; clear HB; have HO250 := n0_; have BK236 := n1_; have BK237 := n2_; have BK243 := n3_; have BK244 := n4_; have BK257 := n5_; have HB := n6_; clear n0_ n1_ n2_ n3_ n4_ n5_ n6_; (try clear hb); (try clear hb2); (try clear hk); (try clear hi)))
     (try simp only [Act.put, List.setIfInBounds_toArray, List.set_cons_zero, List.set_cons_succ])
     go_cut [98] (fun v98 wc => ∃ (kq : Nat) (x98_36 : Bool), v98 = .bool x98_36 ∧ Aside0 (laws_FnHomeward.j1 kq t246 t247 t248 t252 x98_36 t231 t232 t233 t234 t235 x245000_7 x245001_7 x245002_7 t254 t255 t256 = some r) ∧ Aside0 (kq ≤ kj7) ∧ Aside0 (Kd.R (Kd.int .i64) 2 wc w.heap.size (fun _ => True) v249 t248) ∧ Aside0 (wc.heap[gb236]? = some (.cells #[.int .i64 t231, .int .i64 t232] 40 (0, 0))) ∧ Aside0 (wc.heap[gb237]? = some (.cells #[.int .i64 t233, .int .i64 t234, .int .i64 t235] 24 (0, 0))) ∧ Aside0 (wc.heap[gb243]? = some (.cells #[.int .i64 t238, .int .i64 t239] 40 (0, 0))) ∧ Aside0 (wc.heap[gb244]? = some (.cells #[.int .i64 x245000_7, .int .i64 x245001_7, .int .i64 x245002_7] 24 (0, 0))) ∧ Aside0 (wc.heap[gb257]? = some (.cells #[.int .i64 t254, .int .i64 t255, .int .i64 t256] 24 (0, 0))) ∧ Aside0 (Below w.heap.size w wc))
     case first =>
      as_aux_lemma =>
       have H := HC37.out
       clear HC37
       by_cases c62 : (t251 != t247) = true
       ·
        rw [if_pos c62] at H
        have c62b0 : (t251 != t247) = true := c62
        (try (have c62b1 : decide (t251 = t247) = false := by simpa using c62))
        (try (have c62b2 : (t251 == t247) = false := by simpa using c62))
        (try (have c62b3 : ¬ (t251 = t247) := by simpa using c62))
        clear c62
        (first | rw [c62b0] | (simp only [i64_w, i32_w]; rw [c62b0]) | skip)
        have H' := Aside0.mk H
        clear H
        go_wp2
        go_meet
        case rel => exact ⟨_, (true), (by first | rfl | (simp; done) | (simp [*]; done)), H', ⟨by have := HJ7.out; first | omega | exact Nat.le_refl _⟩, ⟨by (with_reducible repeat (first | apply Kd.R_alloc | apply Kd.R_drewN | apply Kd.R_drew)); exact HO250.out⟩, ⟨by (with_reducible repeat (first | refine blk_drewN ?_ _ | refine blk_drew ?_ | refine blk_alloc ?_ _)); exact BK236.out⟩, ⟨by (with_reducible repeat (first | refine blk_drewN ?_ _ | refine blk_drew ?_ | refine blk_alloc ?_ _)); exact BK237.out⟩, ⟨by (with_reducible repeat (first | refine blk_drewN ?_ _ | refine blk_drew ?_ | refine blk_alloc ?_ _)); exact BK243.out⟩, ⟨by (with_reducible repeat (first | refine blk_drewN ?_ _ | refine blk_drew ?_ | refine blk_alloc ?_ _)); exact BK244.out⟩, ⟨by (with_reducible repeat (first | refine blk_drewN ?_ _ | refine blk_drew ?_ | refine blk_alloc ?_ _)); exact BK257.out⟩, ⟨by repeat (first | (with_reducible first | exact HB.out | apply below_alloc | apply pw_below_drewN | apply below_drew1 | refine below_set ?_ GE236.out | refine below_set ?_ GE237.out | refine below_set ?_ GE243.out | refine below_set ?_ GE244.out | refine below_set ?_ GE257.out) | exact HB.out)⟩⟩
       ·
        rw [if_neg c62] at H
        have c62b0 : (t251 != t247) = false := by simpa using c62
        (try (have c62b1 : decide (t251 = t247) = true := by simpa using c62))
        (try (have c62b2 : (t251 == t247) = true := by simpa using c62))
        clear c62
        (first | rw [c62b0] | (simp only [i64_w, i32_w]; rw [c62b0]) | skip)
        by_cases c63 : (t253 != t247) = true
        ·
         rw [if_pos c63] at H
         have c63b0 : (t253 != t247) = true := c63
         (try (have c63b1 : decide (t253 = t247) = false := by simpa using c63))
         (try (have c63b2 : (t253 == t247) = false := by simpa using c63))
         (try (have c63b3 : ¬ (t253 = t247) := by simpa using c63))
         clear c63
         have H' := Aside0.mk H
         clear H
         go_wp2
         go_meet
         case rel => exact ⟨_, (true), (by first | rfl | (simp; done) | (simp [*]; done)), H', ⟨by have := HJ7.out; first | omega | exact Nat.le_refl _⟩, ⟨by (with_reducible repeat (first | apply Kd.R_alloc | apply Kd.R_drewN | apply Kd.R_drew)); exact HO250.out⟩, ⟨by (with_reducible repeat (first | refine blk_drewN ?_ _ | refine blk_drew ?_ | refine blk_alloc ?_ _)); exact BK236.out⟩, ⟨by (with_reducible repeat (first | refine blk_drewN ?_ _ | refine blk_drew ?_ | refine blk_alloc ?_ _)); exact BK237.out⟩, ⟨by (with_reducible repeat (first | refine blk_drewN ?_ _ | refine blk_drew ?_ | refine blk_alloc ?_ _)); exact BK243.out⟩, ⟨by (with_reducible repeat (first | refine blk_drewN ?_ _ | refine blk_drew ?_ | refine blk_alloc ?_ _)); exact BK244.out⟩, ⟨by (with_reducible repeat (first | refine blk_drewN ?_ _ | refine blk_drew ?_ | refine blk_alloc ?_ _)); exact BK257.out⟩, ⟨by repeat (first | (with_reducible first | exact HB.out | apply below_alloc | apply pw_below_drewN | apply below_drew1 | refine below_set ?_ GE236.out | refine below_set ?_ GE237.out | refine below_set ?_ GE243.out | refine below_set ?_ GE244.out | refine below_set ?_ GE257.out) | exact HB.out)⟩⟩
        ·
         rw [if_neg c63] at H
         have c63b0 : (t253 != t247) = false := by simpa using c63
         (try (have c63b1 : decide (t253 = t247) = true := by simpa using c63))
         (try (have c63b2 : (t253 == t247) = true := by simpa using c63))
         clear c63
         by_cases c64 : (t259 != t247) = true
         ·
          rw [if_pos c64] at H
          have c64b0 : (t259 != t247) = true := c64
          (try (have c64b1 : decide (t259 = t247) = false := by simpa using c64))
          (try (have c64b2 : (t259 == t247) = false := by simpa using c64))
          (try (have c64b3 : ¬ (t259 = t247) := by simpa using c64))
          clear c64
          have H' := Aside0.mk H
          clear H
          go_wp2
          go_meet
          case rel => exact ⟨_, (true), (by first | rfl | (simp; done) | (simp [*]; done)), H', ⟨by have := HJ7.out; first | omega | exact Nat.le_refl _⟩, ⟨by (with_reducible repeat (first | apply Kd.R_alloc | apply Kd.R_drewN | apply Kd.R_drew)); exact HO250.out⟩, ⟨by (with_reducible repeat (first | refine blk_drewN ?_ _ | refine blk_drew ?_ | refine blk_alloc ?_ _)); exact BK236.out⟩, ⟨by (with_reducible repeat (first | refine blk_drewN ?_ _ | refine blk_drew ?_ | refine blk_alloc ?_ _)); exact BK237.out⟩, ⟨by (with_reducible repeat (first | refine blk_drewN ?_ _ | refine blk_drew ?_ | refine blk_alloc ?_ _)); exact BK243.out⟩, ⟨by (with_reducible repeat (first | refine blk_drewN ?_ _ | refine blk_drew ?_ | refine blk_alloc ?_ _)); exact BK244.out⟩, ⟨by (with_reducible repeat (first | refine blk_drewN ?_ _ | refine blk_drew ?_ | refine blk_alloc ?_ _)); exact BK257.out⟩, ⟨by repeat (first | (with_reducible first | exact HB.out | apply below_alloc | apply pw_below_drewN | apply below_drew1 | refine below_set ?_ GE236.out | refine below_set ?_ GE237.out | refine below_set ?_ GE243.out | refine below_set ?_ GE244.out | refine below_set ?_ GE257.out) | exact HB.out)⟩⟩
         ·
          rw [if_neg c64] at H
          have c64b0 : (t259 != t247) = false := by simpa using c64
          (try (have c64b1 : decide (t259 = t247) = true := by simpa using c64))
          (try (have c64b2 : (t259 == t247) = true := by simpa using c64))
          clear c64
          by_cases c65 : t258 = t246
          ·
           rw [if_pos c65] at H
           have c65b0 : (t258 == t246) = true := beq_iff_eq.mpr c65
           have c65b1 : (t258 != t246) = false := bne_eq_false_iff_eq.mpr c65
           clear c65
           have H' := Aside0.mk H
           clear H
           obtain ⟨Ao66, co66, eo66⟩ := Kd.R_slice HO250.out
           subst eo66
           go_wp2
           go_meet
           case rel => exact ⟨_, (((t248.length : Int) != t246)), (by first | rfl | (simp; done) | (simp [*]; done)), H', ⟨by have := HJ7.out; first | omega | exact Nat.le_refl _⟩, ⟨by (with_reducible repeat (first | apply Kd.R_alloc | apply Kd.R_drewN | apply Kd.R_drew)); exact HO250.out⟩, ⟨by (with_reducible repeat (first | refine blk_drewN ?_ _ | refine blk_drew ?_ | refine blk_alloc ?_ _)); exact BK236.out⟩, ⟨by (with_reducible repeat (first | refine blk_drewN ?_ _ | refine blk_drew ?_ | refine blk_alloc ?_ _)); exact BK237.out⟩, ⟨by (with_reducible repeat (first | refine blk_drewN ?_ _ | refine blk_drew ?_ | refine blk_alloc ?_ _)); exact BK243.out⟩, ⟨by (with_reducible repeat (first | refine blk_drewN ?_ _ | refine blk_drew ?_ | refine blk_alloc ?_ _)); exact BK244.out⟩, ⟨by (with_reducible repeat (first | refine blk_drewN ?_ _ | refine blk_drew ?_ | refine blk_alloc ?_ _)); exact BK257.out⟩, ⟨by repeat (first | (with_reducible first | exact HB.out | apply below_alloc | apply pw_below_drewN | apply below_drew1 | refine below_set ?_ GE236.out | refine below_set ?_ GE237.out | refine below_set ?_ GE243.out | refine below_set ?_ GE244.out | refine below_set ?_ GE257.out) | exact HB.out)⟩⟩
          ·
           rw [if_neg c65] at H
           have c65b0 : (t258 == t246) = false := beq_eq_false_iff_ne.mpr c65
           have c65b1 : (t258 != t246) = true := bne_iff_ne.mpr c65
           have H' := Aside0.mk H
           clear H
           go_wp2
           go_meet
           case rel => exact ⟨_, (true), (by first | rfl | (simp; done) | (simp [*]; done)), H', ⟨by have := HJ7.out; first | omega | exact Nat.le_refl _⟩, ⟨by (with_reducible repeat (first | apply Kd.R_alloc | apply Kd.R_drewN | apply Kd.R_drew)); exact HO250.out⟩, ⟨by (with_reducible repeat (first | refine blk_drewN ?_ _ | refine blk_drew ?_ | refine blk_alloc ?_ _)); exact BK236.out⟩, ⟨by (with_reducible repeat (first | refine blk_drewN ?_ _ | refine blk_drew ?_ | refine blk_alloc ?_ _)); exact BK237.out⟩, ⟨by (with_reducible repeat (first | refine blk_drewN ?_ _ | refine blk_drew ?_ | refine blk_alloc ?_ _)); exact BK243.out⟩, ⟨by (with_reducible repeat (first | refine blk_drewN ?_ _ | refine blk_drew ?_ | refine blk_alloc ?_ _)); exact BK244.out⟩, ⟨by (with_reducible repeat (first | refine blk_drewN ?_ _ | refine blk_drew ?_ | refine blk_alloc ?_ _)); exact BK257.out⟩, ⟨by repeat (first | (with_reducible first | exact HB.out | apply below_alloc | apply pw_below_drewN | apply below_drew1 | refine below_set ?_ GE236.out | refine below_set ?_ GE237.out | refine below_set ?_ GE243.out | refine below_set ?_ GE244.out | refine below_set ?_ GE257.out) | exact HB.out)⟩⟩
     case rest =>
      as_aux_lemma =>
       clear HC37
       try clear c1
       try clear c2
       try clear p2
       try clear c3
       try clear c4
       try clear c5
       try clear c6
       try clear c12
       try clear c15
       try clear c18
       try clear c19
       try clear c20
       try clear c22
       try clear c23
       try clear c27
       try clear c28
       try clear c29
       try clear c30
       try clear c35
       try clear c37
       try clear c38
       try clear c39
       try clear c40
       try clear c41
       try clear c42
       try clear c43
       try clear c55
       try clear c56
       try clear c57
       try clear c58
       try clear c62
       try clear c62b0
       try clear c62b1
       try clear c62b2
       try clear c63
       try clear c63b0
       try clear c63b1
       try clear c63b2
       try clear c64
       try clear c64b0
       try clear c64b1
       try clear c64b2
       try clear c65
       try clear c65b0
       try clear c65b1
       try clear hcz13_0
       try clear hcz13_1
       try clear hcz14_0
       try clear hcz14_1
       try clear hcz14_2
       try clear hcz21_0
       try clear hcz21_1
       try clear hcz24_0
       try clear hcz24_1
       try clear hcz24_2
       try clear hcz25_0
       try clear hcz25_1
       try clear hcz31_0
       try clear hcz31_1
       try clear hcz31_2
       try clear hcz41_0
       try clear hcz41_1
       try clear hcz44_0
       try clear hcz44_1
       try clear hcz44_2
       try clear hcz46_0
       try clear hcz46_1
       try clear hcz47_0
       try clear hcz47_1
       try clear hcz47_2
       try clear hcz49_0
       try clear hcz49_1
       try clear hcz50_0
       try clear hcz50_1
       try clear hcz50_2
       try clear hcz52_0
       try clear hcz52_1
       try clear hcz52_2
       try clear hcz59_0
       try clear hcz59_1
       try clear hcz59_2
       try clear hcz60_0
       try clear hcz60_1
       try clear hfz13_0
       try clear hfz13_1
       try clear hfz14_0
       try clear hfz14_1
       try clear hfz14_2
       try clear hfz21_0
       try clear hfz21_1
       try clear hfz24_0
       try clear hfz24_1
       try clear hfz24_2
       try clear hfz25_0
       try clear hfz25_1
       try clear hfz31_0
       try clear hfz31_1
       try clear hfz31_2
       try clear hfz41_0
       try clear hfz41_1
       try clear hfz44_0
       try clear hfz44_1
       try clear hfz44_2
       try clear hfz46_0
       try clear hfz46_1
       try clear hfz47_0
       try clear hfz47_1
       try clear hfz47_2
       try clear hfz49_0
       try clear hfz49_1
       try clear hfz50_0
       try clear hfz50_1
       try clear hfz50_2
       try clear hfz52_0
       try clear hfz52_1
       try clear hfz52_2
       try clear hfz59_0
       try clear hfz59_1
       try clear hfz59_2
       try clear hfz60_0
       try clear hfz60_1
       try clear p2
       obtain ⟨kq, x98_36, rfl, HA, HJ36, HO_11, BK236, BK237, BK243, BK244, BK257, HB⟩ := hcut
       cases kq with
       | zero => exact absurd HA.out (by simp [laws_FnHomeward.j1])
       | succ kj36 =>
        have H := HA.out
        clear HA
        simp only [laws_FnHomeward.j1] at H
        by_cases c67 : x98_36 = true
        ·
         subst c67
         have H1 : (some false) = some r := by rw [if_pos rfl] at H; exact H
         clear H
         have H := H1
         clear H1
         obtain rfl := Option.some.inj H
         go_wp2
         go_ret
         exact ⟨by first | rfl | (simp [errW_none, errW_some] <;> rfl) | (simp [*, errW_none, errW_some] <;> rfl), by repeat (first | (with_reducible first | exact HB.out | apply below_alloc | apply pw_below_drewN | apply below_drew1 | refine below_set ?_ GE236.out | refine below_set ?_ GE237.out | refine below_set ?_ GE243.out | refine below_set ?_ GE244.out | refine below_set ?_ GE257.out) | exact HB.out)⟩
        ·
         replace c67 := Bool.eq_false_iff.mpr c67
         subst c67
         have H1 : ((impl_StepsHome.f t231 t232 x245000_7 x245001_7 x245002_7).bind fun bt260 => ((impl_PlanBoth.f kj36 t231 t232 t233 t234 t235 x245000_7 x245001_7 x245002_7).bind fun bt262 => (if t247 = true then (if (bt262.2 != bt260.2) = true then (laws_FnHomeward.j2 kj36 t246 t247 t248 t252 bt260.1 bt262.1 bt262.2 true t231 t232 t233 t234 t235 t254 t255 t256) else (laws_FnHomeward.j2 kj36 t246 t247 t248 t252 bt260.1 bt262.1 bt262.2 (!t247) t231 t232 t233 t234 t235 t254 t255 t256)) else (if (bt262.2 != false) = true then (laws_FnHomeward.j2 kj36 t246 t247 t248 t252 bt260.1 bt262.1 bt262.2 true t231 t232 t233 t234 t235 t254 t255 t256) else (laws_FnHomeward.j2 kj36 t246 t247 t248 t252 bt260.1 bt262.1 bt262.2 (!t247) t231 t232 t233 t234 t235 t254 t255 t256))))) = some r := by rw [if_neg (show ¬ (false = true) by decide)] at H; exact H
         clear H
         have H := H1
         clear H1
         replace H := Option.bind_eq_some_iff.mp H
         obtain ⟨⟨t260, t261⟩, A680, H⟩ := H
         replace H : ((impl_PlanBoth.f kj36 t231 t232 t233 t234 t235 x245000_7 x245001_7 x245002_7).bind fun bt262 => (if t247 = true then (if (bt262.2 != t261) = true then (laws_FnHomeward.j2 kj36 t246 t247 t248 t252 t260 bt262.1 bt262.2 true t231 t232 t233 t234 t235 t254 t255 t256) else (laws_FnHomeward.j2 kj36 t246 t247 t248 t252 t260 bt262.1 bt262.2 (!t247) t231 t232 t233 t234 t235 t254 t255 t256)) else (if (bt262.2 != false) = true then (laws_FnHomeward.j2 kj36 t246 t247 t248 t252 t260 bt262.1 bt262.2 true t231 t232 t233 t234 t235 t254 t255 t256) else (laws_FnHomeward.j2 kj36 t246 t247 t248 t252 t260 bt262.1 bt262.2 (!t247) t231 t232 t233 t234 t235 t254 t255 t256)))) = some r := H
         have A68 := Aside0.mk A680
         clear A680
         replace H := Option.bind_eq_some_iff.mp H
         obtain ⟨⟨t262, t265⟩, A690, H⟩ := H
         replace H : (if t247 = true then (if (t265 != t261) = true then (laws_FnHomeward.j2 kj36 t246 t247 t248 t252 t260 t262 t265 true t231 t232 t233 t234 t235 t254 t255 t256) else (laws_FnHomeward.j2 kj36 t246 t247 t248 t252 t260 t262 t265 (!t247) t231 t232 t233 t234 t235 t254 t255 t256)) else (if (t265 != false) = true then (laws_FnHomeward.j2 kj36 t246 t247 t248 t252 t260 t262 t265 true t231 t232 t233 t234 t235 t254 t255 t256) else (laws_FnHomeward.j2 kj36 t246 t247 t248 t252 t260 t262 t265 (!t247) t231 t232 t233 t234 t235 t254 t255 t256))) = some r := H
         have A69 := Aside0.mk A690
         clear A690
         have HC70 := Aside0.mk H
         clear H
         have hnb71 := NB236_237.out
         have hnc71 := NB237_236.out
         have hnb72 := NB236_243.out
         have hnc72 := NB243_236.out
         have hnb73 := NB236_244.out
         have hnc73 := NB244_236.out
         have hnb74 := NB236_257.out
         have hnc74 := NB257_236.out
         have hcz75_0 : wc.cell? ⟨gb236, 0, none⟩ = some (.int .i64 t231) := (blk_cell BK236.out 0).trans rfl
         have hcz75_1 : wc.cell? ⟨gb236, 1, none⟩ = some (.int .i64 t232) := (blk_cell BK236.out 1).trans rfl
         have hfz75_0 := blk_frozen BK236.out 0
         have hfz75_1 := blk_frozen BK236.out 1
         have hnb76 := NB244_237.out
         have hnc76 := NB237_244.out
         have hnb77 := NB244_243.out
         have hnc77 := NB243_244.out
         have hnb78 := NB244_257.out
         have hnc78 := NB257_244.out
         have hcz79_0 : wc.cell? ⟨gb244, 0, none⟩ = some (.int .i64 x245000_7) := (blk_cell BK244.out 0).trans rfl
         have hcz79_1 : wc.cell? ⟨gb244, 1, none⟩ = some (.int .i64 x245001_7) := (blk_cell BK244.out 1).trans rfl
         have hcz79_2 : wc.cell? ⟨gb244, 2, none⟩ = some (.int .i64 x245002_7) := (blk_cell BK244.out 2).trans rfl
         have hfz79_0 := blk_frozen BK244.out 0
         have hfz79_1 := blk_frozen BK244.out 1
         have hfz79_2 := blk_frozen BK244.out 2
         go_upto_region 16 with (first | ((with_reducible refine gate_callee (f := 35) rfl ?_); refine goesL_ (some 102) rfl rfl Try.func35 (by kernel_rfl) rfl #[.agg #[.int .i64 t231, .int .i64 t232], .agg #[.int .i64 x245000_7, .int .i64 x245001_7, .int .i64 x245002_7]] rfl (by (try simp only [List.map_toArray, List.map_cons, List.map_nil]); first | done | rfl | (simp only [List.length_drop, List.length_take]; rfl)) ?_; (with_reducible refine (impl_StepsHome.calls t231 t232 x245000_7 x245001_7 x245002_7 t260 t261 _ A68.out).mono ?_); rintro e w80 ⟨rfl, hb⟩; refine ⟨_, rfl, ?_⟩; have n0_ := Aside0.mk (Kd.R_below (by (with_reducible repeat (first | apply Kd.R_alloc | apply Kd.R_drewN | apply Kd.R_drew)); exact HO_11.out) hb); have n1_ := Aside0.mk (blk_below (g := gb236) (o := .cells #[.int .i64 t231, .int .i64 t232] 40 (0, 0)) (by (with_reducible repeat (first | refine blk_drewN ?_ _ | refine blk_drew ?_ | refine blk_alloc ?_ _)); exact BK236.out) hb); have n2_ := Aside0.mk (blk_below (g := gb237) (o := .cells #[.int .i64 t233, .int .i64 t234, .int .i64 t235] 24 (0, 0)) (by (with_reducible repeat (first | refine blk_drewN ?_ _ | refine blk_drew ?_ | refine blk_alloc ?_ _)); exact BK237.out) hb); have n3_ := Aside0.mk (blk_below (g := gb243) (o := .cells #[.int .i64 t238, .int .i64 t239] 40 (0, 0)) (by (with_reducible repeat (first | refine blk_drewN ?_ _ | refine blk_drew ?_ | refine blk_alloc ?_ _)); exact BK243.out) hb); have n4_ := Aside0.mk (blk_below (g := gb244) (o := .cells #[.int .i64 x245000_7, .int .i64 x245001_7, .int .i64 x245002_7] 24 (0, 0)) (by (with_reducible repeat (first | refine blk_drewN ?_ _ | refine blk_drew ?_ | refine blk_alloc ?_ _)); exact BK244.out) hb); have n5_ := Aside0.mk (blk_below (g := gb257) (o := .cells #[.int .i64 t254, .int .i64 t255, .int .i64 t256] 24 (0, 0)) (by (with_reducible repeat (first | refine blk_drewN ?_ _ | refine blk_drew ?_ | refine blk_alloc ?_ _)); exact BK257.out) hb); have n6_ := Aside0.mk (below_step (by repeat (first | (with_reducible first | exact HB.out | apply below_alloc | apply pw_below_drewN | apply below_drew1 | refine below_set ?_ GE236.out | refine below_set ?_ GE237.out | refine below_set ?_ GE243.out | refine below_set ?_ GE244.out | refine below_set ?_ GE257.out) | exact HB.out)) hb); clear HO_11; clear BK236; clear BK237; clear BK243; clear BK244; clear BK257; clear HB; have HO_11 := n0_; have BK236 := n1_; have BK237 := n2_; have BK243 := n3_; have BK244 := n4_; have BK257 := n5_; have HB := n6_; clear n0_ n1_ n2_ n3_ n4_ n5_ n6_; (try clear hb); (try clear hb2); (try clear hk); (try clear hi); have hcz81_0 : w80.cell? ⟨gb236, 0, none⟩ = some (.int .i64 t231) := (blk_cell BK236.out 0).trans rfl; have hcz81_1 : w80.cell? ⟨gb236, 1, none⟩ = some (.int .i64 t232) := (blk_cell BK236.out 1).trans rfl; have hfz81_0 := blk_frozen BK236.out 0; have hfz81_1 := blk_frozen BK236.out 1; have hnb82 := NB237_243.out; have hnc82 := NB243_237.out; have hnb83 := NB237_257.out; have hnc83 := NB257_237.out; have hcz84_0 : w80.cell? ⟨gb237, 0, none⟩ = some (.int .i64 t233) := (blk_cell BK237.out 0).trans rfl; have hcz84_1 : w80.cell? ⟨gb237, 1, none⟩ = some (.int .i64 t234) := (blk_cell BK237.out 1).trans rfl; have hcz84_2 : w80.cell? ⟨gb237, 2, none⟩ = some (.int .i64 t235) := (blk_cell BK237.out 2).trans rfl; have hfz84_0 := blk_frozen BK237.out 0; have hfz84_1 := blk_frozen BK237.out 1; have hfz84_2 := blk_frozen BK237.out 2; have hcz85_0 : w80.cell? ⟨gb244, 0, none⟩ = some (.int .i64 x245000_7) := (blk_cell BK244.out 0).trans rfl; have hcz85_1 : w80.cell? ⟨gb244, 1, none⟩ = some (.int .i64 x245001_7) := (blk_cell BK244.out 1).trans rfl; have hcz85_2 : w80.cell? ⟨gb244, 2, none⟩ = some (.int .i64 x245002_7) := (blk_cell BK244.out 2).trans rfl; have hfz85_0 := blk_frozen BK244.out 0; have hfz85_1 := blk_frozen BK244.out 1; have hfz85_2 := blk_frozen BK244.out 2) | ((with_reducible refine gate_callee (f := 44) rfl ?_); refine goesL_ (some 109) rfl rfl Try.func44 (by kernel_rfl) rfl #[.agg #[.int .i64 t231, .int .i64 t232], .agg #[.int .i64 t233, .int .i64 t234, .int .i64 t235], .agg #[.int .i64 x245000_7, .int .i64 x245001_7, .int .i64 x245002_7]] rfl (by (try simp only [List.map_toArray, List.map_cons, List.map_nil]); first | done | rfl | (simp only [List.length_drop, List.length_take]; rfl)) ?_; (with_reducible refine (impl_PlanBoth.calls kj36 t231 t232 t233 t234 t235 x245000_7 x245001_7 x245002_7 t262 t265 _ A69.out).mono ?_); rintro e w86 ⟨v263, rfl, ho0, hb⟩; refine ⟨_, rfl, ?_⟩; have n0_ := Aside0.mk (Kd.R_below (by (with_reducible repeat (first | apply Kd.R_alloc | apply Kd.R_drewN | apply Kd.R_drew)); exact HO_11.out) hb); have n1_ := Aside0.mk (Kd.S_lower (Kd.S_new' ho0 (Kd.R_lt (by (with_reducible repeat (first | apply Kd.R_alloc | apply Kd.R_drewN | apply Kd.R_drew)); exact HO_11.out))) (below_size (by repeat (first | (with_reducible first | exact HB.out | apply below_alloc | apply pw_below_drewN | apply below_drew1 | refine below_set ?_ GE236.out | refine below_set ?_ GE237.out | refine below_set ?_ GE243.out | refine below_set ?_ GE244.out | refine below_set ?_ GE257.out) | exact HB.out)))); have n2_ := Aside0.mk (blk_below (g := gb236) (o := .cells #[.int .i64 t231, .int .i64 t232] 40 (0, 0)) (by (with_reducible repeat (first | refine blk_drewN ?_ _ | refine blk_drew ?_ | refine blk_alloc ?_ _)); exact BK236.out) hb); have n3_ := Aside0.mk (blk_below (g := gb237) (o := .cells #[.int .i64 t233, .int .i64 t234, .int .i64 t235] 24 (0, 0)) (by (with_reducible repeat (first | refine blk_drewN ?_ _ | refine blk_drew ?_ | refine blk_alloc ?_ _)); exact BK237.out) hb); have n4_ := Aside0.mk (blk_below (g := gb243) (o := .cells #[.int .i64 t238, .int .i64 t239] 40 (0, 0)) (by (with_reducible repeat (first | refine blk_drewN ?_ _ | refine blk_drew ?_ | refine blk_alloc ?_ _)); exact BK243.out) hb); have n5_ := Aside0.mk (blk_below (g := gb244) (o := .cells #[.int .i64 x245000_7, .int .i64 x245001_7, .int .i64 x245002_7] 24 (0, 0)) (by (with_reducible repeat (first | refine blk_drewN ?_ _ | refine blk_drew ?_ | refine blk_alloc ?_ _)); exact BK244.out) hb); have n6_ := Aside0.mk (blk_below (g := gb257) (o := .cells #[.int .i64 t254, .int .i64 t255, .int .i64 t256] 24 (0, 0)) (by (with_reducible repeat (first | refine blk_drewN ?_ _ | refine blk_drew ?_ | refine blk_alloc ?_ _)); exact BK257.out) hb); have n7_ := Aside0.mk (below_step (by repeat (first | (with_reducible first | exact HB.out | apply below_alloc | apply pw_below_drewN | apply below_drew1 | refine below_set ?_ GE236.out | refine below_set ?_ GE237.out | refine below_set ?_ GE243.out | refine below_set ?_ GE244.out | refine below_set ?_ GE257.out) | exact HB.out)) hb); clear HO_11; clear BK236; clear BK237; clear BK243; clear BK244; clear BK257; clear HB; have HO_11 := n0_; have HO264 := n1_; have BK236 := n2_; have BK237 := n3_; have BK243 := n4_; have BK244 := n5_; have BK257 := n6_; have HB := n7_; clear n0_ n1_ n2_ n3_ n4_ n5_ n6_ n7_; (try clear hb); (try clear hb2); (try clear hk); (try clear hi); (try clear ho0)))
         (try simp only [Act.put, List.setIfInBounds_toArray, List.set_cons_zero, List.set_cons_succ])
         go_cut [121] (fun v121 wc => ∃ (kq : Nat) (x121_69 : Bool), v121 = .bool x121_69 ∧ Aside0 (laws_FnHomeward.j2 kq t246 t247 t248 t252 t260 t262 t265 x121_69 t231 t232 t233 t234 t235 t254 t255 t256 = some r) ∧ Aside0 (kq ≤ kj36) ∧ Aside0 (Kd.R (Kd.int .i64) 2 wc w.heap.size (fun _ => True) v249 t248) ∧ Aside0 (Kd.S (Kd.slice 2 (Kd.int .i64)) 43 wc w.heap.size (fun k_ => some k_ ≠ (v249 : Value).ownBlock) v263 t262) ∧ Aside0 (wc.heap[gb236]? = some (.cells #[.int .i64 t231, .int .i64 t232] 40 (0, 0))) ∧ Aside0 (wc.heap[gb237]? = some (.cells #[.int .i64 t233, .int .i64 t234, .int .i64 t235] 24 (0, 0))) ∧ Aside0 (wc.heap[gb243]? = some (.cells #[.int .i64 t238, .int .i64 t239] 40 (0, 0))) ∧ Aside0 (wc.heap[gb244]? = some (.cells #[.int .i64 x245000_7, .int .i64 x245001_7, .int .i64 x245002_7] 24 (0, 0))) ∧ Aside0 (wc.heap[gb257]? = some (.cells #[.int .i64 t254, .int .i64 t255, .int .i64 t256] 24 (0, 0))) ∧ Aside0 (Below w.heap.size w wc))
         case first =>
          as_aux_lemma =>
           have H := HC70.out
           clear HC70
           by_cases c87 : t247 = true
           ·
            subst c87
            have H1 : (if (t265 != t261) = true then (laws_FnHomeward.j2 kj36 t246 true t248 t252 t260 t262 t265 true t231 t232 t233 t234 t235 t254 t255 t256) else (laws_FnHomeward.j2 kj36 t246 true t248 t252 t260 t262 t265 (!true) t231 t232 t233 t234 t235 t254 t255 t256)) = some r := by rw [if_pos rfl] at H; exact H
            clear H
            have H := H1
            clear H1
            by_cases c88 : (t265 != t261) = true
            ·
             rw [if_pos c88] at H
             have c88b0 : (t265 != t261) = true := c88
             (try (have c88b1 : decide (t265 = t261) = false := by simpa using c88))
             (try (have c88b2 : (t265 == t261) = false := by simpa using c88))
             (try (have c88b3 : ¬ (t265 = t261) := by simpa using c88))
             clear c88
             (first | rw [c88b0] | (simp only [i64_w, i32_w]; rw [c88b0]) | skip)
             have H' := Aside0.mk H
             clear H
             go_wp2
             go_meet
             case rel => exact ⟨_, (true), (by first | rfl | (simp; done) | (simp [*]; done)), H', ⟨by have := HJ7.out; have := HJ36.out; first | omega | exact Nat.le_refl _⟩, ⟨by (with_reducible repeat (first | apply Kd.R_alloc | apply Kd.R_drewN | apply Kd.R_drew)); exact HO_11.out⟩, ⟨by (with_reducible repeat (first | apply Kd.S_alloc | apply Kd.S_drewN | apply Kd.S_drew)); exact Kd.S_mono HO264.out (fun _ hk => hk.2)⟩, ⟨by (with_reducible repeat (first | refine blk_drewN ?_ _ | refine blk_drew ?_ | refine blk_alloc ?_ _)); exact BK236.out⟩, ⟨by (with_reducible repeat (first | refine blk_drewN ?_ _ | refine blk_drew ?_ | refine blk_alloc ?_ _)); exact BK237.out⟩, ⟨by (with_reducible repeat (first | refine blk_drewN ?_ _ | refine blk_drew ?_ | refine blk_alloc ?_ _)); exact BK243.out⟩, ⟨by (with_reducible repeat (first | refine blk_drewN ?_ _ | refine blk_drew ?_ | refine blk_alloc ?_ _)); exact BK244.out⟩, ⟨by (with_reducible repeat (first | refine blk_drewN ?_ _ | refine blk_drew ?_ | refine blk_alloc ?_ _)); exact BK257.out⟩, ⟨by repeat (first | (with_reducible first | exact HB.out | apply below_alloc | apply pw_below_drewN | apply below_drew1 | refine below_set ?_ GE236.out | refine below_set ?_ GE237.out | refine below_set ?_ GE243.out | refine below_set ?_ GE244.out | refine below_set ?_ GE257.out) | exact HB.out)⟩⟩
            ·
             rw [if_neg c88] at H
             have c88b0 : (t265 != t261) = false := by simpa using c88
             (try (have c88b1 : decide (t265 = t261) = true := by simpa using c88))
             (try (have c88b2 : (t265 == t261) = true := by simpa using c88))
             clear c88
             (first | rw [c88b0] | (simp only [i64_w, i32_w]; rw [c88b0]) | skip)
             have H' := Aside0.mk H
             clear H
             go_wp2
             go_meet
             case rel => exact ⟨_, (!true), (by first | rfl | (simp; done) | (simp [*]; done)), H', ⟨by have := HJ7.out; have := HJ36.out; first | omega | exact Nat.le_refl _⟩, ⟨by (with_reducible repeat (first | apply Kd.R_alloc | apply Kd.R_drewN | apply Kd.R_drew)); exact HO_11.out⟩, ⟨by (with_reducible repeat (first | apply Kd.S_alloc | apply Kd.S_drewN | apply Kd.S_drew)); exact Kd.S_mono HO264.out (fun _ hk => hk.2)⟩, ⟨by (with_reducible repeat (first | refine blk_drewN ?_ _ | refine blk_drew ?_ | refine blk_alloc ?_ _)); exact BK236.out⟩, ⟨by (with_reducible repeat (first | refine blk_drewN ?_ _ | refine blk_drew ?_ | refine blk_alloc ?_ _)); exact BK237.out⟩, ⟨by (with_reducible repeat (first | refine blk_drewN ?_ _ | refine blk_drew ?_ | refine blk_alloc ?_ _)); exact BK243.out⟩, ⟨by (with_reducible repeat (first | refine blk_drewN ?_ _ | refine blk_drew ?_ | refine blk_alloc ?_ _)); exact BK244.out⟩, ⟨by (with_reducible repeat (first | refine blk_drewN ?_ _ | refine blk_drew ?_ | refine blk_alloc ?_ _)); exact BK257.out⟩, ⟨by repeat (first | (with_reducible first | exact HB.out | apply below_alloc | apply pw_below_drewN | apply below_drew1 | refine below_set ?_ GE236.out | refine below_set ?_ GE237.out | refine below_set ?_ GE243.out | refine below_set ?_ GE244.out | refine below_set ?_ GE257.out) | exact HB.out)⟩⟩
           ·
            replace c87 := Bool.eq_false_iff.mpr c87
            subst c87
            have H1 : (if (t265 != false) = true then (laws_FnHomeward.j2 kj36 t246 false t248 t252 t260 t262 t265 true t231 t232 t233 t234 t235 t254 t255 t256) else (laws_FnHomeward.j2 kj36 t246 false t248 t252 t260 t262 t265 (!false) t231 t232 t233 t234 t235 t254 t255 t256)) = some r := by rw [if_neg (show ¬ (false = true) by decide)] at H; exact H
            clear H
            have H := H1
            clear H1
            by_cases c89 : (t265 != false) = true
            ·
             rw [if_pos c89] at H
             have c89b0 : (t265 != false) = true := c89
             (try (have c89b1 : decide (t265 = false) = false := by simpa using c89))
             (try (have c89b2 : (t265 == false) = false := by simpa using c89))
             (try (have c89b3 : ¬ (t265 = false) := by simpa using c89))
             clear c89
             have H' := Aside0.mk H
             clear H
             go_wp2
             go_meet
             case rel => exact ⟨_, (true), (by first | rfl | (simp; done) | (simp [*]; done)), H', ⟨by have := HJ7.out; have := HJ36.out; first | omega | exact Nat.le_refl _⟩, ⟨by (with_reducible repeat (first | apply Kd.R_alloc | apply Kd.R_drewN | apply Kd.R_drew)); exact HO_11.out⟩, ⟨by (with_reducible repeat (first | apply Kd.S_alloc | apply Kd.S_drewN | apply Kd.S_drew)); exact Kd.S_mono HO264.out (fun _ hk => hk.2)⟩, ⟨by (with_reducible repeat (first | refine blk_drewN ?_ _ | refine blk_drew ?_ | refine blk_alloc ?_ _)); exact BK236.out⟩, ⟨by (with_reducible repeat (first | refine blk_drewN ?_ _ | refine blk_drew ?_ | refine blk_alloc ?_ _)); exact BK237.out⟩, ⟨by (with_reducible repeat (first | refine blk_drewN ?_ _ | refine blk_drew ?_ | refine blk_alloc ?_ _)); exact BK243.out⟩, ⟨by (with_reducible repeat (first | refine blk_drewN ?_ _ | refine blk_drew ?_ | refine blk_alloc ?_ _)); exact BK244.out⟩, ⟨by (with_reducible repeat (first | refine blk_drewN ?_ _ | refine blk_drew ?_ | refine blk_alloc ?_ _)); exact BK257.out⟩, ⟨by repeat (first | (with_reducible first | exact HB.out | apply below_alloc | apply pw_below_drewN | apply below_drew1 | refine below_set ?_ GE236.out | refine below_set ?_ GE237.out | refine below_set ?_ GE243.out | refine below_set ?_ GE244.out | refine below_set ?_ GE257.out) | exact HB.out)⟩⟩
            ·
             rw [if_neg c89] at H
             have c89b0 : (t265 != false) = false := by simpa using c89
             (try (have c89b1 : decide (t265 = false) = true := by simpa using c89))
             (try (have c89b2 : (t265 == false) = true := by simpa using c89))
             clear c89
             have H' := Aside0.mk H
             clear H
             go_wp2
             go_meet
             case rel => exact ⟨_, (!false), (by first | rfl | (simp; done) | (simp [*]; done)), H', ⟨by have := HJ7.out; have := HJ36.out; first | omega | exact Nat.le_refl _⟩, ⟨by (with_reducible repeat (first | apply Kd.R_alloc | apply Kd.R_drewN | apply Kd.R_drew)); exact HO_11.out⟩, ⟨by (with_reducible repeat (first | apply Kd.S_alloc | apply Kd.S_drewN | apply Kd.S_drew)); exact Kd.S_mono HO264.out (fun _ hk => hk.2)⟩, ⟨by (with_reducible repeat (first | refine blk_drewN ?_ _ | refine blk_drew ?_ | refine blk_alloc ?_ _)); exact BK236.out⟩, ⟨by (with_reducible repeat (first | refine blk_drewN ?_ _ | refine blk_drew ?_ | refine blk_alloc ?_ _)); exact BK237.out⟩, ⟨by (with_reducible repeat (first | refine blk_drewN ?_ _ | refine blk_drew ?_ | refine blk_alloc ?_ _)); exact BK243.out⟩, ⟨by (with_reducible repeat (first | refine blk_drewN ?_ _ | refine blk_drew ?_ | refine blk_alloc ?_ _)); exact BK244.out⟩, ⟨by (with_reducible repeat (first | refine blk_drewN ?_ _ | refine blk_drew ?_ | refine blk_alloc ?_ _)); exact BK257.out⟩, ⟨by repeat (first | (with_reducible first | exact HB.out | apply below_alloc | apply pw_below_drewN | apply below_drew1 | refine below_set ?_ GE236.out | refine below_set ?_ GE237.out | refine below_set ?_ GE243.out | refine below_set ?_ GE244.out | refine below_set ?_ GE257.out) | exact HB.out)⟩⟩
         case rest =>
          as_aux_lemma =>
           clear HC70
           try clear c1
           try clear c2
           try clear p2
           try clear c3
           try clear c4
           try clear c5
           try clear c6
           try clear c7
           try clear c8
           try clear c12
           try clear c15
           try clear c18
           try clear c19
           try clear c20
           try clear c22
           try clear c23
           try clear c27
           try clear c28
           try clear c29
           try clear c30
           try clear c35
           try clear c37
           try clear c38
           try clear c39
           try clear c40
           try clear c41
           try clear c42
           try clear c43
           try clear c44
           try clear c55
           try clear c56
           try clear c57
           try clear c58
           try clear c62
           try clear c62b0
           try clear c62b1
           try clear c62b2
           try clear c63
           try clear c63b0
           try clear c63b1
           try clear c63b2
           try clear c64
           try clear c64b0
           try clear c64b1
           try clear c64b2
           try clear c65
           try clear c65b0
           try clear c65b1
           try clear c67
           try clear c71
           try clear c72
           try clear c73
           try clear c74
           try clear c76
           try clear c77
           try clear c78
           try clear c82
           try clear c83
           try clear c87
           try clear c88
           try clear c88b0
           try clear c88b1
           try clear c88b2
           try clear c89
           try clear c89b0
           try clear c89b1
           try clear c89b2
           try clear hcz13_0
           try clear hcz13_1
           try clear hcz14_0
           try clear hcz14_1
           try clear hcz14_2
           try clear hcz21_0
           try clear hcz21_1
           try clear hcz24_0
           try clear hcz24_1
           try clear hcz24_2
           try clear hcz25_0
           try clear hcz25_1
           try clear hcz31_0
           try clear hcz31_1
           try clear hcz31_2
           try clear hcz41_0
           try clear hcz41_1
           try clear hcz44_0
           try clear hcz44_1
           try clear hcz44_2
           try clear hcz46_0
           try clear hcz46_1
           try clear hcz47_0
           try clear hcz47_1
           try clear hcz47_2
           try clear hcz49_0
           try clear hcz49_1
           try clear hcz50_0
           try clear hcz50_1
           try clear hcz50_2
           try clear hcz52_0
           try clear hcz52_1
           try clear hcz52_2
           try clear hcz59_0
           try clear hcz59_1
           try clear hcz59_2
           try clear hcz60_0
           try clear hcz60_1
           try clear hcz75_0
           try clear hcz75_1
           try clear hcz79_0
           try clear hcz79_1
           try clear hcz79_2
           try clear hcz81_0
           try clear hcz81_1
           try clear hcz84_0
           try clear hcz84_1
           try clear hcz84_2
           try clear hcz85_0
           try clear hcz85_1
           try clear hcz85_2
           try clear hfz13_0
           try clear hfz13_1
           try clear hfz14_0
           try clear hfz14_1
           try clear hfz14_2
           try clear hfz21_0
           try clear hfz21_1
           try clear hfz24_0
           try clear hfz24_1
           try clear hfz24_2
           try clear hfz25_0
           try clear hfz25_1
           try clear hfz31_0
           try clear hfz31_1
           try clear hfz31_2
           try clear hfz41_0
           try clear hfz41_1
           try clear hfz44_0
           try clear hfz44_1
           try clear hfz44_2
           try clear hfz46_0
           try clear hfz46_1
           try clear hfz47_0
           try clear hfz47_1
           try clear hfz47_2
           try clear hfz49_0
           try clear hfz49_1
           try clear hfz50_0
           try clear hfz50_1
           try clear hfz50_2
           try clear hfz52_0
           try clear hfz52_1
           try clear hfz52_2
           try clear hfz59_0
           try clear hfz59_1
           try clear hfz59_2
           try clear hfz60_0
           try clear hfz60_1
           try clear hfz75_0
           try clear hfz75_1
           try clear hfz79_0
           try clear hfz79_1
           try clear hfz79_2
           try clear hfz81_0
           try clear hfz81_1
           try clear hfz84_0
           try clear hfz84_1
           try clear hfz84_2
           try clear hfz85_0
           try clear hfz85_1
           try clear hfz85_2
           try clear p2
           obtain ⟨kq, x121_69, rfl, HA, HJ69, HO_11, HO_20, BK236, BK237, BK243, BK244, BK257, HB⟩ := hcut
           cases kq with
           | zero => exact absurd HA.out (by simp [laws_FnHomeward.j2])
           | succ kj69 =>
            have H := HA.out
            clear HA
            simp only [laws_FnHomeward.j2] at H
            by_cases c90 : x121_69 = true
            ·
             subst c90
             have H1 : (if t247 = true then (some false) else (if t265 = true then (some false) else ((impl_ValidLimits.f t231 t232).bind fun t266 => (some t266)))) = some r := by rw [if_pos rfl] at H; exact H
             clear H
             have H := H1
             clear H1
             by_cases c91 : t247 = true
             ·
              subst c91
              have H1 : (some false) = some r := by rw [if_pos rfl] at H; exact H
              clear H
              have H := H1
              clear H1
              obtain rfl := Option.some.inj H
              go_wp2
              go_ret
              exact ⟨by first | rfl | (simp [errW_none, errW_some] <;> rfl) | (simp [*, errW_none, errW_some] <;> rfl), by repeat (first | (with_reducible first | exact HB.out | apply below_alloc | apply pw_below_drewN | apply below_drew1 | refine below_set ?_ GE236.out | refine below_set ?_ GE237.out | refine below_set ?_ GE243.out | refine below_set ?_ GE244.out | refine below_set ?_ GE257.out) | exact HB.out)⟩
             ·
              replace c91 := Bool.eq_false_iff.mpr c91
              subst c91
              have H1 : (if t265 = true then (some false) else ((impl_ValidLimits.f t231 t232).bind fun t266 => (some t266))) = some r := by rw [if_neg (show ¬ (false = true) by decide)] at H; exact H
              clear H
              have H := H1
              clear H1
              by_cases c92 : t265 = true
              ·
               subst c92
               have H1 : (some false) = some r := by rw [if_pos rfl] at H; exact H
               clear H
               have H := H1
               clear H1
               obtain rfl := Option.some.inj H
               go_wp2
               go_ret
               exact ⟨by first | rfl | (simp [errW_none, errW_some] <;> rfl) | (simp [*, errW_none, errW_some] <;> rfl), by repeat (first | (with_reducible first | exact HB.out | apply below_alloc | apply pw_below_drewN | apply below_drew1 | refine below_set ?_ GE236.out | refine below_set ?_ GE237.out | refine below_set ?_ GE243.out | refine below_set ?_ GE244.out | refine below_set ?_ GE257.out) | exact HB.out)⟩
              ·
               replace c92 := Bool.eq_false_iff.mpr c92
               subst c92
               have H1 : ((impl_ValidLimits.f t231 t232).bind fun t266 => (some t266)) = some r := by rw [if_neg (show ¬ (false = true) by decide)] at H; exact H
               clear H
               have H := H1
               clear H1
               replace H := Option.bind_eq_some_iff.mp H
               obtain ⟨t266, A930, H⟩ := H
               replace H : (some t266) = some r := H
               have A93 := Aside0.mk A930
               clear A930
               obtain rfl := Option.some.inj H
               have hnb94 := NB236_237.out
               have hnc94 := NB237_236.out
               have hnb95 := NB236_243.out
               have hnc95 := NB243_236.out
               have hnb96 := NB236_244.out
               have hnc96 := NB244_236.out
               have hnb97 := NB236_257.out
               have hnc97 := NB257_236.out
               have hcz98_0 : wc.cell? ⟨gb236, 0, none⟩ = some (.int .i64 t231) := (blk_cell BK236.out 0).trans rfl
               have hcz98_1 : wc.cell? ⟨gb236, 1, none⟩ = some (.int .i64 t232) := (blk_cell BK236.out 1).trans rfl
               have hfz98_0 := blk_frozen BK236.out 0
               have hfz98_1 := blk_frozen BK236.out 1
               go_wp2_with (first | (go_at_call 45; (with_reducible refine (impl_ValidLimits.calls t231 t232 t266 _ A93.out).mono ?_); rintro e w99 ⟨rfl, hb⟩; have n0_ := Aside0.mk (Kd.R_below (by (with_reducible repeat (first | apply Kd.R_alloc | apply Kd.R_drewN | apply Kd.R_drew)); exact HO_11.out) hb); have n1_ := Aside0.mk (Kd.S_below (by (with_reducible repeat (first | apply Kd.S_alloc | apply Kd.S_drewN | apply Kd.S_drew)); exact HO_20.out) hb); have n2_ := Aside0.mk (blk_below (g := gb236) (o := .cells #[.int .i64 t231, .int .i64 t232] 40 (0, 0)) (by (with_reducible repeat (first | refine blk_drewN ?_ _ | refine blk_drew ?_ | refine blk_alloc ?_ _)); exact BK236.out) hb); have n3_ := Aside0.mk (blk_below (g := gb237) (o := .cells #[.int .i64 t233, .int .i64 t234, .int .i64 t235] 24 (0, 0)) (by (with_reducible repeat (first | refine blk_drewN ?_ _ | refine blk_drew ?_ | refine blk_alloc ?_ _)); exact BK237.out) hb); have n4_ := Aside0.mk (blk_below (g := gb243) (o := .cells #[.int .i64 t238, .int .i64 t239] 40 (0, 0)) (by (with_reducible repeat (first | refine blk_drewN ?_ _ | refine blk_drew ?_ | refine blk_alloc ?_ _)); exact BK243.out) hb); have n5_ := Aside0.mk (blk_below (g := gb244) (o := .cells #[.int .i64 x245000_7, .int .i64 x245001_7, .int .i64 x245002_7] 24 (0, 0)) (by (with_reducible repeat (first | refine blk_drewN ?_ _ | refine blk_drew ?_ | refine blk_alloc ?_ _)); exact BK244.out) hb); have n6_ := Aside0.mk (blk_below (g := gb257) (o := .cells #[.int .i64 t254, .int .i64 t255, .int .i64 t256] 24 (0, 0)) (by (with_reducible repeat (first | refine blk_drewN ?_ _ | refine blk_drew ?_ | refine blk_alloc ?_ _)); exact BK257.out) hb); have n7_ := Aside0.mk (below_step (by repeat (first | (with_reducible first | exact HB.out | apply below_alloc | apply pw_below_drewN | apply below_drew1 | refine below_set ?_ GE236.out | refine below_set ?_ GE237.out | refine below_set ?_ GE243.out | refine below_set ?_ GE244.out | refine below_set ?_ GE257.out) | exact HB.out)) hb); clear HO_11; clear HO_20; clear BK236; clear BK237; clear BK243; clear BK244; clear BK257; clear HB; have HO_11 := n0_; have HO_20 := n1_; have BK236 := n2_; have BK237 := n3_; have BK243 := n4_; have BK244 := n5_; have BK257 := n6_; have HB := n7_; clear n0_ n1_ n2_ n3_ n4_ n5_ n6_ n7_; (try clear hb); (try clear hb2); (try clear hk); (try clear hi)))
               go_ret
               exact ⟨by first | rfl | (simp [errW_none, errW_some] <;> rfl) | (simp [*, errW_none, errW_some] <;> rfl), by repeat (first | (with_reducible first | exact HB.out | apply below_alloc | apply pw_below_drewN | apply below_drew1 | refine below_set ?_ GE236.out | refine below_set ?_ GE237.out | refine below_set ?_ GE243.out | refine below_set ?_ GE244.out | refine below_set ?_ GE257.out) | exact HB.out)⟩
            ·
             replace c90 := Bool.eq_false_iff.mpr c90
             subst c90
             have H1 : (if t265 = true then (if (t262.length : Int) = t246 then (if (t262.length : Int) < t246 then (laws_FnHomeward.j3 kj69 t246 t248 t252 true t231 t232 t233 t234 t235 t254 t255 t256) else (laws_FnHomeward.j3 kj69 t246 t248 t252 (decide ((t262.length : Int) < t260)) t231 t232 t233 t234 t235 t254 t255 t256)) else (if (t262.length : Int) = t260 then (if (t262.length : Int) < t246 then (laws_FnHomeward.j3 kj69 t246 t248 t252 true t231 t232 t233 t234 t235 t254 t255 t256) else (laws_FnHomeward.j3 kj69 t246 t248 t252 (decide ((t262.length : Int) < t260)) t231 t232 t233 t234 t235 t254 t255 t256)) else (laws_FnHomeward.j3 kj69 t246 t248 t252 true t231 t232 t233 t234 t235 t254 t255 t256))) else (laws_FnHomeward.j3 kj69 t246 t248 t252 false t231 t232 t233 t234 t235 t254 t255 t256)) = some r := by rw [if_neg (show ¬ (false = true) by decide)] at H; exact H
             clear H
             have H := H1
             clear H1
             have HC100 := Aside0.mk H
             clear H
             go_upto_region 18 with (fail)
             go_cut [159] (fun v159 wc => ∃ (kq : Nat) (x159_99 : Bool), v159 = .bool x159_99 ∧ Aside0 (laws_FnHomeward.j3 kq t246 t248 t252 x159_99 t231 t232 t233 t234 t235 t254 t255 t256 = some r) ∧ Aside0 (kq ≤ kj69) ∧ Aside0 (Kd.R (Kd.int .i64) 2 wc w.heap.size (fun _ => True) v249 t248) ∧ Aside0 (wc.heap[gb236]? = some (.cells #[.int .i64 t231, .int .i64 t232] 40 (0, 0))) ∧ Aside0 (wc.heap[gb237]? = some (.cells #[.int .i64 t233, .int .i64 t234, .int .i64 t235] 24 (0, 0))) ∧ Aside0 (wc.heap[gb243]? = some (.cells #[.int .i64 t238, .int .i64 t239] 40 (0, 0))) ∧ Aside0 (wc.heap[gb244]? = some (.cells #[.int .i64 x245000_7, .int .i64 x245001_7, .int .i64 x245002_7] 24 (0, 0))) ∧ Aside0 (wc.heap[gb257]? = some (.cells #[.int .i64 t254, .int .i64 t255, .int .i64 t256] 24 (0, 0))) ∧ Aside0 (Below w.heap.size w wc))
             case first =>
              as_aux_lemma =>
               have H := HC100.out
               clear HC100
               by_cases c101 : t265 = true
               ·
                subst c101
                have H1 : (if (t262.length : Int) = t246 then (if (t262.length : Int) < t246 then (laws_FnHomeward.j3 kj69 t246 t248 t252 true t231 t232 t233 t234 t235 t254 t255 t256) else (laws_FnHomeward.j3 kj69 t246 t248 t252 (decide ((t262.length : Int) < t260)) t231 t232 t233 t234 t235 t254 t255 t256)) else (if (t262.length : Int) = t260 then (if (t262.length : Int) < t246 then (laws_FnHomeward.j3 kj69 t246 t248 t252 true t231 t232 t233 t234 t235 t254 t255 t256) else (laws_FnHomeward.j3 kj69 t246 t248 t252 (decide ((t262.length : Int) < t260)) t231 t232 t233 t234 t235 t254 t255 t256)) else (laws_FnHomeward.j3 kj69 t246 t248 t252 true t231 t232 t233 t234 t235 t254 t255 t256))) = some r := by rw [if_pos rfl] at H; exact H
                clear H
                have H := H1
                clear H1
                by_cases c102 : (t262.length : Int) = t246
                ·
                 rw [if_pos c102] at H
                 have c102b0 : ((t262.length : Int) == t246) = true := beq_iff_eq.mpr c102
                 have c102b1 : ((t262.length : Int) != t246) = false := bne_eq_false_iff_eq.mpr c102
                 clear c102
                 (first | rw [c102b0] | (simp only [i64_w, i32_w]; rw [c102b0]) | skip)
                 by_cases c103 : (t262.length : Int) < t246
                 ·
                  rw [if_pos c103] at H
                  have c103b0 : decide ((t262.length : Int) < t246) = true := decide_eq_true c103
                  clear c103
                  have H' := Aside0.mk H
                  clear H
                  obtain ⟨Ao104, co104, eo104⟩ := Kd.S_slice HO_20.out
                  subst eo104
                  go_wp2
                  go_meet
                  case rel => exact ⟨_, (true), (by first | rfl | (simp; done) | (simp [*]; done)), H', ⟨by have := HJ7.out; have := HJ36.out; have := HJ69.out; first | omega | exact Nat.le_refl _⟩, ⟨by (with_reducible repeat (first | apply Kd.R_alloc | apply Kd.R_drewN | apply Kd.R_drew)); exact HO_11.out⟩, ⟨by (with_reducible repeat (first | refine blk_drewN ?_ _ | refine blk_drew ?_ | refine blk_alloc ?_ _)); exact BK236.out⟩, ⟨by (with_reducible repeat (first | refine blk_drewN ?_ _ | refine blk_drew ?_ | refine blk_alloc ?_ _)); exact BK237.out⟩, ⟨by (with_reducible repeat (first | refine blk_drewN ?_ _ | refine blk_drew ?_ | refine blk_alloc ?_ _)); exact BK243.out⟩, ⟨by (with_reducible repeat (first | refine blk_drewN ?_ _ | refine blk_drew ?_ | refine blk_alloc ?_ _)); exact BK244.out⟩, ⟨by (with_reducible repeat (first | refine blk_drewN ?_ _ | refine blk_drew ?_ | refine blk_alloc ?_ _)); exact BK257.out⟩, ⟨by repeat (first | (with_reducible first | exact HB.out | apply below_alloc | apply pw_below_drewN | apply below_drew1 | refine below_set ?_ GE236.out | refine below_set ?_ GE237.out | refine below_set ?_ GE243.out | refine below_set ?_ GE244.out | refine below_set ?_ GE257.out) | exact HB.out)⟩⟩
                 ·
                  rw [if_neg c103] at H
                  have c103b0 : decide ((t262.length : Int) < t246) = false := decide_eq_false c103
                  clear c103
                  have H' := Aside0.mk H
                  clear H
                  obtain ⟨Ao105, co105, eo105⟩ := Kd.S_slice HO_20.out
                  subst eo105
                  go_wp2
                  go_meet
                  case rel => exact ⟨_, (decide ((t262.length : Int) < t260)), (by first | rfl | (simp; done) | (simp [*]; done)), H', ⟨by have := HJ7.out; have := HJ36.out; have := HJ69.out; first | omega | exact Nat.le_refl _⟩, ⟨by (with_reducible repeat (first | apply Kd.R_alloc | apply Kd.R_drewN | apply Kd.R_drew)); exact HO_11.out⟩, ⟨by (with_reducible repeat (first | refine blk_drewN ?_ _ | refine blk_drew ?_ | refine blk_alloc ?_ _)); exact BK236.out⟩, ⟨by (with_reducible repeat (first | refine blk_drewN ?_ _ | refine blk_drew ?_ | refine blk_alloc ?_ _)); exact BK237.out⟩, ⟨by (with_reducible repeat (first | refine blk_drewN ?_ _ | refine blk_drew ?_ | refine blk_alloc ?_ _)); exact BK243.out⟩, ⟨by (with_reducible repeat (first | refine blk_drewN ?_ _ | refine blk_drew ?_ | refine blk_alloc ?_ _)); exact BK244.out⟩, ⟨by (with_reducible repeat (first | refine blk_drewN ?_ _ | refine blk_drew ?_ | refine blk_alloc ?_ _)); exact BK257.out⟩, ⟨by repeat (first | (with_reducible first | exact HB.out | apply below_alloc | apply pw_below_drewN | apply below_drew1 | refine below_set ?_ GE236.out | refine below_set ?_ GE237.out | refine below_set ?_ GE243.out | refine below_set ?_ GE244.out | refine below_set ?_ GE257.out) | exact HB.out)⟩⟩
                ·
                 rw [if_neg c102] at H
                 have c102b0 : ((t262.length : Int) == t246) = false := beq_eq_false_iff_ne.mpr c102
                 have c102b1 : ((t262.length : Int) != t246) = true := bne_iff_ne.mpr c102
                 (first | rw [c102b0] | (simp only [i64_w, i32_w]; rw [c102b0]) | skip)
                 by_cases c106 : (t262.length : Int) = t260
                 ·
                  rw [if_pos c106] at H
                  have c106b0 : ((t262.length : Int) == t260) = true := beq_iff_eq.mpr c106
                  have c106b1 : ((t262.length : Int) != t260) = false := bne_eq_false_iff_eq.mpr c106
                  clear c106
                  by_cases c107 : (t262.length : Int) < t246
                  ·
                   rw [if_pos c107] at H
                   have c107b0 : decide ((t262.length : Int) < t246) = true := decide_eq_true c107
                   clear c107
                   have H' := Aside0.mk H
                   clear H
                   obtain ⟨Ao108, co108, eo108⟩ := Kd.S_slice HO_20.out
                   subst eo108
                   go_wp2
                   go_meet
                   case rel => exact ⟨_, (true), (by first | rfl | (simp; done) | (simp [*]; done)), H', ⟨by have := HJ7.out; have := HJ36.out; have := HJ69.out; first | omega | exact Nat.le_refl _⟩, ⟨by (with_reducible repeat (first | apply Kd.R_alloc | apply Kd.R_drewN | apply Kd.R_drew)); exact HO_11.out⟩, ⟨by (with_reducible repeat (first | refine blk_drewN ?_ _ | refine blk_drew ?_ | refine blk_alloc ?_ _)); exact BK236.out⟩, ⟨by (with_reducible repeat (first | refine blk_drewN ?_ _ | refine blk_drew ?_ | refine blk_alloc ?_ _)); exact BK237.out⟩, ⟨by (with_reducible repeat (first | refine blk_drewN ?_ _ | refine blk_drew ?_ | refine blk_alloc ?_ _)); exact BK243.out⟩, ⟨by (with_reducible repeat (first | refine blk_drewN ?_ _ | refine blk_drew ?_ | refine blk_alloc ?_ _)); exact BK244.out⟩, ⟨by (with_reducible repeat (first | refine blk_drewN ?_ _ | refine blk_drew ?_ | refine blk_alloc ?_ _)); exact BK257.out⟩, ⟨by repeat (first | (with_reducible first | exact HB.out | apply below_alloc | apply pw_below_drewN | apply below_drew1 | refine below_set ?_ GE236.out | refine below_set ?_ GE237.out | refine below_set ?_ GE243.out | refine below_set ?_ GE244.out | refine below_set ?_ GE257.out) | exact HB.out)⟩⟩
                  ·
                   rw [if_neg c107] at H
                   have c107b0 : decide ((t262.length : Int) < t246) = false := decide_eq_false c107
                   clear c107
                   have H' := Aside0.mk H
                   clear H
                   obtain ⟨Ao109, co109, eo109⟩ := Kd.S_slice HO_20.out
                   subst eo109
                   go_wp2
                   go_meet
                   case rel => exact ⟨_, (decide ((t262.length : Int) < t260)), (by first | rfl | (simp; done) | (simp [*]; done)), H', ⟨by have := HJ7.out; have := HJ36.out; have := HJ69.out; first | omega | exact Nat.le_refl _⟩, ⟨by (with_reducible repeat (first | apply Kd.R_alloc | apply Kd.R_drewN | apply Kd.R_drew)); exact HO_11.out⟩, ⟨by (with_reducible repeat (first | refine blk_drewN ?_ _ | refine blk_drew ?_ | refine blk_alloc ?_ _)); exact BK236.out⟩, ⟨by (with_reducible repeat (first | refine blk_drewN ?_ _ | refine blk_drew ?_ | refine blk_alloc ?_ _)); exact BK237.out⟩, ⟨by (with_reducible repeat (first | refine blk_drewN ?_ _ | refine blk_drew ?_ | refine blk_alloc ?_ _)); exact BK243.out⟩, ⟨by (with_reducible repeat (first | refine blk_drewN ?_ _ | refine blk_drew ?_ | refine blk_alloc ?_ _)); exact BK244.out⟩, ⟨by (with_reducible repeat (first | refine blk_drewN ?_ _ | refine blk_drew ?_ | refine blk_alloc ?_ _)); exact BK257.out⟩, ⟨by repeat (first | (with_reducible first | exact HB.out | apply below_alloc | apply pw_below_drewN | apply below_drew1 | refine below_set ?_ GE236.out | refine below_set ?_ GE237.out | refine below_set ?_ GE243.out | refine below_set ?_ GE244.out | refine below_set ?_ GE257.out) | exact HB.out)⟩⟩
                 ·
                  rw [if_neg c106] at H
                  have c106b0 : ((t262.length : Int) == t260) = false := beq_eq_false_iff_ne.mpr c106
                  have c106b1 : ((t262.length : Int) != t260) = true := bne_iff_ne.mpr c106
                  have H' := Aside0.mk H
                  clear H
                  obtain ⟨Ao110, co110, eo110⟩ := Kd.S_slice HO_20.out
                  subst eo110
                  go_wp2
                  go_meet
                  case rel => exact ⟨_, (true), (by first | rfl | (simp; done) | (simp [*]; done)), H', ⟨by have := HJ7.out; have := HJ36.out; have := HJ69.out; first | omega | exact Nat.le_refl _⟩, ⟨by (with_reducible repeat (first | apply Kd.R_alloc | apply Kd.R_drewN | apply Kd.R_drew)); exact HO_11.out⟩, ⟨by (with_reducible repeat (first | refine blk_drewN ?_ _ | refine blk_drew ?_ | refine blk_alloc ?_ _)); exact BK236.out⟩, ⟨by (with_reducible repeat (first | refine blk_drewN ?_ _ | refine blk_drew ?_ | refine blk_alloc ?_ _)); exact BK237.out⟩, ⟨by (with_reducible repeat (first | refine blk_drewN ?_ _ | refine blk_drew ?_ | refine blk_alloc ?_ _)); exact BK243.out⟩, ⟨by (with_reducible repeat (first | refine blk_drewN ?_ _ | refine blk_drew ?_ | refine blk_alloc ?_ _)); exact BK244.out⟩, ⟨by (with_reducible repeat (first | refine blk_drewN ?_ _ | refine blk_drew ?_ | refine blk_alloc ?_ _)); exact BK257.out⟩, ⟨by repeat (first | (with_reducible first | exact HB.out | apply below_alloc | apply pw_below_drewN | apply below_drew1 | refine below_set ?_ GE236.out | refine below_set ?_ GE237.out | refine below_set ?_ GE243.out | refine below_set ?_ GE244.out | refine below_set ?_ GE257.out) | exact HB.out)⟩⟩
               ·
                replace c101 := Bool.eq_false_iff.mpr c101
                subst c101
                have H1 : (laws_FnHomeward.j3 kj69 t246 t248 t252 false t231 t232 t233 t234 t235 t254 t255 t256) = some r := by rw [if_neg (show ¬ (false = true) by decide)] at H; exact H
                clear H
                have H := H1
                clear H1
                have H' := Aside0.mk H
                clear H
                go_wp2
                go_meet
                case rel => exact ⟨_, (false), (by first | rfl | (simp; done) | (simp [*]; done)), H', ⟨by have := HJ7.out; have := HJ36.out; have := HJ69.out; first | omega | exact Nat.le_refl _⟩, ⟨by (with_reducible repeat (first | apply Kd.R_alloc | apply Kd.R_drewN | apply Kd.R_drew)); exact HO_11.out⟩, ⟨by (with_reducible repeat (first | refine blk_drewN ?_ _ | refine blk_drew ?_ | refine blk_alloc ?_ _)); exact BK236.out⟩, ⟨by (with_reducible repeat (first | refine blk_drewN ?_ _ | refine blk_drew ?_ | refine blk_alloc ?_ _)); exact BK237.out⟩, ⟨by (with_reducible repeat (first | refine blk_drewN ?_ _ | refine blk_drew ?_ | refine blk_alloc ?_ _)); exact BK243.out⟩, ⟨by (with_reducible repeat (first | refine blk_drewN ?_ _ | refine blk_drew ?_ | refine blk_alloc ?_ _)); exact BK244.out⟩, ⟨by (with_reducible repeat (first | refine blk_drewN ?_ _ | refine blk_drew ?_ | refine blk_alloc ?_ _)); exact BK257.out⟩, ⟨by repeat (first | (with_reducible first | exact HB.out | apply below_alloc | apply pw_below_drewN | apply below_drew1 | refine below_set ?_ GE236.out | refine below_set ?_ GE237.out | refine below_set ?_ GE243.out | refine below_set ?_ GE244.out | refine below_set ?_ GE257.out) | exact HB.out)⟩⟩
             case rest =>
              as_aux_lemma =>
               clear HC100
               try clear c1
               try clear c2
               try clear p2
               try clear c3
               try clear c4
               try clear c5
               try clear c6
               try clear c7
               try clear c8
               try clear c9
               try clear c10
               try clear c12
               try clear c15
               try clear c18
               try clear c19
               try clear c20
               try clear c22
               try clear c23
               try clear c27
               try clear c28
               try clear c29
               try clear c30
               try clear c35
               try clear c37
               try clear c38
               try clear c39
               try clear c40
               try clear c41
               try clear c42
               try clear c43
               try clear c44
               try clear c55
               try clear c56
               try clear c57
               try clear c58
               try clear c62
               try clear c62b0
               try clear c62b1
               try clear c62b2
               try clear c63
               try clear c63b0
               try clear c63b1
               try clear c63b2
               try clear c64
               try clear c64b0
               try clear c64b1
               try clear c64b2
               try clear c65
               try clear c65b0
               try clear c65b1
               try clear c67
               try clear c71
               try clear c72
               try clear c73
               try clear c74
               try clear c76
               try clear c77
               try clear c78
               try clear c82
               try clear c83
               try clear c87
               try clear c88
               try clear c88b0
               try clear c88b1
               try clear c88b2
               try clear c89
               try clear c89b0
               try clear c89b1
               try clear c89b2
               try clear c90
               try clear c91
               try clear c92
               try clear c94
               try clear c95
               try clear c96
               try clear c97
               try clear c101
               try clear c102
               try clear c102b0
               try clear c102b1
               try clear c103
               try clear c103b0
               try clear c106
               try clear c106b0
               try clear c106b1
               try clear c107
               try clear c107b0
               try clear hcz13_0
               try clear hcz13_1
               try clear hcz14_0
               try clear hcz14_1
               try clear hcz14_2
               try clear hcz21_0
               try clear hcz21_1
               try clear hcz24_0
               try clear hcz24_1
               try clear hcz24_2
               try clear hcz25_0
               try clear hcz25_1
               try clear hcz31_0
               try clear hcz31_1
               try clear hcz31_2
               try clear hcz41_0
               try clear hcz41_1
               try clear hcz44_0
               try clear hcz44_1
               try clear hcz44_2
               try clear hcz46_0
               try clear hcz46_1
               try clear hcz47_0
               try clear hcz47_1
               try clear hcz47_2
               try clear hcz49_0
               try clear hcz49_1
               try clear hcz50_0
               try clear hcz50_1
               try clear hcz50_2
               try clear hcz52_0
               try clear hcz52_1
               try clear hcz52_2
               try clear hcz59_0
               try clear hcz59_1
               try clear hcz59_2
               try clear hcz60_0
               try clear hcz60_1
               try clear hcz75_0
               try clear hcz75_1
               try clear hcz79_0
               try clear hcz79_1
               try clear hcz79_2
               try clear hcz81_0
               try clear hcz81_1
               try clear hcz84_0
               try clear hcz84_1
               try clear hcz84_2
               try clear hcz85_0
               try clear hcz85_1
               try clear hcz85_2
               try clear hcz98_0
               try clear hcz98_1
               try clear hfz13_0
               try clear hfz13_1
               try clear hfz14_0
               try clear hfz14_1
               try clear hfz14_2
               try clear hfz21_0
               try clear hfz21_1
               try clear hfz24_0
               try clear hfz24_1
               try clear hfz24_2
               try clear hfz25_0
               try clear hfz25_1
               try clear hfz31_0
               try clear hfz31_1
               try clear hfz31_2
               try clear hfz41_0
               try clear hfz41_1
               try clear hfz44_0
               try clear hfz44_1
               try clear hfz44_2
               try clear hfz46_0
               try clear hfz46_1
               try clear hfz47_0
               try clear hfz47_1
               try clear hfz47_2
               try clear hfz49_0
               try clear hfz49_1
               try clear hfz50_0
               try clear hfz50_1
               try clear hfz50_2
               try clear hfz52_0
               try clear hfz52_1
               try clear hfz52_2
               try clear hfz59_0
               try clear hfz59_1
               try clear hfz59_2
               try clear hfz60_0
               try clear hfz60_1
               try clear hfz75_0
               try clear hfz75_1
               try clear hfz79_0
               try clear hfz79_1
               try clear hfz79_2
               try clear hfz81_0
               try clear hfz81_1
               try clear hfz84_0
               try clear hfz84_1
               try clear hfz84_2
               try clear hfz85_0
               try clear hfz85_1
               try clear hfz85_2
               try clear hfz98_0
               try clear hfz98_1
               try clear p2
               obtain ⟨kq, x159_99, rfl, HA, HJ99, HO_11, BK236, BK237, BK243, BK244, BK257, HB⟩ := hcut
               cases kq with
               | zero => exact absurd HA.out (by simp [laws_FnHomeward.j3])
               | succ kj99 =>
                have H := HA.out
                clear HA
                simp only [laws_FnHomeward.j3] at H
                by_cases c111 : x159_99 = true
                ·
                 subst c111
                 have H1 : (some false) = some r := by rw [if_pos rfl] at H; exact H
                 clear H
                 have H := H1
                 clear H1
                 obtain rfl := Option.some.inj H
                 go_wp2
                 go_ret
                 exact ⟨by first | rfl | (simp [errW_none, errW_some] <;> rfl) | (simp [*, errW_none, errW_some] <;> rfl), by repeat (first | (with_reducible first | exact HB.out | apply below_alloc | apply pw_below_drewN | apply below_drew1 | refine below_set ?_ GE236.out | refine below_set ?_ GE237.out | refine below_set ?_ GE243.out | refine below_set ?_ GE244.out | refine below_set ?_ GE257.out) | exact HB.out)⟩
                ·
                 replace c111 := Bool.eq_false_iff.mpr c111
                 subst c111
                 have H1 : ((impl_RunCourse.f kj99 t231 t232 t233 t234 t235 t248).bind fun bt267 => (if bt267.2 = true then (if (bt267.1.length : Int) = t246 then (if t246 > 0 then (if 0 ≤ (wrap64 (t246 - 1)) then (if (wrap64 (t246 - 1)) < (bt267.1.length : Int) then (laws_FnHomeward.j4 kj99 t246 t248 t252 bt267.1 (!(((rd_T24 bt267.1 (wrap64 (t246 - 1))).f0) == 0) || (!(((rd_T24 bt267.1 (wrap64 (t246 - 1))).f1) == 0) || (!(((rd_T24 bt267.1 (wrap64 (t246 - 1))).f2) == 0)))) t231 t232 t233 t234 t235 t254 t255 t256) else (none)) else (none)) else (laws_FnHomeward.j4 kj99 t246 t248 t252 bt267.1 false t231 t232 t233 t234 t235 t254 t255 t256)) else (laws_FnHomeward.j4 kj99 t246 t248 t252 bt267.1 true t231 t232 t233 t234 t235 t254 t255 t256)) else (laws_FnHomeward.j4 kj99 t246 t248 t252 bt267.1 true t231 t232 t233 t234 t235 t254 t255 t256))) = some r := by rw [if_neg (show ¬ (false = true) by decide)] at H; exact H
                 clear H
                 have H := H1
                 clear H1
                 replace H := Option.bind_eq_some_iff.mp H
                 obtain ⟨⟨t267, t270⟩, A1120, H⟩ := H
                 replace H : (if t270 = true then (if (t267.length : Int) = t246 then (if t246 > 0 then (if 0 ≤ (wrap64 (t246 - 1)) then (if (wrap64 (t246 - 1)) < (t267.length : Int) then (laws_FnHomeward.j4 kj99 t246 t248 t252 t267 (!(((rd_T24 t267 (wrap64 (t246 - 1))).f0) == 0) || (!(((rd_T24 t267 (wrap64 (t246 - 1))).f1) == 0) || (!(((rd_T24 t267 (wrap64 (t246 - 1))).f2) == 0)))) t231 t232 t233 t234 t235 t254 t255 t256) else (none)) else (none)) else (laws_FnHomeward.j4 kj99 t246 t248 t252 t267 false t231 t232 t233 t234 t235 t254 t255 t256)) else (laws_FnHomeward.j4 kj99 t246 t248 t252 t267 true t231 t232 t233 t234 t235 t254 t255 t256)) else (laws_FnHomeward.j4 kj99 t246 t248 t252 t267 true t231 t232 t233 t234 t235 t254 t255 t256)) = some r := H
                 have A112 := Aside0.mk A1120
                 clear A1120
                 have HC113 := Aside0.mk H
                 clear H
                 have hnb114 := NB236_237.out
                 have hnc114 := NB237_236.out
                 have hnb115 := NB236_243.out
                 have hnc115 := NB243_236.out
                 have hnb116 := NB236_244.out
                 have hnc116 := NB244_236.out
                 have hnb117 := NB236_257.out
                 have hnc117 := NB257_236.out
                 have hcz118_0 : wc.cell? ⟨gb236, 0, none⟩ = some (.int .i64 t231) := (blk_cell BK236.out 0).trans rfl
                 have hcz118_1 : wc.cell? ⟨gb236, 1, none⟩ = some (.int .i64 t232) := (blk_cell BK236.out 1).trans rfl
                 have hfz118_0 := blk_frozen BK236.out 0
                 have hfz118_1 := blk_frozen BK236.out 1
                 have hnb119 := NB237_243.out
                 have hnc119 := NB243_237.out
                 have hnb120 := NB237_244.out
                 have hnc120 := NB244_237.out
                 have hnb121 := NB237_257.out
                 have hnc121 := NB257_237.out
                 have hcz122_0 : wc.cell? ⟨gb237, 0, none⟩ = some (.int .i64 t233) := (blk_cell BK237.out 0).trans rfl
                 have hcz122_1 : wc.cell? ⟨gb237, 1, none⟩ = some (.int .i64 t234) := (blk_cell BK237.out 1).trans rfl
                 have hcz122_2 : wc.cell? ⟨gb237, 2, none⟩ = some (.int .i64 t235) := (blk_cell BK237.out 2).trans rfl
                 have hfz122_0 := blk_frozen BK237.out 0
                 have hfz122_1 := blk_frozen BK237.out 1
                 have hfz122_2 := blk_frozen BK237.out 2
                 obtain ⟨Ao123, co123, eo123⟩ := Kd.R_slice HO_11.out
                 subst eo123
                 go_upto_region 21 with (first | ((with_reducible refine gate_callee (f := 30) rfl ?_); refine goesL_ (some 164) rfl rfl Try.func30 (by kernel_rfl) rfl #[.agg #[.int .i64 t231, .int .i64 t232], .agg #[.int .i64 t233, .int .i64 t234, .int .i64 t235], .slice Ao123 t248.length co123] rfl (by (try simp only [List.map_toArray, List.map_cons, List.map_nil]); first | done | rfl | (simp only [List.length_drop, List.length_take]; rfl)) ?_; (with_reducible refine (impl_RunCourse.calls kj99 t231 t232 t233 t234 t235 _ _ t248 t267 t270 _ ?side1 ?side2 A112.out).mono ?_); (case side1 => repeat (first | exact (Kd.R_reads' HO_11.out).2.2 | (with_reducible refine Kd.C_alloc ?_ _) | (with_reducible refine Kd.C_drewN ?_ _) | (with_reducible refine Kd.C_drew ?_))); (case side2 => exact (Kd.R_reads' HO_11.out).2.1); rintro e w124 ⟨v268, rfl, ho0, hb⟩; refine ⟨_, rfl, ?_⟩; have n0_ := Aside0.mk (Kd.R_below (by (with_reducible repeat (first | apply Kd.R_alloc | apply Kd.R_drewN | apply Kd.R_drew)); exact HO_11.out) hb); have n1_ := Aside0.mk (Kd.R_lower (Kd.R_newB (Kd.R_newB (Kd.R_newB ho0 (g := gb237) (o := .cells #[.int .i64 t233, .int .i64 t234, .int .i64 t235] 24 (0, 0)) (by (with_reducible repeat (first | refine blk_drewN ?_ _ | refine blk_drew ?_ | refine blk_alloc ?_ _)); exact BK237.out)) (g := gb244) (o := .cells #[.int .i64 x245000_7, .int .i64 x245001_7, .int .i64 x245002_7] 24 (0, 0)) (by (with_reducible repeat (first | refine blk_drewN ?_ _ | refine blk_drew ?_ | refine blk_alloc ?_ _)); exact BK244.out)) (g := gb257) (o := .cells #[.int .i64 t254, .int .i64 t255, .int .i64 t256] 24 (0, 0)) (by (with_reducible repeat (first | refine blk_drewN ?_ _ | refine blk_drew ?_ | refine blk_alloc ?_ _)); exact BK257.out)) (below_size (by repeat (first | (with_reducible first | exact HB.out | apply below_alloc | apply pw_below_drewN | apply below_drew1 | refine below_set ?_ GE236.out | refine below_set ?_ GE237.out | refine below_set ?_ GE243.out | refine below_set ?_ GE244.out | refine below_set ?_ GE257.out) | exact HB.out)))); have n2_ := Aside0.mk (blk_below (g := gb236) (o := .cells #[.int .i64 t231, .int .i64 t232] 40 (0, 0)) (by (with_reducible repeat (first | refine blk_drewN ?_ _ | refine blk_drew ?_ | refine blk_alloc ?_ _)); exact BK236.out) hb); have n3_ := Aside0.mk (blk_below (g := gb237) (o := .cells #[.int .i64 t233, .int .i64 t234, .int .i64 t235] 24 (0, 0)) (by (with_reducible repeat (first | refine blk_drewN ?_ _ | refine blk_drew ?_ | refine blk_alloc ?_ _)); exact BK237.out) hb); have n4_ := Aside0.mk (blk_below (g := gb243) (o := .cells #[.int .i64 t238, .int .i64 t239] 40 (0, 0)) (by (with_reducible repeat (first | refine blk_drewN ?_ _ | refine blk_drew ?_ | refine blk_alloc ?_ _)); exact BK243.out) hb); have n5_ := Aside0.mk (blk_below (g := gb244) (o := .cells #[.int .i64 x245000_7, .int .i64 x245001_7, .int .i64 x245002_7] 24 (0, 0)) (by (with_reducible repeat (first | refine blk_drewN ?_ _ | refine blk_drew ?_ | refine blk_alloc ?_ _)); exact BK244.out) hb); have n6_ := Aside0.mk (blk_below (g := gb257) (o := .cells #[.int .i64 t254, .int .i64 t255, .int .i64 t256] 24 (0, 0)) (by (with_reducible repeat (first | refine blk_drewN ?_ _ | refine blk_drew ?_ | refine blk_alloc ?_ _)); exact BK257.out) hb); have n7_ := Aside0.mk (below_step (by repeat (first | (with_reducible first | exact HB.out | apply below_alloc | apply pw_below_drewN | apply below_drew1 | refine below_set ?_ GE236.out | refine below_set ?_ GE237.out | refine below_set ?_ GE243.out | refine below_set ?_ GE244.out | refine below_set ?_ GE257.out) | exact HB.out)) hb); clear HO_11; clear BK236; clear BK237; clear BK243; clear BK244; clear BK257; clear HB; have HO_11 := n0_; have HO269 := n1_; have BK236 := n2_; have BK237 := n3_; have BK243 := n4_; have BK244 := n5_; have BK257 := n6_; have HB := n7_; clear n0_ n1_ n2_ n3_ n4_ n5_ n6_ n7_; (try clear hb); (try clear hb2); (try clear hk); (try clear hi); (try clear ho0)))
                 (try simp only [Act.put, List.setIfInBounds_toArray, List.set_cons_zero, List.set_cons_succ])
                 go_cut [187] (fun v187 wc => ∃ (kq : Nat) (x187_112 : Bool), v187 = .bool x187_112 ∧ Aside0 (laws_FnHomeward.j4 kq t246 t248 t252 t267 x187_112 t231 t232 t233 t234 t235 t254 t255 t256 = some r) ∧ Aside0 (kq ≤ kj99) ∧ Aside0 (Kd.R (Kd.int .i64) 2 wc w.heap.size (fun _ => True) (.slice Ao123 t248.length co123) t248) ∧ Aside0 (Kd.R k24 24 wc w.heap.size (fun k_ => k_ ≠ gb237 ∧ k_ ≠ gb244 ∧ k_ ≠ gb257) v268 t267) ∧ Aside0 (wc.heap[gb236]? = some (.cells #[.int .i64 t231, .int .i64 t232] 40 (0, 0))) ∧ Aside0 (wc.heap[gb237]? = some (.cells #[.int .i64 t233, .int .i64 t234, .int .i64 t235] 24 (0, 0))) ∧ Aside0 (wc.heap[gb243]? = some (.cells #[.int .i64 t238, .int .i64 t239] 40 (0, 0))) ∧ Aside0 (wc.heap[gb244]? = some (.cells #[.int .i64 x245000_7, .int .i64 x245001_7, .int .i64 x245002_7] 24 (0, 0))) ∧ Aside0 (wc.heap[gb257]? = some (.cells #[.int .i64 t254, .int .i64 t255, .int .i64 t256] 24 (0, 0))) ∧ Aside0 (Below w.heap.size w wc))
                 case first =>
                  as_aux_lemma =>
                   have H := HC113.out
                   clear HC113
                   by_cases c125 : t270 = true
                   ·
                    subst c125
                    have H1 : (if (t267.length : Int) = t246 then (if t246 > 0 then (if 0 ≤ (wrap64 (t246 - 1)) then (if (wrap64 (t246 - 1)) < (t267.length : Int) then (laws_FnHomeward.j4 kj99 t246 t248 t252 t267 (!(((rd_T24 t267 (wrap64 (t246 - 1))).f0) == 0) || (!(((rd_T24 t267 (wrap64 (t246 - 1))).f1) == 0) || (!(((rd_T24 t267 (wrap64 (t246 - 1))).f2) == 0)))) t231 t232 t233 t234 t235 t254 t255 t256) else (none)) else (none)) else (laws_FnHomeward.j4 kj99 t246 t248 t252 t267 false t231 t232 t233 t234 t235 t254 t255 t256)) else (laws_FnHomeward.j4 kj99 t246 t248 t252 t267 true t231 t232 t233 t234 t235 t254 t255 t256)) = some r := by rw [if_pos rfl] at H; exact H
                    clear H
                    have H := H1
                    clear H1
                    by_cases c126 : (t267.length : Int) = t246
                    ·
                     rw [if_pos c126] at H
                     have c126b0 : ((t267.length : Int) == t246) = true := beq_iff_eq.mpr c126
                     have c126b1 : ((t267.length : Int) != t246) = false := bne_eq_false_iff_eq.mpr c126
                     clear c126
                     (first | rw [c126b0] | (simp only [i64_w, i32_w]; rw [c126b0]) | skip)
                     by_cases c127 : t246 > 0
                     ·
                      rw [if_pos c127] at H
                      have c127b0 : decide (0 < t246) = true := decide_eq_true c127
                      clear c127
                      obtain ⟨ji128, hji128⟩ : ∃ j_ : Int, (wrap64 (t246 - 1)) = j_ := ⟨_, rfl⟩
                      replace H : (if 0 ≤ (ji128) then (if (ji128) < (t267.length : Int) then (laws_FnHomeward.j4 kj99 t246 t248 t252 t267 (!(((rd_T24 t267 (ji128)).f0) == 0) || (!(((rd_T24 t267 (ji128)).f1) == 0) || (!(((rd_T24 t267 (ji128)).f2) == 0)))) t231 t232 t233 t234 t235 t254 t255 t256) else (none)) else (none)) = some r := by first | (rw [hji128] at H; exact H) | (simp only [hji128] at H ⊢; exact H)
                      have hji128w : (IntKind.i64.wrap (t246 - 1)) = ji128 := (i64_w _).trans hji128
                      by_cases c129 : 0 ≤ (ji128)
                      ·
                       rw [if_pos c129] at H
                       have c129b0 : decide (0 ≤ (ji128)) = true := decide_eq_true c129
                       clear c129
                       by_cases c130 : (ji128) < (t267.length : Int)
                       ·
                        rw [if_pos c130] at H
                        have c130b0 : decide ((ji128) < (t267.length : Int)) = true := decide_eq_true c130
                        clear c130
                        have H' := Aside0.mk H
                        clear H
                        obtain ⟨Ao131, co131, eo131⟩ := Kd.R_slice HO269.out
                        subst eo131
                        have p271 : 0 ≤ ((ji128) : Int) := of_decide_eq_true (by first | (with_reducible assumption) | assumption)
                        have q271 : (ji128) < (t267.length : Int) := of_decide_eq_true (by first | (with_reducible assumption) | assumption)
                        obtain ⟨ad271, e271, hx271_0, hx271_1, hx271_2⟩ := at_T24 (Kd.R_reads' HO269.out).2.2 (ji128) p271 q271
                        cases e271
                        replace p271 := eq_true p271
                        replace q271 := eq_true q271
                        go_wp2
                        go_meet
                        case rel => exact ⟨_, ((!(((rd_T24 t267 (ji128)).f0) == 0) || (!(((rd_T24 t267 (ji128)).f1) == 0) || (!(((rd_T24 t267 (ji128)).f2) == 0))))), (by first | rfl | (simp; done) | (simp only [← hji128] <;> (first | rfl | simp)) | (simp [*]; done)), H', ⟨by have := HJ7.out; have := HJ36.out; have := HJ69.out; have := HJ99.out; first | omega | exact Nat.le_refl _⟩, ⟨by (with_reducible repeat (first | apply Kd.R_alloc | apply Kd.R_drewN | apply Kd.R_drew)); exact HO_11.out⟩, ⟨by (with_reducible repeat (first | apply Kd.R_alloc | apply Kd.R_drewN | apply Kd.R_drew)); exact Kd.R_mono HO269.out (fun _ hk => ⟨hk.1.1.2, ⟨hk.1.2, hk.2⟩⟩)⟩, ⟨by (with_reducible repeat (first | refine blk_drewN ?_ _ | refine blk_drew ?_ | refine blk_alloc ?_ _)); exact BK236.out⟩, ⟨by (with_reducible repeat (first | refine blk_drewN ?_ _ | refine blk_drew ?_ | refine blk_alloc ?_ _)); exact BK237.out⟩, ⟨by (with_reducible repeat (first | refine blk_drewN ?_ _ | refine blk_drew ?_ | refine blk_alloc ?_ _)); exact BK243.out⟩, ⟨by (with_reducible repeat (first | refine blk_drewN ?_ _ | refine blk_drew ?_ | refine blk_alloc ?_ _)); exact BK244.out⟩, ⟨by (with_reducible repeat (first | refine blk_drewN ?_ _ | refine blk_drew ?_ | refine blk_alloc ?_ _)); exact BK257.out⟩, ⟨by repeat (first | (with_reducible first | exact HB.out | apply below_alloc | apply pw_below_drewN | apply below_drew1 | refine below_set ?_ GE236.out | refine below_set ?_ GE237.out | refine below_set ?_ GE243.out | refine below_set ?_ GE244.out | refine below_set ?_ GE257.out) | exact HB.out)⟩⟩
                       ·
                        rw [if_neg c130] at H
                        exact absurd H (by simp)
                      ·
                       rw [if_neg c129] at H
                       exact absurd H (by simp)
                     ·
                      rw [if_neg c127] at H
                      have c127b0 : decide (0 < t246) = false := decide_eq_false c127
                      clear c127
                      have H' := Aside0.mk H
                      clear H
                      obtain ⟨Ao132, co132, eo132⟩ := Kd.R_slice HO269.out
                      subst eo132
                      go_wp2
                      go_meet
                      case rel => exact ⟨_, (false), (by first | rfl | (simp; done) | (simp [*]; done)), H', ⟨by have := HJ7.out; have := HJ36.out; have := HJ69.out; have := HJ99.out; first | omega | exact Nat.le_refl _⟩, ⟨by (with_reducible repeat (first | apply Kd.R_alloc | apply Kd.R_drewN | apply Kd.R_drew)); exact HO_11.out⟩, ⟨by (with_reducible repeat (first | apply Kd.R_alloc | apply Kd.R_drewN | apply Kd.R_drew)); exact Kd.R_mono HO269.out (fun _ hk => ⟨hk.1.1.2, ⟨hk.1.2, hk.2⟩⟩)⟩, ⟨by (with_reducible repeat (first | refine blk_drewN ?_ _ | refine blk_drew ?_ | refine blk_alloc ?_ _)); exact BK236.out⟩, ⟨by (with_reducible repeat (first | refine blk_drewN ?_ _ | refine blk_drew ?_ | refine blk_alloc ?_ _)); exact BK237.out⟩, ⟨by (with_reducible repeat (first | refine blk_drewN ?_ _ | refine blk_drew ?_ | refine blk_alloc ?_ _)); exact BK243.out⟩, ⟨by (with_reducible repeat (first | refine blk_drewN ?_ _ | refine blk_drew ?_ | refine blk_alloc ?_ _)); exact BK244.out⟩, ⟨by (with_reducible repeat (first | refine blk_drewN ?_ _ | refine blk_drew ?_ | refine blk_alloc ?_ _)); exact BK257.out⟩, ⟨by repeat (first | (with_reducible first | exact HB.out | apply below_alloc | apply pw_below_drewN | apply below_drew1 | refine below_set ?_ GE236.out | refine below_set ?_ GE237.out | refine below_set ?_ GE243.out | refine below_set ?_ GE244.out | refine below_set ?_ GE257.out) | exact HB.out)⟩⟩
                    ·
                     rw [if_neg c126] at H
                     have c126b0 : ((t267.length : Int) == t246) = false := beq_eq_false_iff_ne.mpr c126
                     have c126b1 : ((t267.length : Int) != t246) = true := bne_iff_ne.mpr c126
                     (first | rw [c126b0] | (simp only [i64_w, i32_w]; rw [c126b0]) | skip)
                     have H' := Aside0.mk H
                     clear H
                     obtain ⟨Ao133, co133, eo133⟩ := Kd.R_slice HO269.out
                     subst eo133
                     go_wp2
                     go_meet
                     case rel => exact ⟨_, (true), (by first | rfl | (simp; done) | (simp [*]; done)), H', ⟨by have := HJ7.out; have := HJ36.out; have := HJ69.out; have := HJ99.out; first | omega | exact Nat.le_refl _⟩, ⟨by (with_reducible repeat (first | apply Kd.R_alloc | apply Kd.R_drewN | apply Kd.R_drew)); exact HO_11.out⟩, ⟨by (with_reducible repeat (first | apply Kd.R_alloc | apply Kd.R_drewN | apply Kd.R_drew)); exact Kd.R_mono HO269.out (fun _ hk => ⟨hk.1.1.2, ⟨hk.1.2, hk.2⟩⟩)⟩, ⟨by (with_reducible repeat (first | refine blk_drewN ?_ _ | refine blk_drew ?_ | refine blk_alloc ?_ _)); exact BK236.out⟩, ⟨by (with_reducible repeat (first | refine blk_drewN ?_ _ | refine blk_drew ?_ | refine blk_alloc ?_ _)); exact BK237.out⟩, ⟨by (with_reducible repeat (first | refine blk_drewN ?_ _ | refine blk_drew ?_ | refine blk_alloc ?_ _)); exact BK243.out⟩, ⟨by (with_reducible repeat (first | refine blk_drewN ?_ _ | refine blk_drew ?_ | refine blk_alloc ?_ _)); exact BK244.out⟩, ⟨by (with_reducible repeat (first | refine blk_drewN ?_ _ | refine blk_drew ?_ | refine blk_alloc ?_ _)); exact BK257.out⟩, ⟨by repeat (first | (with_reducible first | exact HB.out | apply below_alloc | apply pw_below_drewN | apply below_drew1 | refine below_set ?_ GE236.out | refine below_set ?_ GE237.out | refine below_set ?_ GE243.out | refine below_set ?_ GE244.out | refine below_set ?_ GE257.out) | exact HB.out)⟩⟩
                   ·
                    replace c125 := Bool.eq_false_iff.mpr c125
                    subst c125
                    have H1 : (laws_FnHomeward.j4 kj99 t246 t248 t252 t267 true t231 t232 t233 t234 t235 t254 t255 t256) = some r := by rw [if_neg (show ¬ (false = true) by decide)] at H; exact H
                    clear H
                    have H := H1
                    clear H1
                    have H' := Aside0.mk H
                    clear H
                    go_wp2
                    go_meet
                    case rel => exact ⟨_, (true), (by first | rfl | (simp; done) | (simp [*]; done)), H', ⟨by have := HJ7.out; have := HJ36.out; have := HJ69.out; have := HJ99.out; first | omega | exact Nat.le_refl _⟩, ⟨by (with_reducible repeat (first | apply Kd.R_alloc | apply Kd.R_drewN | apply Kd.R_drew)); exact HO_11.out⟩, ⟨by (with_reducible repeat (first | apply Kd.R_alloc | apply Kd.R_drewN | apply Kd.R_drew)); exact Kd.R_mono HO269.out (fun _ hk => ⟨hk.1.1.2, ⟨hk.1.2, hk.2⟩⟩)⟩, ⟨by (with_reducible repeat (first | refine blk_drewN ?_ _ | refine blk_drew ?_ | refine blk_alloc ?_ _)); exact BK236.out⟩, ⟨by (with_reducible repeat (first | refine blk_drewN ?_ _ | refine blk_drew ?_ | refine blk_alloc ?_ _)); exact BK237.out⟩, ⟨by (with_reducible repeat (first | refine blk_drewN ?_ _ | refine blk_drew ?_ | refine blk_alloc ?_ _)); exact BK243.out⟩, ⟨by (with_reducible repeat (first | refine blk_drewN ?_ _ | refine blk_drew ?_ | refine blk_alloc ?_ _)); exact BK244.out⟩, ⟨by (with_reducible repeat (first | refine blk_drewN ?_ _ | refine blk_drew ?_ | refine blk_alloc ?_ _)); exact BK257.out⟩, ⟨by repeat (first | (with_reducible first | exact HB.out | apply below_alloc | apply pw_below_drewN | apply below_drew1 | refine below_set ?_ GE236.out | refine below_set ?_ GE237.out | refine below_set ?_ GE243.out | refine below_set ?_ GE244.out | refine below_set ?_ GE257.out) | exact HB.out)⟩⟩
                 case rest =>
                  as_aux_lemma =>
                   clear HC113
                   try clear c1
                   try clear c2
                   try clear p2
                   try clear q2
                   try clear hx2
                   try clear c3
                   try clear c4
                   try clear c5
                   try clear c6
                   try clear p6
                   try clear c7
                   try clear c8
                   try clear c9
                   try clear c10
                   try clear c11
                   try clear c12
                   try clear c13
                   try clear c15
                   try clear c18
                   try clear c19
                   try clear c20
                   try clear c22
                   try clear c23
                   try clear c27
                   try clear p27
                   try clear q27
                   try clear hx27
                   try clear c28
                   try clear c29
                   try clear c30
                   try clear c35
                   try clear c37
                   try clear c38
                   try clear c39
                   try clear c40
                   try clear c41
                   try clear c42
                   try clear c43
                   try clear c44
                   try clear c55
                   try clear c56
                   try clear c57
                   try clear c58
                   try clear c62
                   try clear c62b0
                   try clear c62b1
                   try clear c62b2
                   try clear c63
                   try clear c63b0
                   try clear c63b1
                   try clear c63b2
                   try clear c64
                   try clear c64b0
                   try clear c64b1
                   try clear c64b2
                   try clear p64
                   try clear c65
                   try clear c65b0
                   try clear c65b1
                   try clear c67
                   try clear c71
                   try clear c72
                   try clear c73
                   try clear c74
                   try clear c76
                   try clear c77
                   try clear c78
                   try clear c82
                   try clear c83
                   try clear c87
                   try clear c88
                   try clear c88b0
                   try clear c88b1
                   try clear c88b2
                   try clear c89
                   try clear c89b0
                   try clear c89b1
                   try clear c89b2
                   try clear c90
                   try clear c91
                   try clear c92
                   try clear c94
                   try clear c95
                   try clear c96
                   try clear c97
                   try clear c101
                   try clear c102
                   try clear c102b0
                   try clear c102b1
                   try clear c103
                   try clear c103b0
                   try clear c106
                   try clear c106b0
                   try clear c106b1
                   try clear c107
                   try clear c107b0
                   try clear c111
                   try clear c114
                   try clear c115
                   try clear c116
                   try clear c117
                   try clear c119
                   try clear c120
                   try clear c121
                   try clear c125
                   try clear c126
                   try clear c126b0
                   try clear c126b1
                   try clear c127
                   try clear c127b0
                   try clear c129
                   try clear c129b0
                   try clear c130
                   try clear c130b0
                   try clear hcz118_0
                   try clear hcz118_1
                   try clear hcz122_0
                   try clear hcz122_1
                   try clear hcz122_2
                   try clear hcz13_0
                   try clear hcz13_1
                   try clear hcz14_0
                   try clear hcz14_1
                   try clear hcz14_2
                   try clear hcz21_0
                   try clear hcz21_1
                   try clear hcz24_0
                   try clear hcz24_1
                   try clear hcz24_2
                   try clear hcz25_0
                   try clear hcz25_1
                   try clear hcz31_0
                   try clear hcz31_1
                   try clear hcz31_2
                   try clear hcz41_0
                   try clear hcz41_1
                   try clear hcz44_0
                   try clear hcz44_1
                   try clear hcz44_2
                   try clear hcz46_0
                   try clear hcz46_1
                   try clear hcz47_0
                   try clear hcz47_1
                   try clear hcz47_2
                   try clear hcz49_0
                   try clear hcz49_1
                   try clear hcz50_0
                   try clear hcz50_1
                   try clear hcz50_2
                   try clear hcz52_0
                   try clear hcz52_1
                   try clear hcz52_2
                   try clear hcz59_0
                   try clear hcz59_1
                   try clear hcz59_2
                   try clear hcz60_0
                   try clear hcz60_1
                   try clear hcz75_0
                   try clear hcz75_1
                   try clear hcz79_0
                   try clear hcz79_1
                   try clear hcz79_2
                   try clear hcz81_0
                   try clear hcz81_1
                   try clear hcz84_0
                   try clear hcz84_1
                   try clear hcz84_2
                   try clear hcz85_0
                   try clear hcz85_1
                   try clear hcz85_2
                   try clear hcz98_0
                   try clear hcz98_1
                   try clear hfz118_0
                   try clear hfz118_1
                   try clear hfz122_0
                   try clear hfz122_1
                   try clear hfz122_2
                   try clear hfz13_0
                   try clear hfz13_1
                   try clear hfz14_0
                   try clear hfz14_1
                   try clear hfz14_2
                   try clear hfz21_0
                   try clear hfz21_1
                   try clear hfz24_0
                   try clear hfz24_1
                   try clear hfz24_2
                   try clear hfz25_0
                   try clear hfz25_1
                   try clear hfz31_0
                   try clear hfz31_1
                   try clear hfz31_2
                   try clear hfz41_0
                   try clear hfz41_1
                   try clear hfz44_0
                   try clear hfz44_1
                   try clear hfz44_2
                   try clear hfz46_0
                   try clear hfz46_1
                   try clear hfz47_0
                   try clear hfz47_1
                   try clear hfz47_2
                   try clear hfz49_0
                   try clear hfz49_1
                   try clear hfz50_0
                   try clear hfz50_1
                   try clear hfz50_2
                   try clear hfz52_0
                   try clear hfz52_1
                   try clear hfz52_2
                   try clear hfz59_0
                   try clear hfz59_1
                   try clear hfz59_2
                   try clear hfz60_0
                   try clear hfz60_1
                   try clear hfz75_0
                   try clear hfz75_1
                   try clear hfz79_0
                   try clear hfz79_1
                   try clear hfz79_2
                   try clear hfz81_0
                   try clear hfz81_1
                   try clear hfz84_0
                   try clear hfz84_1
                   try clear hfz84_2
                   try clear hfz85_0
                   try clear hfz85_1
                   try clear hfz85_2
                   try clear hfz98_0
                   try clear hfz98_1
                   try clear hx271_0
                   try clear hx271_1
                   try clear hx271_2
                   try clear p2
                   try clear p271
                   try clear q271
                   obtain ⟨kq, x187_112, rfl, HA, HJ112, HO_11, HO_22, BK236, BK237, BK243, BK244, BK257, HB⟩ := hcut
                   cases kq with
                   | zero => exact absurd HA.out (by simp [laws_FnHomeward.j4])
                   | succ kj112 =>
                    have H := HA.out
                    clear HA
                    simp only [laws_FnHomeward.j4] at H
                    by_cases c134 : x187_112 = true
                    ·
                     subst c134
                     have H1 : (some false) = some r := by rw [if_pos rfl] at H; exact H
                     clear H
                     have H := H1
                     clear H1
                     obtain rfl := Option.some.inj H
                     go_wp2
                     go_ret
                     exact ⟨by first | rfl | (simp [errW_none, errW_some] <;> rfl) | (simp [*, errW_none, errW_some] <;> rfl), by repeat (first | (with_reducible first | exact HB.out | apply below_alloc | apply pw_below_drewN | apply below_drew1 | refine below_set ?_ GE236.out | refine below_set ?_ GE237.out | refine below_set ?_ GE243.out | refine below_set ?_ GE244.out | refine below_set ?_ GE257.out) | exact HB.out)⟩
                    ·
                     replace c134 := Bool.eq_false_iff.mpr c134
                     subst c134
                     have H1 : ((laws_b10Abs.f t233).bind fun t272 => (laws_FnHomeward.l0 kj112 t246 t248 t252 t267 t272 (([] : List Int)) 0 t231 t232 t254 t255 t256)) = some r := by rw [if_neg (show ¬ (false = true) by decide)] at H; exact H
                     clear H
                     have H := H1
                     clear H1
                     replace H := Option.bind_eq_some_iff.mp H
                     obtain ⟨t272, A1350, H⟩ := H
                     replace H : (laws_FnHomeward.l0 kj112 t246 t248 t252 t267 t272 (([] : List Int)) 0 t231 t232 t254 t255 t256) = some r := H
                     have A135 := Aside0.mk A1350
                     clear A1350
                     obtain ⟨y273, hy273⟩ : ∃ y_ : List Int, y_ = (([] : List Int)) := ⟨_, rfl⟩
                     replace H : (laws_FnHomeward.l0 kj112 t246 t248 t252 t267 t272 y273 0 t231 t232 t254 t255 t256) = some r := by first | (rw [hy273]; with_reducible exact H) | (have H2_ := (Option.bind_some _ _).symm.trans H; rw [hy273]; with_reducible exact H2_) | (have H2_ := (Option.bind_some _ _).symm.trans H; with_reducible exact H2_) | with_reducible exact H | (rw [hy273]; exact H) | exact H
                     have Ny273 := Aside0.mk hy273
                     clear hy273
                     have H' := Aside0.mk H
                     clear H
                     have hnb136 := NB237_236.out
                     have hnc136 := NB236_237.out
                     have hnb137 := NB237_243.out
                     have hnc137 := NB243_237.out
                     have hnb138 := NB237_244.out
                     have hnc138 := NB244_237.out
                     have hnb139 := NB237_257.out
                     have hnc139 := NB257_237.out
                     have hcz140_0 : wc.cell? ⟨gb237, 0, none⟩ = some (.int .i64 t233) := (blk_cell BK237.out 0).trans rfl
                     have hcz140_1 : wc.cell? ⟨gb237, 1, none⟩ = some (.int .i64 t234) := (blk_cell BK237.out 1).trans rfl
                     have hcz140_2 : wc.cell? ⟨gb237, 2, none⟩ = some (.int .i64 t235) := (blk_cell BK237.out 2).trans rfl
                     have hfz140_0 := blk_frozen BK237.out 0
                     have hfz140_1 := blk_frozen BK237.out 1
                     have hfz140_2 := blk_frozen BK237.out 2
                     go_wp2_with (first | ((with_reducible refine gate_callee (f := 46) rfl ?_); refine goesL_ (some 190) rfl rfl Try.func46 (by kernel_rfl) rfl #[.int .i64 t233] rfl (by (try simp only [List.map_toArray, List.map_cons, List.map_nil]); first | done | rfl | (simp only [List.length_drop, List.length_take]; rfl)) ?_; (with_reducible refine (laws_b10Abs.calls t233 t272 _ A135.out).mono ?_); rintro e w' ⟨rfl, ⟨nd, rfl⟩⟩; refine ⟨_, rfl, ?_⟩) | ((with_reducible refine gate_dst (N := 191) rfl ?_); (try (refine gate_guard (by rfl) ?_; dsimp only)); refine Kd.R_lit (Kd.int .i64) _ 2 ?hg (N := 191) ?hd (xs := ([] : List Int)) (inner := []) (ok := fun _ => True) (okp := fun _ => True) ?hr ?hp (fun _ hk => hk) trivial (Below.refl _ _) (Nat.le_refl _) (by simp) ?_; (case hd => rfl); (case hg => rfl); (case hr => first | (go_simp; done) | (go_simp; rfl)); (case hp => exact (Reps.none _ _)); intro v274 w141 ho142 hb hg_ hnew_; clear hg_ hnew_; (first | rw [← Ny273.out] at ho142 | (simp only [Int.reduceToNat] at ho142; rw [← Ny273.out] at ho142)); have n0_ := Aside0.mk (Kd.R_elder' (by (with_reducible repeat (first | apply Kd.R_alloc | apply Kd.R_drewN | apply Kd.R_drew)); exact HO_11.out) (Kd.R_base ho142) hb); have n1_ := Aside0.mk (Kd.R_below (by (with_reducible repeat (first | apply Kd.R_alloc | apply Kd.R_drewN | apply Kd.R_drew)); exact HO_22.out) hb); have n2_ := Aside0.mk (Kd.R_lower (Kd.R_new' ho142 (Kd.R_lt (by (with_reducible repeat (first | apply Kd.R_alloc | apply Kd.R_drewN | apply Kd.R_drew)); exact HO_11.out))) (below_size (by repeat (first | (with_reducible first | exact HB.out | apply below_alloc | apply pw_below_drewN | apply below_drew1 | refine below_set ?_ GE236.out | refine below_set ?_ GE237.out | refine below_set ?_ GE243.out | refine below_set ?_ GE244.out | refine below_set ?_ GE257.out) | exact HB.out)))); have n3_ := Aside0.mk (blk_below (g := gb236) (o := .cells #[.int .i64 t231, .int .i64 t232] 40 (0, 0)) (by (with_reducible repeat (first | refine blk_drewN ?_ _ | refine blk_drew ?_ | refine blk_alloc ?_ _)); exact BK236.out) hb); have n4_ := Aside0.mk (blk_below (g := gb237) (o := .cells #[.int .i64 t233, .int .i64 t234, .int .i64 t235] 24 (0, 0)) (by (with_reducible repeat (first | refine blk_drewN ?_ _ | refine blk_drew ?_ | refine blk_alloc ?_ _)); exact BK237.out) hb); have n5_ := Aside0.mk (blk_below (g := gb243) (o := .cells #[.int .i64 t238, .int .i64 t239] 40 (0, 0)) (by (with_reducible repeat (first | refine blk_drewN ?_ _ | refine blk_drew ?_ | refine blk_alloc ?_ _)); exact BK243.out) hb); have n6_ := Aside0.mk (blk_below (g := gb244) (o := .cells #[.int .i64 x245000_7, .int .i64 x245001_7, .int .i64 x245002_7] 24 (0, 0)) (by (with_reducible repeat (first | refine blk_drewN ?_ _ | refine blk_drew ?_ | refine blk_alloc ?_ _)); exact BK244.out) hb); have n7_ := Aside0.mk (blk_below (g := gb257) (o := .cells #[.int .i64 t254, .int .i64 t255, .int .i64 t256] 24 (0, 0)) (by (with_reducible repeat (first | refine blk_drewN ?_ _ | refine blk_drew ?_ | refine blk_alloc ?_ _)); exact BK257.out) hb); have n8_ := Aside0.mk (below_step (by repeat (first | (with_reducible first | exact HB.out | apply below_alloc | apply pw_below_drewN | apply below_drew1 | refine below_set ?_ GE236.out | refine below_set ?_ GE237.out | refine below_set ?_ GE243.out | refine below_set ?_ GE244.out | refine below_set ?_ GE257.out) | exact HB.out)) hb); clear HO_11; clear HO_22; clear BK236; clear BK237; clear BK243; clear BK244; clear BK257; clear HB; have HO_11 := n0_; have HO_22 := n1_; have HO275 := n2_; have BK236 := n3_; have BK237 := n4_; have BK243 := n5_; have BK244 := n6_; have BK257 := n7_; have HB := n8_; clear n0_ n1_ n2_ n3_ n4_ n5_ n6_ n7_ n8_; clear hb ho142))
                     go_loopg [24, 25, 26] kj112 (fun kq v24 v25 v26 w' => ∃ (x24_6 : Int) (x25_6 : List Int) (x26_6 : Int), v24 = .int .i64 x24_6 ∧ v26 = .int .i64 x26_6 ∧ Aside0 (laws_FnHomeward.l0 kq t246 t248 t252 t267 x24_6 x25_6 x26_6 t231 t232 t254 t255 t256 = some r) ∧ Aside0 (kq ≤ kj112) ∧ Aside0 (Kd.R (Kd.int .i64) 2 w' w.heap.size (fun k_ => some k_ ≠ (v25 : Value).ownBlock) (.slice Ao123 t248.length co123) t248) ∧ Aside0 (Kd.R k24 24 w' w.heap.size (fun k_ => k_ ≠ gb237 ∧ k_ ≠ gb244 ∧ k_ ≠ gb257) v268 t267) ∧ Aside0 (Kd.R (Kd.int .i64) 2 w' w.heap.size (fun k_ => some k_ ≠ ((.slice Ao123 t248.length co123) : Value).ownBlock) v25 x25_6) ∧ Aside0 (w'.heap[gb236]? = some (.cells #[.int .i64 t231, .int .i64 t232] 40 (0, 0))) ∧ Aside0 (w'.heap[gb237]? = some (.cells #[.int .i64 t233, .int .i64 t234, .int .i64 t235] 24 (0, 0))) ∧ Aside0 (w'.heap[gb243]? = some (.cells #[.int .i64 t238, .int .i64 t239] 40 (0, 0))) ∧ Aside0 (w'.heap[gb244]? = some (.cells #[.int .i64 x245000_7, .int .i64 x245001_7, .int .i64 x245002_7] 24 (0, 0))) ∧ Aside0 (w'.heap[gb257]? = some (.cells #[.int .i64 t254, .int .i64 t255, .int .i64 t256] 24 (0, 0))) ∧ Aside0 (Below w.heap.size w w'))
                     case atStart => exact ⟨(t272), (y273), (0), (by first | rfl | (simp; done) | (simp [*]; done)), (by first | rfl | (simp; done) | (simp [*]; done)), H', ⟨Nat.le_refl _⟩, ⟨by (with_reducible repeat (first | apply Kd.R_alloc | apply Kd.R_drewN | apply Kd.R_drew)); exact Kd.R_mono HO_11.out (fun _ hk => hk.2)⟩, ⟨by (with_reducible repeat (first | apply Kd.R_alloc | apply Kd.R_drewN | apply Kd.R_drew)); exact HO_22.out⟩, ⟨by (with_reducible repeat (first | apply Kd.R_alloc | apply Kd.R_drewN | apply Kd.R_drew)); exact Kd.R_mono HO275.out (fun _ hk => hk.2)⟩, ⟨by (with_reducible repeat (first | refine blk_drewN ?_ _ | refine blk_drew ?_ | refine blk_alloc ?_ _)); exact BK236.out⟩, ⟨by (with_reducible repeat (first | refine blk_drewN ?_ _ | refine blk_drew ?_ | refine blk_alloc ?_ _)); exact BK237.out⟩, ⟨by (with_reducible repeat (first | refine blk_drewN ?_ _ | refine blk_drew ?_ | refine blk_alloc ?_ _)); exact BK243.out⟩, ⟨by (with_reducible repeat (first | refine blk_drewN ?_ _ | refine blk_drew ?_ | refine blk_alloc ?_ _)); exact BK244.out⟩, ⟨by (with_reducible repeat (first | refine blk_drewN ?_ _ | refine blk_drew ?_ | refine blk_alloc ?_ _)); exact BK257.out⟩, ⟨by repeat (first | (with_reducible first | exact HB.out | apply below_alloc | apply pw_below_drewN | apply below_drew1 | refine below_set ?_ GE236.out | refine below_set ?_ GE237.out | refine below_set ?_ GE243.out | refine below_set ?_ GE244.out | refine below_set ?_ GE257.out) | exact HB.out)⟩⟩
                     case round =>
                      as_aux_lemma =>
                       clear H'
                       try clear c1
                       try clear c2
                       try clear p2
                       try clear q2
                       try clear hx2
                       try clear c3
                       try clear c4
                       try clear c5
                       try clear c6
                       try clear p6
                       try clear c7
                       try clear c8
                       try clear c9
                       try clear c10
                       try clear c11
                       try clear c12
                       try clear c13
                       try clear c15
                       try clear c18
                       try clear c19
                       try clear c20
                       try clear c22
                       try clear c23
                       try clear c27
                       try clear p27
                       try clear q27
                       try clear hx27
                       try clear c28
                       try clear c29
                       try clear c30
                       try clear c35
                       try clear c37
                       try clear c38
                       try clear c39
                       try clear c40
                       try clear c41
                       try clear c42
                       try clear c43
                       try clear c44
                       try clear c46
                       try clear c55
                       try clear c56
                       try clear c57
                       try clear c58
                       try clear c62
                       try clear c62b0
                       try clear c62b1
                       try clear c62b2
                       try clear c63
                       try clear c63b0
                       try clear c63b1
                       try clear c63b2
                       try clear c64
                       try clear c64b0
                       try clear c64b1
                       try clear c64b2
                       try clear p64
                       try clear c65
                       try clear c65b0
                       try clear c65b1
                       try clear c67
                       try clear c71
                       try clear c72
                       try clear c73
                       try clear c74
                       try clear c76
                       try clear c77
                       try clear c78
                       try clear c82
                       try clear c83
                       try clear c87
                       try clear c88
                       try clear c88b0
                       try clear c88b1
                       try clear c88b2
                       try clear c89
                       try clear c89b0
                       try clear c89b1
                       try clear c89b2
                       try clear c90
                       try clear c91
                       try clear c92
                       try clear c94
                       try clear c95
                       try clear c96
                       try clear c97
                       try clear c101
                       try clear c102
                       try clear c102b0
                       try clear c102b1
                       try clear c103
                       try clear c103b0
                       try clear c106
                       try clear c106b0
                       try clear c106b1
                       try clear c107
                       try clear c107b0
                       try clear c111
                       try clear c114
                       try clear c115
                       try clear c116
                       try clear c117
                       try clear c119
                       try clear c120
                       try clear c121
                       try clear c125
                       try clear c126
                       try clear c126b0
                       try clear c126b1
                       try clear c127
                       try clear c127b0
                       try clear c129
                       try clear c129b0
                       try clear c130
                       try clear c130b0
                       try clear c134
                       try clear c136
                       try clear c137
                       try clear c138
                       try clear c139
                       try clear hcz118_0
                       try clear hcz118_1
                       try clear hcz122_0
                       try clear hcz122_1
                       try clear hcz122_2
                       try clear hcz13_0
                       try clear hcz13_1
                       try clear hcz140_0
                       try clear hcz140_1
                       try clear hcz140_2
                       try clear hcz14_0
                       try clear hcz14_1
                       try clear hcz14_2
                       try clear hcz21_0
                       try clear hcz21_1
                       try clear hcz24_0
                       try clear hcz24_1
                       try clear hcz24_2
                       try clear hcz25_0
                       try clear hcz25_1
                       try clear hcz31_0
                       try clear hcz31_1
                       try clear hcz31_2
                       try clear hcz41_0
                       try clear hcz41_1
                       try clear hcz44_0
                       try clear hcz44_1
                       try clear hcz44_2
                       try clear hcz46_0
                       try clear hcz46_1
                       try clear hcz47_0
                       try clear hcz47_1
                       try clear hcz47_2
                       try clear hcz49_0
                       try clear hcz49_1
                       try clear hcz50_0
                       try clear hcz50_1
                       try clear hcz50_2
                       try clear hcz52_0
                       try clear hcz52_1
                       try clear hcz52_2
                       try clear hcz59_0
                       try clear hcz59_1
                       try clear hcz59_2
                       try clear hcz60_0
                       try clear hcz60_1
                       try clear hcz75_0
                       try clear hcz75_1
                       try clear hcz79_0
                       try clear hcz79_1
                       try clear hcz79_2
                       try clear hcz81_0
                       try clear hcz81_1
                       try clear hcz84_0
                       try clear hcz84_1
                       try clear hcz84_2
                       try clear hcz85_0
                       try clear hcz85_1
                       try clear hcz85_2
                       try clear hcz98_0
                       try clear hcz98_1
                       try clear hfz118_0
                       try clear hfz118_1
                       try clear hfz122_0
                       try clear hfz122_1
                       try clear hfz122_2
                       try clear hfz13_0
                       try clear hfz13_1
                       try clear hfz140_0
                       try clear hfz140_1
                       try clear hfz140_2
                       try clear hfz14_0
                       try clear hfz14_1
                       try clear hfz14_2
                       try clear hfz21_0
                       try clear hfz21_1
                       try clear hfz24_0
                       try clear hfz24_1
                       try clear hfz24_2
                       try clear hfz25_0
                       try clear hfz25_1
                       try clear hfz31_0
                       try clear hfz31_1
                       try clear hfz31_2
                       try clear hfz41_0
                       try clear hfz41_1
                       try clear hfz44_0
                       try clear hfz44_1
                       try clear hfz44_2
                       try clear hfz46_0
                       try clear hfz46_1
                       try clear hfz47_0
                       try clear hfz47_1
                       try clear hfz47_2
                       try clear hfz49_0
                       try clear hfz49_1
                       try clear hfz50_0
                       try clear hfz50_1
                       try clear hfz50_2
                       try clear hfz52_0
                       try clear hfz52_1
                       try clear hfz52_2
                       try clear hfz59_0
                       try clear hfz59_1
                       try clear hfz59_2
                       try clear hfz60_0
                       try clear hfz60_1
                       try clear hfz75_0
                       try clear hfz75_1
                       try clear hfz79_0
                       try clear hfz79_1
                       try clear hfz79_2
                       try clear hfz81_0
                       try clear hfz81_1
                       try clear hfz84_0
                       try clear hfz84_1
                       try clear hfz84_2
                       try clear hfz85_0
                       try clear hfz85_1
                       try clear hfz85_2
                       try clear hfz98_0
                       try clear hfz98_1
                       try clear hx271_0
                       try clear hx271_1
                       try clear hx271_2
                       try clear p2
                       try clear p27
                       try clear p271
                       try clear p6
                       try clear p64
                       try clear q2
                       try clear q27
                       try clear q271
                       obtain ⟨x24_6, x25_6, x26_6, rfl, rfl, HA, HK6, HO_11, HO_22, HO_25, BK236, BK237, BK243, BK244, BK257, HB⟩ := hrel
                       cases gk with
                       | zero => exact absurd HA.out (by simp [laws_FnHomeward.l0])
                       | succ k6 =>
                        have H := HA.out
                        clear HA
                        simp only [laws_FnHomeward.l0] at H
                        by_cases c143 : x26_6 < (t267.length : Int)
                        ·
                         rw [if_pos c143] at H
                         have c143b0 : decide (x26_6 < (t267.length : Int)) = true := decide_eq_true c143
                         clear c143
                         by_cases c144 : 0 ≤ x26_6
                         ·
                          rw [if_pos c144] at H
                          have c144b0 : decide (0 ≤ x26_6) = true := decide_eq_true c144
                          clear c144
                          replace H := Option.bind_eq_some_iff.mp H
                          obtain ⟨t282, A1450, H⟩ := H
                          replace H : (if t282 > x24_6 then ((laws_b10Abs.f ((rd_T24 t267 x26_6).f0)).bind fun t284 => (if x26_6 < (t248.length : Int) then (if x25_6.length < 17592186044416 then (laws_FnHomeward.l0 k6 t246 t248 t252 t267 t284 (x25_6 ++ [wrap64 (-(rd t248 x26_6))]) (wrap64 (x26_6 + 1)) t231 t232 t254 t255 t256) else (none)) else (none))) else (if x26_6 < (t248.length : Int) then (if x25_6.length < 17592186044416 then (laws_FnHomeward.l0 k6 t246 t248 t252 t267 x24_6 (x25_6 ++ [wrap64 (-(rd t248 x26_6))]) (wrap64 (x26_6 + 1)) t231 t232 t254 t255 t256) else (none)) else (none))) = some r := H
                          have A145 := Aside0.mk A1450
                          clear A1450
                          by_cases c146 : t282 > x24_6
                          ·
                           rw [if_pos c146] at H
                           have c146b0 : decide (x24_6 < t282) = true := decide_eq_true c146
                           clear c146
                           replace H := Option.bind_eq_some_iff.mp H
                           obtain ⟨t284, A1470, H⟩ := H
                           replace H : (if x26_6 < (t248.length : Int) then (if x25_6.length < 17592186044416 then (laws_FnHomeward.l0 k6 t246 t248 t252 t267 t284 (x25_6 ++ [wrap64 (-(rd t248 x26_6))]) (wrap64 (x26_6 + 1)) t231 t232 t254 t255 t256) else (none)) else (none)) = some r := H
                           have A147 := Aside0.mk A1470
                           clear A1470
                           by_cases c148 : x26_6 < (t248.length : Int)
                           ·
                            rw [if_pos c148] at H
                            have c148b0 : decide (x26_6 < (t248.length : Int)) = true := decide_eq_true c148
                            clear c148
                            by_cases c149 : x25_6.length < 17592186044416
                            ·
                             rw [if_pos c149] at H
                             have LMc149 := Aside0.mk c149
                             clear c149
                             obtain ⟨y286, hy286⟩ : ∃ y_ : List Int, y_ = (x25_6 ++ [wrap64 (-(rd t248 x26_6))]) := ⟨_, rfl⟩
                             replace H : (laws_FnHomeward.l0 k6 t246 t248 t252 t267 t284 y286 (wrap64 (x26_6 + 1)) t231 t232 t254 t255 t256) = some r := by first | (rw [hy286]; with_reducible exact H) | (have H2_ := (Option.bind_some _ _).symm.trans H; rw [hy286]; with_reducible exact H2_) | (have H2_ := (Option.bind_some _ _).symm.trans H; with_reducible exact H2_) | with_reducible exact H | (rw [hy286]; exact H) | exact H
                             have Ny286 := Aside0.mk hy286
                             clear hy286
                             have H' := Aside0.mk H
                             clear H
                             obtain ⟨Ao150, co150, eo150⟩ := Kd.R_slice HO_22.out
                             subst eo150
                             have p281 : 0 ≤ (x26_6 : Int) := of_decide_eq_true (by first | (with_reducible assumption) | assumption)
                             have q281 : x26_6 < (t267.length : Int) := of_decide_eq_true (by first | (with_reducible assumption) | assumption)
                             obtain ⟨ad281, e281, hx281_0, hx281_1, hx281_2⟩ := at_T24 (Kd.R_reads' HO_22.out).2.2 x26_6 p281 q281
                             cases e281
                             replace p281 := eq_true p281
                             replace q281 := eq_true q281
                             go_wp2_with (first | ((with_reducible refine gate_callee (f := 46) rfl ?_); refine goesL_ (some 203) rfl rfl Try.func46 (by kernel_rfl) rfl #[.int .i64 ((rd_T24 t267 x26_6).f0)] rfl (by (try simp only [List.map_toArray, List.map_cons, List.map_nil]); first | done | rfl | (simp only [List.length_drop, List.length_take]; rfl)) ?_; (with_reducible refine (laws_b10Abs.calls ((rd_T24 t267 x26_6).f0) t282 _ A145.out).mono ?_); rintro e w' ⟨rfl, ⟨nd, rfl⟩⟩; refine ⟨_, rfl, ?_⟩; have p283 : 0 ≤ (x26_6 : Int) := of_decide_eq_true (by first | (with_reducible assumption) | assumption); have q283 : x26_6 < (t267.length : Int) := of_decide_eq_true (by first | (with_reducible assumption) | assumption); obtain ⟨ad283, e283, hx283_0, hx283_1, hx283_2⟩ := at_T24 (Kd.R_reads' HO_22.out).2.2 x26_6 p283 q283; obtain rfl : ad281 = ad283 := (by injection e283); replace p283 := eq_true p283; replace q283 := eq_true q283) | ((with_reducible refine gate_callee (f := 46) rfl ?_); refine goesL_ (some 211) rfl rfl Try.func46 (by kernel_rfl) rfl #[.int .i64 ((rd_T24 t267 x26_6).f0)] rfl (by (try simp only [List.map_toArray, List.map_cons, List.map_nil]); first | done | rfl | (simp only [List.length_drop, List.length_take]; rfl)) ?_; (with_reducible refine (laws_b10Abs.calls ((rd_T24 t267 x26_6).f0) t284 _ A147.out).mono ?_); rintro e w' ⟨rfl, ⟨nd, rfl⟩⟩; refine ⟨_, rfl, ?_⟩; have p285 : 0 ≤ (x26_6 : Int) := of_decide_eq_true (by first | (with_reducible assumption) | assumption); have q285 : x26_6 < (t248.length : Int) := of_decide_eq_true (by first | (with_reducible assumption) | assumption); obtain ⟨ad285, e285, hx285_0⟩ := Kd.at_int (Kd.R_reads' HO_11.out).2.2 x26_6 p285 q285; cases e285; replace p285 := eq_true p285; replace q285 := eq_true q285) | ((with_reducible refine gate_builtin (b := .append) (xs := #[.tmp 212, .tmp 218]) rfl ?_); (try (refine gate_guard (by rfl) ?_; dsimp only)); at_builtin; refine Kd.R_append (Kd.int .i64) (w0 := w) w.heap.size rfl (.tmp 212) (.tmp 218) 43 2 (.int .i64 0) 8 rfl Try.underlying43 info2 rfl (by decide) (by omega) u25 x25_6 (wrap64 (-(rd t248 x26_6))) [.int .i64 (wrap64 (-(rd t248 x26_6)))] (fun k_ => some k_ ≠ (.slice (some ad285) t248.length co123 : Value).ownBlock) (fun _ => False) rfl rfl ?aP (fun _ hk => hk.elim) ?aF ?aO ?aB ?aS ?aL ?_; (case aP => exact rfl); (case aB => exact (by repeat (first | (with_reducible first | exact HB.out | apply below_alloc | apply pw_below_drewN | apply below_drew1 | refine below_set ?_ GE236.out | refine below_set ?_ GE237.out | refine below_set ?_ GE243.out | refine below_set ?_ GE244.out | refine below_set ?_ GE257.out) | exact HB.out))); (case aF => exact (fun k_ hk => Kd.fresh' (Kd.R_lt (by (with_reducible repeat (first | apply Kd.R_alloc | apply Kd.R_drewN | apply Kd.R_drew)); exact HO_11.out)) k_ hk)); (case aO => exact (by (with_reducible repeat (first | apply Kd.R_alloc | apply Kd.R_drewN | apply Kd.R_drew)); exact HO_25.out)); (case aS => exact (below_size (by repeat (first | (with_reducible first | exact HB.out | apply below_alloc | apply pw_below_drewN | apply below_drew1 | refine below_set ?_ GE236.out | refine below_set ?_ GE237.out | refine below_set ?_ GE243.out | refine below_set ?_ GE244.out | refine below_set ?_ GE257.out) | exact HB.out)))); (case aL => have := LMc149.out; omega); intro v287 w151 ho hb hg hat; rw [← Ny286.out] at ho; have n0_ := Aside0.mk (Kd.R_after (ok := (fun _ => True)) (by (with_reducible repeat (first | apply Kd.R_alloc | apply Kd.R_drewN | apply Kd.R_drew)); exact Kd.R_mono HO_11.out (fun _ hk => ⟨trivial, hk⟩)) hg hat); have n1_ := Aside0.mk (Kd.R_over' (by (with_reducible repeat (first | apply Kd.R_alloc | apply Kd.R_drewN | apply Kd.R_drew)); exact HO_22.out) (Kd.R_typed (by (with_reducible repeat (first | apply Kd.R_alloc | apply Kd.R_drewN | apply Kd.R_drew)); exact HO_25.out)) (by decide) hg); have n2_ := Aside0.mk (blk_grown (g := gb236) (o := .cells #[.int .i64 t231, .int .i64 t232] 40 (0, 0)) (by (with_reducible repeat (first | refine blk_drewN ?_ _ | refine blk_drew ?_ | refine blk_alloc ?_ _)); exact BK236.out) hg (Kd.R_ne HO_25.out BK236.out (by decide))); have n3_ := Aside0.mk (blk_grown (g := gb237) (o := .cells #[.int .i64 t233, .int .i64 t234, .int .i64 t235] 24 (0, 0)) (by (with_reducible repeat (first | refine blk_drewN ?_ _ | refine blk_drew ?_ | refine blk_alloc ?_ _)); exact BK237.out) hg (Kd.R_ne HO_25.out BK237.out (by decide))); have n4_ := Aside0.mk (blk_grown (g := gb243) (o := .cells #[.int .i64 t238, .int .i64 t239] 40 (0, 0)) (by (with_reducible repeat (first | refine blk_drewN ?_ _ | refine blk_drew ?_ | refine blk_alloc ?_ _)); exact BK243.out) hg (Kd.R_ne HO_25.out BK243.out (by decide))); have n5_ := Aside0.mk (blk_grown (g := gb244) (o := .cells #[.int .i64 x245000_7, .int .i64 x245001_7, .int .i64 x245002_7] 24 (0, 0)) (by (with_reducible repeat (first | refine blk_drewN ?_ _ | refine blk_drew ?_ | refine blk_alloc ?_ _)); exact BK244.out) hg (Kd.R_ne HO_25.out BK244.out (by decide))); have n6_ := Aside0.mk (blk_grown (g := gb257) (o := .cells #[.int .i64 t254, .int .i64 t255, .int .i64 t256] 24 (0, 0)) (by (with_reducible repeat (first | refine blk_drewN ?_ _ | refine blk_drew ?_ | refine blk_alloc ?_ _)); exact BK257.out) hg (Kd.R_ne HO_25.out BK257.out (by decide))); have n7_ := Aside0.mk (hb); have n8_ := Aside0.mk (ho); clear HO_11; clear HO_22; clear BK236; clear BK237; clear BK243; clear BK244; clear BK257; clear HB; clear HO_25; have HO_11 := n0_; have HO_22 := n1_; have BK236 := n2_; have BK237 := n3_; have BK243 := n4_; have BK244 := n5_; have BK257 := n6_; have HB := n7_; have HO288 := n8_; clear n0_ n1_ n2_ n3_ n4_ n5_ n6_ n7_ n8_; clear ho hb hg hat))
                             go_roundg k6
                             case measure => have := HJ7.out; have := HJ36.out; have := HJ69.out; have := HJ99.out; have := HJ112.out; have := HK6.out; omega
                             case rel => exact ⟨(t284), (y286), (wrap64 (x26_6 + 1)), (by first | rfl | (simp; done) | (simp [*]; done)), (by first | rfl | (simp; done) | (simp [*]; done)), H', ⟨by have := HJ7.out; have := HJ36.out; have := HJ69.out; have := HJ99.out; have := HJ112.out; have := HK6.out; omega⟩, ⟨by (with_reducible repeat (first | apply Kd.R_alloc | apply Kd.R_drewN | apply Kd.R_drew)); exact Kd.R_mono HO_11.out (fun _ hk => hk.2)⟩, ⟨by (with_reducible repeat (first | apply Kd.R_alloc | apply Kd.R_drewN | apply Kd.R_drew)); exact HO_22.out⟩, ⟨by (with_reducible repeat (first | apply Kd.R_alloc | apply Kd.R_drewN | apply Kd.R_drew)); exact HO288.out⟩, ⟨by (with_reducible repeat (first | refine blk_drewN ?_ _ | refine blk_drew ?_ | refine blk_alloc ?_ _)); exact BK236.out⟩, ⟨by (with_reducible repeat (first | refine blk_drewN ?_ _ | refine blk_drew ?_ | refine blk_alloc ?_ _)); exact BK237.out⟩, ⟨by (with_reducible repeat (first | refine blk_drewN ?_ _ | refine blk_drew ?_ | refine blk_alloc ?_ _)); exact BK243.out⟩, ⟨by (with_reducible repeat (first | refine blk_drewN ?_ _ | refine blk_drew ?_ | refine blk_alloc ?_ _)); exact BK244.out⟩, ⟨by (with_reducible repeat (first | refine blk_drewN ?_ _ | refine blk_drew ?_ | refine blk_alloc ?_ _)); exact BK257.out⟩, ⟨by repeat (first | (with_reducible first | exact HB.out | apply below_alloc | apply pw_below_drewN | apply below_drew1 | refine below_set ?_ GE236.out | refine below_set ?_ GE237.out | refine below_set ?_ GE243.out | refine below_set ?_ GE244.out | refine below_set ?_ GE257.out) | exact HB.out)⟩⟩
                            ·
                             rw [if_neg c149] at H
                             exact absurd H (by simp)
                           ·
                            rw [if_neg c148] at H
                            exact absurd H (by simp)
                          ·
                           rw [if_neg c146] at H
                           have c146b0 : decide (x24_6 < t282) = false := decide_eq_false c146
                           clear c146
                           by_cases c152 : x26_6 < (t248.length : Int)
                           ·
                            rw [if_pos c152] at H
                            have c152b0 : decide (x26_6 < (t248.length : Int)) = true := decide_eq_true c152
                            clear c152
                            by_cases c153 : x25_6.length < 17592186044416
                            ·
                             rw [if_pos c153] at H
                             have LMc153 := Aside0.mk c153
                             clear c153
                             obtain ⟨y290, hy290⟩ : ∃ y_ : List Int, y_ = (x25_6 ++ [wrap64 (-(rd t248 x26_6))]) := ⟨_, rfl⟩
                             replace H : (laws_FnHomeward.l0 k6 t246 t248 t252 t267 x24_6 y290 (wrap64 (x26_6 + 1)) t231 t232 t254 t255 t256) = some r := by first | (rw [hy290]; with_reducible exact H) | (have H2_ := (Option.bind_some _ _).symm.trans H; rw [hy290]; with_reducible exact H2_) | (have H2_ := (Option.bind_some _ _).symm.trans H; with_reducible exact H2_) | with_reducible exact H | (rw [hy290]; exact H) | exact H
                             have Ny290 := Aside0.mk hy290
                             clear hy290
                             have H' := Aside0.mk H
                             clear H
                             obtain ⟨Ao154, co154, eo154⟩ := Kd.R_slice HO_22.out
                             subst eo154
                             have p281 : 0 ≤ (x26_6 : Int) := of_decide_eq_true (by first | (with_reducible assumption) | assumption)
                             have q281 : x26_6 < (t267.length : Int) := of_decide_eq_true (by first | (with_reducible assumption) | assumption)
                             obtain ⟨ad281, e281, hx281_0, hx281_1, hx281_2⟩ := at_T24 (Kd.R_reads' HO_22.out).2.2 x26_6 p281 q281
                             cases e281
                             replace p281 := eq_true p281
                             replace q281 := eq_true q281
                             go_wp2_with (first | ((with_reducible refine gate_callee (f := 46) rfl ?_); refine goesL_ (some 203) rfl rfl Try.func46 (by kernel_rfl) rfl #[.int .i64 ((rd_T24 t267 x26_6).f0)] rfl (by (try simp only [List.map_toArray, List.map_cons, List.map_nil]); first | done | rfl | (simp only [List.length_drop, List.length_take]; rfl)) ?_; (with_reducible refine (laws_b10Abs.calls ((rd_T24 t267 x26_6).f0) t282 _ A145.out).mono ?_); rintro e w' ⟨rfl, ⟨nd, rfl⟩⟩; refine ⟨_, rfl, ?_⟩; have p289 : 0 ≤ (x26_6 : Int) := of_decide_eq_true (by first | (with_reducible assumption) | assumption); have q289 : x26_6 < (t248.length : Int) := of_decide_eq_true (by first | (with_reducible assumption) | assumption); obtain ⟨ad289, e289, hx289_0⟩ := Kd.at_int (Kd.R_reads' HO_11.out).2.2 x26_6 p289 q289; cases e289; replace p289 := eq_true p289; replace q289 := eq_true q289) | ((with_reducible refine gate_builtin (b := .append) (xs := #[.tmp 212, .tmp 218]) rfl ?_); (try (refine gate_guard (by rfl) ?_; dsimp only)); at_builtin; refine Kd.R_append (Kd.int .i64) (w0 := w) w.heap.size rfl (.tmp 212) (.tmp 218) 43 2 (.int .i64 0) 8 rfl Try.underlying43 info2 rfl (by decide) (by omega) u25 x25_6 (wrap64 (-(rd t248 x26_6))) [.int .i64 (wrap64 (-(rd t248 x26_6)))] (fun k_ => some k_ ≠ (.slice (some ad289) t248.length co123 : Value).ownBlock) (fun _ => False) rfl rfl ?aP (fun _ hk => hk.elim) ?aF ?aO ?aB ?aS ?aL ?_; (case aP => exact rfl); (case aB => exact (by repeat (first | (with_reducible first | exact HB.out | apply below_alloc | apply pw_below_drewN | apply below_drew1 | refine below_set ?_ GE236.out | refine below_set ?_ GE237.out | refine below_set ?_ GE243.out | refine below_set ?_ GE244.out | refine below_set ?_ GE257.out) | exact HB.out))); (case aF => exact (fun k_ hk => Kd.fresh' (Kd.R_lt (by (with_reducible repeat (first | apply Kd.R_alloc | apply Kd.R_drewN | apply Kd.R_drew)); exact HO_11.out)) k_ hk)); (case aO => exact (by (with_reducible repeat (first | apply Kd.R_alloc | apply Kd.R_drewN | apply Kd.R_drew)); exact HO_25.out)); (case aS => exact (below_size (by repeat (first | (with_reducible first | exact HB.out | apply below_alloc | apply pw_below_drewN | apply below_drew1 | refine below_set ?_ GE236.out | refine below_set ?_ GE237.out | refine below_set ?_ GE243.out | refine below_set ?_ GE244.out | refine below_set ?_ GE257.out) | exact HB.out)))); (case aL => have := LMc153.out; omega); intro v291 w155 ho hb hg hat; rw [← Ny290.out] at ho; have n0_ := Aside0.mk (Kd.R_after (ok := (fun _ => True)) (by (with_reducible repeat (first | apply Kd.R_alloc | apply Kd.R_drewN | apply Kd.R_drew)); exact Kd.R_mono HO_11.out (fun _ hk => ⟨trivial, hk⟩)) hg hat); have n1_ := Aside0.mk (Kd.R_over' (by (with_reducible repeat (first | apply Kd.R_alloc | apply Kd.R_drewN | apply Kd.R_drew)); exact HO_22.out) (Kd.R_typed (by (with_reducible repeat (first | apply Kd.R_alloc | apply Kd.R_drewN | apply Kd.R_drew)); exact HO_25.out)) (by decide) hg); have n2_ := Aside0.mk (blk_grown (g := gb236) (o := .cells #[.int .i64 t231, .int .i64 t232] 40 (0, 0)) (by (with_reducible repeat (first | refine blk_drewN ?_ _ | refine blk_drew ?_ | refine blk_alloc ?_ _)); exact BK236.out) hg (Kd.R_ne HO_25.out BK236.out (by decide))); have n3_ := Aside0.mk (blk_grown (g := gb237) (o := .cells #[.int .i64 t233, .int .i64 t234, .int .i64 t235] 24 (0, 0)) (by (with_reducible repeat (first | refine blk_drewN ?_ _ | refine blk_drew ?_ | refine blk_alloc ?_ _)); exact BK237.out) hg (Kd.R_ne HO_25.out BK237.out (by decide))); have n4_ := Aside0.mk (blk_grown (g := gb243) (o := .cells #[.int .i64 t238, .int .i64 t239] 40 (0, 0)) (by (with_reducible repeat (first | refine blk_drewN ?_ _ | refine blk_drew ?_ | refine blk_alloc ?_ _)); exact BK243.out) hg (Kd.R_ne HO_25.out BK243.out (by decide))); have n5_ := Aside0.mk (blk_grown (g := gb244) (o := .cells #[.int .i64 x245000_7, .int .i64 x245001_7, .int .i64 x245002_7] 24 (0, 0)) (by (with_reducible repeat (first | refine blk_drewN ?_ _ | refine blk_drew ?_ | refine blk_alloc ?_ _)); exact BK244.out) hg (Kd.R_ne HO_25.out BK244.out (by decide))); have n6_ := Aside0.mk (blk_grown (g := gb257) (o := .cells #[.int .i64 t254, .int .i64 t255, .int .i64 t256] 24 (0, 0)) (by (with_reducible repeat (first | refine blk_drewN ?_ _ | refine blk_drew ?_ | refine blk_alloc ?_ _)); exact BK257.out) hg (Kd.R_ne HO_25.out BK257.out (by decide))); have n7_ := Aside0.mk (hb); have n8_ := Aside0.mk (ho); clear HO_11; clear HO_22; clear BK236; clear BK237; clear BK243; clear BK244; clear BK257; clear HB; clear HO_25; have HO_11 := n0_; have HO_22 := n1_; have BK236 := n2_; have BK237 := n3_; have BK243 := n4_; have BK244 := n5_; have BK257 := n6_; have HB := n7_; have HO292 := n8_; clear n0_ n1_ n2_ n3_ n4_ n5_ n6_ n7_ n8_; clear ho hb hg hat))
                             go_roundg k6
                             case measure => have := HJ7.out; have := HJ36.out; have := HJ69.out; have := HJ99.out; have := HJ112.out; have := HK6.out; omega
                             case rel => exact ⟨(x24_6), (y290), (wrap64 (x26_6 + 1)), (by first | rfl | (simp; done) | (simp [*]; done)), (by first | rfl | (simp; done) | (simp [*]; done)), H', ⟨by have := HJ7.out; have := HJ36.out; have := HJ69.out; have := HJ99.out; have := HJ112.out; have := HK6.out; omega⟩, ⟨by (with_reducible repeat (first | apply Kd.R_alloc | apply Kd.R_drewN | apply Kd.R_drew)); exact Kd.R_mono HO_11.out (fun _ hk => hk.2)⟩, ⟨by (with_reducible repeat (first | apply Kd.R_alloc | apply Kd.R_drewN | apply Kd.R_drew)); exact HO_22.out⟩, ⟨by (with_reducible repeat (first | apply Kd.R_alloc | apply Kd.R_drewN | apply Kd.R_drew)); exact HO292.out⟩, ⟨by (with_reducible repeat (first | refine blk_drewN ?_ _ | refine blk_drew ?_ | refine blk_alloc ?_ _)); exact BK236.out⟩, ⟨by (with_reducible repeat (first | refine blk_drewN ?_ _ | refine blk_drew ?_ | refine blk_alloc ?_ _)); exact BK237.out⟩, ⟨by (with_reducible repeat (first | refine blk_drewN ?_ _ | refine blk_drew ?_ | refine blk_alloc ?_ _)); exact BK243.out⟩, ⟨by (with_reducible repeat (first | refine blk_drewN ?_ _ | refine blk_drew ?_ | refine blk_alloc ?_ _)); exact BK244.out⟩, ⟨by (with_reducible repeat (first | refine blk_drewN ?_ _ | refine blk_drew ?_ | refine blk_alloc ?_ _)); exact BK257.out⟩, ⟨by repeat (first | (with_reducible first | exact HB.out | apply below_alloc | apply pw_below_drewN | apply below_drew1 | refine below_set ?_ GE236.out | refine below_set ?_ GE237.out | refine below_set ?_ GE243.out | refine below_set ?_ GE244.out | refine below_set ?_ GE257.out) | exact HB.out)⟩⟩
                            ·
                             rw [if_neg c153] at H
                             exact absurd H (by simp)
                           ·
                            rw [if_neg c152] at H
                            exact absurd H (by simp)
                         ·
                          rw [if_neg c144] at H
                          exact absurd H (by simp)
                        ·
                         rw [if_neg c143] at H
                         have c143b0 : decide (x26_6 < (t267.length : Int)) = false := decide_eq_false c143
                         clear c143
                         replace H := Option.bind_eq_some_iff.mp H
                         obtain ⟨⟨t276, t279⟩, A1560, H⟩ := H
                         replace H : (if t279 = true then (if x24_6 = t252 then (if (t276.length : Int) = t246 then (if t246 = 0 then (some true) else (if 0 ≤ (wrap64 (t246 - 1)) then (if (wrap64 (t246 - 1)) < (t276.length : Int) then (some (((rd_T24 t276 (wrap64 (t246 - 1))).f0) == 0 && (((rd_T24 t276 (wrap64 (t246 - 1))).f1) == 0 && (((rd_T24 t276 (wrap64 (t246 - 1))).f2) == 0)))) else (none)) else (none))) else (some false)) else (some false)) else (some false)) = some r := H
                         have A156 := Aside0.mk A1560
                         clear A1560
                         by_cases c157 : t279 = true
                         ·
                          subst c157
                          have H1 : (if x24_6 = t252 then (if (t276.length : Int) = t246 then (if t246 = 0 then (some true) else (if 0 ≤ (wrap64 (t246 - 1)) then (if (wrap64 (t246 - 1)) < (t276.length : Int) then (some (((rd_T24 t276 (wrap64 (t246 - 1))).f0) == 0 && (((rd_T24 t276 (wrap64 (t246 - 1))).f1) == 0 && (((rd_T24 t276 (wrap64 (t246 - 1))).f2) == 0)))) else (none)) else (none))) else (some false)) else (some false)) = some r := by rw [if_pos rfl] at H; exact H
                          clear H
                          have H := H1
                          clear H1
                          by_cases c158 : x24_6 = t252
                          ·
                           rw [if_pos c158] at H
                           have c158b0 : (x24_6 == t252) = true := beq_iff_eq.mpr c158
                           have c158b1 : (x24_6 != t252) = false := bne_eq_false_iff_eq.mpr c158
                           clear c158
                           by_cases c159 : (t276.length : Int) = t246
                           ·
                            rw [if_pos c159] at H
                            have c159b0 : ((t276.length : Int) == t246) = true := beq_iff_eq.mpr c159
                            have c159b1 : ((t276.length : Int) != t246) = false := bne_eq_false_iff_eq.mpr c159
                            clear c159
                            by_cases c160 : t246 = 0
                            ·
                             rw [if_pos c160] at H
                             have c160b0 : (t246 == 0) = true := beq_iff_eq.mpr c160
                             have c160b1 : (t246 != 0) = false := bne_eq_false_iff_eq.mpr c160
                             clear c160
                             obtain rfl := Option.some.inj H
                             obtain ⟨Ao161, co161, eo161⟩ := Kd.R_slice HO_22.out
                             subst eo161
                             have hnb162 := NB236_237.out
                             have hnc162 := NB237_236.out
                             have hnb163 := NB236_243.out
                             have hnc163 := NB243_236.out
                             have hnb164 := NB236_244.out
                             have hnc164 := NB244_236.out
                             have hnb165 := NB236_257.out
                             have hnc165 := NB257_236.out
                             have hcz166_0 : wr.cell? ⟨gb236, 0, none⟩ = some (.int .i64 t231) := (blk_cell BK236.out 0).trans rfl
                             have hcz166_1 : wr.cell? ⟨gb236, 1, none⟩ = some (.int .i64 t232) := (blk_cell BK236.out 1).trans rfl
                             have hfz166_0 := blk_frozen BK236.out 0
                             have hfz166_1 := blk_frozen BK236.out 1
                             have hnb167 := NB257_237.out
                             have hnc167 := NB237_257.out
                             have hnb168 := NB257_243.out
                             have hnc168 := NB243_257.out
                             have hnb169 := NB257_244.out
                             have hnc169 := NB244_257.out
                             have hcz170_0 : wr.cell? ⟨gb257, 0, none⟩ = some (.int .i64 t254) := (blk_cell BK257.out 0).trans rfl
                             have hcz170_1 : wr.cell? ⟨gb257, 1, none⟩ = some (.int .i64 t255) := (blk_cell BK257.out 1).trans rfl
                             have hcz170_2 : wr.cell? ⟨gb257, 2, none⟩ = some (.int .i64 t256) := (blk_cell BK257.out 2).trans rfl
                             have hfz170_0 := blk_frozen BK257.out 0
                             have hfz170_1 := blk_frozen BK257.out 1
                             have hfz170_2 := blk_frozen BK257.out 2
                             obtain ⟨Ao171, co171, eo171⟩ := Kd.R_slice HO_25.out
                             subst eo171
                             go_wp2_with (first | ((with_reducible refine gate_callee (f := 30) rfl ?_); refine goesL_ (some 224) rfl rfl Try.func30 (by kernel_rfl) rfl #[.agg #[.int .i64 t231, .int .i64 t232], .agg #[.int .i64 t254, .int .i64 t255, .int .i64 t256], .slice Ao171 x25_6.length co171] rfl (by (try simp only [List.map_toArray, List.map_cons, List.map_nil]); first | done | rfl | (simp only [List.length_drop, List.length_take]; rfl)) ?_; (with_reducible refine (impl_RunCourse.calls k6 t231 t232 t254 t255 t256 _ _ x25_6 t276 true _ ?side1 ?side2 A156.out).mono ?_); (case side1 => repeat (first | exact (Kd.R_reads' HO_25.out).2.2 | (with_reducible refine Kd.C_alloc ?_ _) | (with_reducible refine Kd.C_drewN ?_ _) | (with_reducible refine Kd.C_drew ?_))); (case side2 => exact (Kd.R_reads' HO_25.out).2.1); rintro e w172 ⟨v277, rfl, ho0, hb⟩; refine ⟨_, rfl, ?_⟩; have n0_ := Aside0.mk (Kd.R_below (by (with_reducible repeat (first | apply Kd.R_alloc | apply Kd.R_drewN | apply Kd.R_drew)); exact HO_11.out) hb); have n1_ := Aside0.mk (Kd.R_elder' (by (with_reducible repeat (first | apply Kd.R_alloc | apply Kd.R_drewN | apply Kd.R_drew)); exact HO_22.out) (Kd.R_base ho0) hb); have n2_ := Aside0.mk (Kd.R_below (by (with_reducible repeat (first | apply Kd.R_alloc | apply Kd.R_drewN | apply Kd.R_drew)); exact HO_25.out) hb); have n3_ := Aside0.mk (Kd.R_lower (Kd.R_newB (Kd.R_newB (Kd.R_newB (Kd.R_new' ho0 (Kd.R_lt (by (with_reducible repeat (first | apply Kd.R_alloc | apply Kd.R_drewN | apply Kd.R_drew)); exact HO_22.out))) (g := gb237) (o := .cells #[.int .i64 t233, .int .i64 t234, .int .i64 t235] 24 (0, 0)) (by (with_reducible repeat (first | refine blk_drewN ?_ _ | refine blk_drew ?_ | refine blk_alloc ?_ _)); exact BK237.out)) (g := gb244) (o := .cells #[.int .i64 x245000_7, .int .i64 x245001_7, .int .i64 x245002_7] 24 (0, 0)) (by (with_reducible repeat (first | refine blk_drewN ?_ _ | refine blk_drew ?_ | refine blk_alloc ?_ _)); exact BK244.out)) (g := gb257) (o := .cells #[.int .i64 t254, .int .i64 t255, .int .i64 t256] 24 (0, 0)) (by (with_reducible repeat (first | refine blk_drewN ?_ _ | refine blk_drew ?_ | refine blk_alloc ?_ _)); exact BK257.out)) (below_size (by repeat (first | (with_reducible first | exact HB.out | apply below_alloc | apply pw_below_drewN | apply below_drew1 | refine below_set ?_ GE236.out | refine below_set ?_ GE237.out | refine below_set ?_ GE243.out | refine below_set ?_ GE244.out | refine below_set ?_ GE257.out) | exact HB.out)))); have n4_ := Aside0.mk (blk_below (g := gb236) (o := .cells #[.int .i64 t231, .int .i64 t232] 40 (0, 0)) (by (with_reducible repeat (first | refine blk_drewN ?_ _ | refine blk_drew ?_ | refine blk_alloc ?_ _)); exact BK236.out) hb); have n5_ := Aside0.mk (blk_below (g := gb237) (o := .cells #[.int .i64 t233, .int .i64 t234, .int .i64 t235] 24 (0, 0)) (by (with_reducible repeat (first | refine blk_drewN ?_ _ | refine blk_drew ?_ | refine blk_alloc ?_ _)); exact BK237.out) hb); have n6_ := Aside0.mk (blk_below (g := gb243) (o := .cells #[.int .i64 t238, .int .i64 t239] 40 (0, 0)) (by (with_reducible repeat (first | refine blk_drewN ?_ _ | refine blk_drew ?_ | refine blk_alloc ?_ _)); exact BK243.out) hb); have n7_ := Aside0.mk (blk_below (g := gb244) (o := .cells #[.int .i64 x245000_7, .int .i64 x245001_7, .int .i64 x245002_7] 24 (0, 0)) (by (with_reducible repeat (first | refine blk_drewN ?_ _ | refine blk_drew ?_ | refine blk_alloc ?_ _)); exact BK244.out) hb); have n8_ := Aside0.mk (blk_below (g := gb257) (o := .cells #[.int .i64 t254, .int .i64 t255, .int .i64 t256] 24 (0, 0)) (by (with_reducible repeat (first | refine blk_drewN ?_ _ | refine blk_drew ?_ | refine blk_alloc ?_ _)); exact BK257.out) hb); have n9_ := Aside0.mk (below_step (by repeat (first | (with_reducible first | exact HB.out | apply below_alloc | apply pw_below_drewN | apply below_drew1 | refine below_set ?_ GE236.out | refine below_set ?_ GE237.out | refine below_set ?_ GE243.out | refine below_set ?_ GE244.out | refine below_set ?_ GE257.out) | exact HB.out)) hb); clear HO_11; clear HO_22; clear HO_25; clear BK236; clear BK237; clear BK243; clear BK244; clear BK257; clear HB; have HO_11 := n0_; have HO_22 := n1_; have HO_25 := n2_; have HO278 := n3_; have BK236 := n4_; have BK237 := n5_; have BK243 := n6_; have BK244 := n7_; have BK257 := n8_; have HB := n9_; clear n0_ n1_ n2_ n3_ n4_ n5_ n6_ n7_ n8_ n9_; (try clear hb); (try clear hb2); (try clear hk); (try clear hi); (try clear ho0); obtain ⟨Ao173, co173, eo173⟩ := Kd.R_slice HO278.out; subst eo173))
                             go_ret
                             exact ⟨by first | rfl | (simp [errW_none, errW_some] <;> rfl) | (simp [*, errW_none, errW_some] <;> rfl), by repeat (first | (with_reducible first | exact HB.out | apply below_alloc | apply pw_below_drewN | apply below_drew1 | refine below_set ?_ GE236.out | refine below_set ?_ GE237.out | refine below_set ?_ GE243.out | refine below_set ?_ GE244.out | refine below_set ?_ GE257.out) | exact HB.out)⟩
                            ·
                             rw [if_neg c160] at H
                             have c160b0 : (t246 == 0) = false := beq_eq_false_iff_ne.mpr c160
                             have c160b1 : (t246 != 0) = true := bne_iff_ne.mpr c160
                             obtain ⟨ji174, hji174⟩ : ∃ j_ : Int, (wrap64 (t246 - 1)) = j_ := ⟨_, rfl⟩
                             replace H : (if 0 ≤ (ji174) then (if (ji174) < (t276.length : Int) then (some (((rd_T24 t276 (ji174)).f0) == 0 && (((rd_T24 t276 (ji174)).f1) == 0 && (((rd_T24 t276 (ji174)).f2) == 0)))) else (none)) else (none)) = some r := by first | (rw [hji174] at H; exact H) | (simp only [hji174] at H ⊢; exact H)
                             (try rw [hji174] at A156)
                             have hji174w : (IntKind.i64.wrap (t246 - 1)) = ji174 := (i64_w _).trans hji174
                             by_cases c175 : 0 ≤ (ji174)
                             ·
                              rw [if_pos c175] at H
                              have c175b0 : decide (0 ≤ (ji174)) = true := decide_eq_true c175
                              clear c175
                              by_cases c176 : (ji174) < (t276.length : Int)
                              ·
                               rw [if_pos c176] at H
                               have c176b0 : decide ((ji174) < (t276.length : Int)) = true := decide_eq_true c176
                               clear c176
                               obtain rfl := Option.some.inj H
                               obtain ⟨Ao177, co177, eo177⟩ := Kd.R_slice HO_22.out
                               subst eo177
                               have hnb178 := NB236_237.out
                               have hnc178 := NB237_236.out
                               have hnb179 := NB236_243.out
                               have hnc179 := NB243_236.out
                               have hnb180 := NB236_244.out
                               have hnc180 := NB244_236.out
                               have hnb181 := NB236_257.out
                               have hnc181 := NB257_236.out
                               have hcz182_0 : wr.cell? ⟨gb236, 0, none⟩ = some (.int .i64 t231) := (blk_cell BK236.out 0).trans rfl
                               have hcz182_1 : wr.cell? ⟨gb236, 1, none⟩ = some (.int .i64 t232) := (blk_cell BK236.out 1).trans rfl
                               have hfz182_0 := blk_frozen BK236.out 0
                               have hfz182_1 := blk_frozen BK236.out 1
                               have hnb183 := NB257_237.out
                               have hnc183 := NB237_257.out
                               have hnb184 := NB257_243.out
                               have hnc184 := NB243_257.out
                               have hnb185 := NB257_244.out
                               have hnc185 := NB244_257.out
                               have hcz186_0 : wr.cell? ⟨gb257, 0, none⟩ = some (.int .i64 t254) := (blk_cell BK257.out 0).trans rfl
                               have hcz186_1 : wr.cell? ⟨gb257, 1, none⟩ = some (.int .i64 t255) := (blk_cell BK257.out 1).trans rfl
                               have hcz186_2 : wr.cell? ⟨gb257, 2, none⟩ = some (.int .i64 t256) := (blk_cell BK257.out 2).trans rfl
                               have hfz186_0 := blk_frozen BK257.out 0
                               have hfz186_1 := blk_frozen BK257.out 1
                               have hfz186_2 := blk_frozen BK257.out 2
                               obtain ⟨Ao187, co187, eo187⟩ := Kd.R_slice HO_25.out
                               subst eo187
                               go_wp2_with (first | ((with_reducible refine gate_callee (f := 30) rfl ?_); refine goesL_ (some 224) rfl rfl Try.func30 (by kernel_rfl) rfl #[.agg #[.int .i64 t231, .int .i64 t232], .agg #[.int .i64 t254, .int .i64 t255, .int .i64 t256], .slice Ao187 x25_6.length co187] rfl (by (try simp only [List.map_toArray, List.map_cons, List.map_nil]); first | done | rfl | (simp only [List.length_drop, List.length_take]; rfl)) ?_; (with_reducible refine (impl_RunCourse.calls k6 t231 t232 t254 t255 t256 _ _ x25_6 t276 true _ ?side1 ?side2 A156.out).mono ?_); (case side1 => repeat (first | exact (Kd.R_reads' HO_25.out).2.2 | (with_reducible refine Kd.C_alloc ?_ _) | (with_reducible refine Kd.C_drewN ?_ _) | (with_reducible refine Kd.C_drew ?_))); (case side2 => exact (Kd.R_reads' HO_25.out).2.1); rintro e w188 ⟨v277, rfl, ho0, hb⟩; refine ⟨_, rfl, ?_⟩; have n0_ := Aside0.mk (Kd.R_below (by (with_reducible repeat (first | apply Kd.R_alloc | apply Kd.R_drewN | apply Kd.R_drew)); exact HO_11.out) hb); have n1_ := Aside0.mk (Kd.R_elder' (by (with_reducible repeat (first | apply Kd.R_alloc | apply Kd.R_drewN | apply Kd.R_drew)); exact HO_22.out) (Kd.R_base ho0) hb); have n2_ := Aside0.mk (Kd.R_below (by (with_reducible repeat (first | apply Kd.R_alloc | apply Kd.R_drewN | apply Kd.R_drew)); exact HO_25.out) hb); have n3_ := Aside0.mk (Kd.R_lower (Kd.R_newB (Kd.R_newB (Kd.R_newB (Kd.R_new' ho0 (Kd.R_lt (by (with_reducible repeat (first | apply Kd.R_alloc | apply Kd.R_drewN | apply Kd.R_drew)); exact HO_22.out))) (g := gb237) (o := .cells #[.int .i64 t233, .int .i64 t234, .int .i64 t235] 24 (0, 0)) (by (with_reducible repeat (first | refine blk_drewN ?_ _ | refine blk_drew ?_ | refine blk_alloc ?_ _)); exact BK237.out)) (g := gb244) (o := .cells #[.int .i64 x245000_7, .int .i64 x245001_7, .int .i64 x245002_7] 24 (0, 0)) (by (with_reducible repeat (first | refine blk_drewN ?_ _ | refine blk_drew ?_ | refine blk_alloc ?_ _)); exact BK244.out)) (g := gb257) (o := .cells #[.int .i64 t254, .int .i64 t255, .int .i64 t256] 24 (0, 0)) (by (with_reducible repeat (first | refine blk_drewN ?_ _ | refine blk_drew ?_ | refine blk_alloc ?_ _)); exact BK257.out)) (below_size (by repeat (first | (with_reducible first | exact HB.out | apply below_alloc | apply pw_below_drewN | apply below_drew1 | refine below_set ?_ GE236.out | refine below_set ?_ GE237.out | refine below_set ?_ GE243.out | refine below_set ?_ GE244.out | refine below_set ?_ GE257.out) | exact HB.out)))); have n4_ := Aside0.mk (blk_below (g := gb236) (o := .cells #[.int .i64 t231, .int .i64 t232] 40 (0, 0)) (by (with_reducible repeat (first | refine blk_drewN ?_ _ | refine blk_drew ?_ | refine blk_alloc ?_ _)); exact BK236.out) hb); have n5_ := Aside0.mk (blk_below (g := gb237) (o := .cells #[.int .i64 t233, .int .i64 t234, .int .i64 t235] 24 (0, 0)) (by (with_reducible repeat (first | refine blk_drewN ?_ _ | refine blk_drew ?_ | refine blk_alloc ?_ _)); exact BK237.out) hb); have n6_ := Aside0.mk (blk_below (g := gb243) (o := .cells #[.int .i64 t238, .int .i64 t239] 40 (0, 0)) (by (with_reducible repeat (first | refine blk_drewN ?_ _ | refine blk_drew ?_ | refine blk_alloc ?_ _)); exact BK243.out) hb); have n7_ := Aside0.mk (blk_below (g := gb244) (o := .cells #[.int .i64 x245000_7, .int .i64 x245001_7, .int .i64 x245002_7] 24 (0, 0)) (by (with_reducible repeat (first | refine blk_drewN ?_ _ | refine blk_drew ?_ | refine blk_alloc ?_ _)); exact BK244.out) hb); have n8_ := Aside0.mk (blk_below (g := gb257) (o := .cells #[.int .i64 t254, .int .i64 t255, .int .i64 t256] 24 (0, 0)) (by (with_reducible repeat (first | refine blk_drewN ?_ _ | refine blk_drew ?_ | refine blk_alloc ?_ _)); exact BK257.out) hb); have n9_ := Aside0.mk (below_step (by repeat (first | (with_reducible first | exact HB.out | apply below_alloc | apply pw_below_drewN | apply below_drew1 | refine below_set ?_ GE236.out | refine below_set ?_ GE237.out | refine below_set ?_ GE243.out | refine below_set ?_ GE244.out | refine below_set ?_ GE257.out) | exact HB.out)) hb); clear HO_11; clear HO_22; clear HO_25; clear BK236; clear BK237; clear BK243; clear BK244; clear BK257; clear HB; have HO_11 := n0_; have HO_22 := n1_; have HO_25 := n2_; have HO278 := n3_; have BK236 := n4_; have BK237 := n5_; have BK243 := n6_; have BK244 := n7_; have BK257 := n8_; have HB := n9_; clear n0_ n1_ n2_ n3_ n4_ n5_ n6_ n7_ n8_ n9_; (try clear hb); (try clear hb2); (try clear hk); (try clear hi); (try clear ho0); obtain ⟨Ao189, co189, eo189⟩ := Kd.R_slice HO278.out; subst eo189; have p280 : 0 ≤ ((ji174) : Int) := of_decide_eq_true (by first | (with_reducible assumption) | assumption); have q280 : (ji174) < (t276.length : Int) := of_decide_eq_true (by first | (with_reducible assumption) | assumption); obtain ⟨ad280, e280, hx280_0, hx280_1, hx280_2⟩ := at_T24 (Kd.R_reads' HO278.out).2.2 (ji174) p280 q280; cases e280; replace p280 := eq_true p280; replace q280 := eq_true q280))
                               go_ret
                               exact ⟨by first | rfl | (simp [errW_none, errW_some] <;> rfl) | (simp only [← hji174]; first | rfl | (simp [errW_none, errW_some] <;> rfl)) | (simp [*, errW_none, errW_some] <;> rfl), by repeat (first | (with_reducible first | exact HB.out | apply below_alloc | apply pw_below_drewN | apply below_drew1 | refine below_set ?_ GE236.out | refine below_set ?_ GE237.out | refine below_set ?_ GE243.out | refine below_set ?_ GE244.out | refine below_set ?_ GE257.out) | exact HB.out)⟩
                              ·
                               rw [if_neg c176] at H
                               exact absurd H (by simp)
                             ·
                              rw [if_neg c175] at H
                              exact absurd H (by simp)
                           ·
                            rw [if_neg c159] at H
                            have c159b0 : ((t276.length : Int) == t246) = false := beq_eq_false_iff_ne.mpr c159
                            have c159b1 : ((t276.length : Int) != t246) = true := bne_iff_ne.mpr c159
                            obtain rfl := Option.some.inj H
                            obtain ⟨Ao190, co190, eo190⟩ := Kd.R_slice HO_22.out
                            subst eo190
                            have hnb191 := NB236_237.out
                            have hnc191 := NB237_236.out
                            have hnb192 := NB236_243.out
                            have hnc192 := NB243_236.out
                            have hnb193 := NB236_244.out
                            have hnc193 := NB244_236.out
                            have hnb194 := NB236_257.out
                            have hnc194 := NB257_236.out
                            have hcz195_0 : wr.cell? ⟨gb236, 0, none⟩ = some (.int .i64 t231) := (blk_cell BK236.out 0).trans rfl
                            have hcz195_1 : wr.cell? ⟨gb236, 1, none⟩ = some (.int .i64 t232) := (blk_cell BK236.out 1).trans rfl
                            have hfz195_0 := blk_frozen BK236.out 0
                            have hfz195_1 := blk_frozen BK236.out 1
                            have hnb196 := NB257_237.out
                            have hnc196 := NB237_257.out
                            have hnb197 := NB257_243.out
                            have hnc197 := NB243_257.out
                            have hnb198 := NB257_244.out
                            have hnc198 := NB244_257.out
                            have hcz199_0 : wr.cell? ⟨gb257, 0, none⟩ = some (.int .i64 t254) := (blk_cell BK257.out 0).trans rfl
                            have hcz199_1 : wr.cell? ⟨gb257, 1, none⟩ = some (.int .i64 t255) := (blk_cell BK257.out 1).trans rfl
                            have hcz199_2 : wr.cell? ⟨gb257, 2, none⟩ = some (.int .i64 t256) := (blk_cell BK257.out 2).trans rfl
                            have hfz199_0 := blk_frozen BK257.out 0
                            have hfz199_1 := blk_frozen BK257.out 1
                            have hfz199_2 := blk_frozen BK257.out 2
                            obtain ⟨Ao200, co200, eo200⟩ := Kd.R_slice HO_25.out
                            subst eo200
                            go_wp2_with (first | ((with_reducible refine gate_callee (f := 30) rfl ?_); refine goesL_ (some 224) rfl rfl Try.func30 (by kernel_rfl) rfl #[.agg #[.int .i64 t231, .int .i64 t232], .agg #[.int .i64 t254, .int .i64 t255, .int .i64 t256], .slice Ao200 x25_6.length co200] rfl (by (try simp only [List.map_toArray, List.map_cons, List.map_nil]); first | done | rfl | (simp only [List.length_drop, List.length_take]; rfl)) ?_; (with_reducible refine (impl_RunCourse.calls k6 t231 t232 t254 t255 t256 _ _ x25_6 t276 true _ ?side1 ?side2 A156.out).mono ?_); (case side1 => repeat (first | exact (Kd.R_reads' HO_25.out).2.2 | (with_reducible refine Kd.C_alloc ?_ _) | (with_reducible refine Kd.C_drewN ?_ _) | (with_reducible refine Kd.C_drew ?_))); (case side2 => exact (Kd.R_reads' HO_25.out).2.1); rintro e w201 ⟨v277, rfl, ho0, hb⟩; refine ⟨_, rfl, ?_⟩; have n0_ := Aside0.mk (Kd.R_below (by (with_reducible repeat (first | apply Kd.R_alloc | apply Kd.R_drewN | apply Kd.R_drew)); exact HO_11.out) hb); have n1_ := Aside0.mk (Kd.R_elder' (by (with_reducible repeat (first | apply Kd.R_alloc | apply Kd.R_drewN | apply Kd.R_drew)); exact HO_22.out) (Kd.R_base ho0) hb); have n2_ := Aside0.mk (Kd.R_below (by (with_reducible repeat (first | apply Kd.R_alloc | apply Kd.R_drewN | apply Kd.R_drew)); exact HO_25.out) hb); have n3_ := Aside0.mk (Kd.R_lower (Kd.R_newB (Kd.R_newB (Kd.R_newB (Kd.R_new' ho0 (Kd.R_lt (by (with_reducible repeat (first | apply Kd.R_alloc | apply Kd.R_drewN | apply Kd.R_drew)); exact HO_22.out))) (g := gb237) (o := .cells #[.int .i64 t233, .int .i64 t234, .int .i64 t235] 24 (0, 0)) (by (with_reducible repeat (first | refine blk_drewN ?_ _ | refine blk_drew ?_ | refine blk_alloc ?_ _)); exact BK237.out)) (g := gb244) (o := .cells #[.int .i64 x245000_7, .int .i64 x245001_7, .int .i64 x245002_7] 24 (0, 0)) (by (with_reducible repeat (first | refine blk_drewN ?_ _ | refine blk_drew ?_ | refine blk_alloc ?_ _)); exact BK244.out)) (g := gb257) (o := .cells #[.int .i64 t254, .int .i64 t255, .int .i64 t256] 24 (0, 0)) (by (with_reducible repeat (first | refine blk_drewN ?_ _ | refine blk_drew ?_ | refine blk_alloc ?_ _)); exact BK257.out)) (below_size (by repeat (first | (with_reducible first | exact HB.out | apply below_alloc | apply pw_below_drewN | apply below_drew1 | refine below_set ?_ GE236.out | refine below_set ?_ GE237.out | refine below_set ?_ GE243.out | refine below_set ?_ GE244.out | refine below_set ?_ GE257.out) | exact HB.out)))); have n4_ := Aside0.mk (blk_below (g := gb236) (o := .cells #[.int .i64 t231, .int .i64 t232] 40 (0, 0)) (by (with_reducible repeat (first | refine blk_drewN ?_ _ | refine blk_drew ?_ | refine blk_alloc ?_ _)); exact BK236.out) hb); have n5_ := Aside0.mk (blk_below (g := gb237) (o := .cells #[.int .i64 t233, .int .i64 t234, .int .i64 t235] 24 (0, 0)) (by (with_reducible repeat (first | refine blk_drewN ?_ _ | refine blk_drew ?_ | refine blk_alloc ?_ _)); exact BK237.out) hb); have n6_ := Aside0.mk (blk_below (g := gb243) (o := .cells #[.int .i64 t238, .int .i64 t239] 40 (0, 0)) (by (with_reducible repeat (first | refine blk_drewN ?_ _ | refine blk_drew ?_ | refine blk_alloc ?_ _)); exact BK243.out) hb); have n7_ := Aside0.mk (blk_below (g := gb244) (o := .cells #[.int .i64 x245000_7, .int .i64 x245001_7, .int .i64 x245002_7] 24 (0, 0)) (by (with_reducible repeat (first | refine blk_drewN ?_ _ | refine blk_drew ?_ | refine blk_alloc ?_ _)); exact BK244.out) hb); have n8_ := Aside0.mk (blk_below (g := gb257) (o := .cells #[.int .i64 t254, .int .i64 t255, .int .i64 t256] 24 (0, 0)) (by (with_reducible repeat (first | refine blk_drewN ?_ _ | refine blk_drew ?_ | refine blk_alloc ?_ _)); exact BK257.out) hb); have n9_ := Aside0.mk (below_step (by repeat (first | (with_reducible first | exact HB.out | apply below_alloc | apply pw_below_drewN | apply below_drew1 | refine below_set ?_ GE236.out | refine below_set ?_ GE237.out | refine below_set ?_ GE243.out | refine below_set ?_ GE244.out | refine below_set ?_ GE257.out) | exact HB.out)) hb); clear HO_11; clear HO_22; clear HO_25; clear BK236; clear BK237; clear BK243; clear BK244; clear BK257; clear HB; have HO_11 := n0_; have HO_22 := n1_; have HO_25 := n2_; have HO278 := n3_; have BK236 := n4_; have BK237 := n5_; have BK243 := n6_; have BK244 := n7_; have BK257 := n8_; have HB := n9_; clear n0_ n1_ n2_ n3_ n4_ n5_ n6_ n7_ n8_ n9_; (try clear hb); (try clear hb2); (try clear hk); (try clear hi); (try clear ho0); obtain ⟨Ao202, co202, eo202⟩ := Kd.R_slice HO278.out; subst eo202))
                            go_ret
                            exact ⟨by first | rfl | (simp [errW_none, errW_some] <;> rfl) | (simp [*, errW_none, errW_some] <;> rfl), by repeat (first | (with_reducible first | exact HB.out | apply below_alloc | apply pw_below_drewN | apply below_drew1 | refine below_set ?_ GE236.out | refine below_set ?_ GE237.out | refine below_set ?_ GE243.out | refine below_set ?_ GE244.out | refine below_set ?_ GE257.out) | exact HB.out)⟩
                          ·
                           rw [if_neg c158] at H
                           have c158b0 : (x24_6 == t252) = false := beq_eq_false_iff_ne.mpr c158
                           have c158b1 : (x24_6 != t252) = true := bne_iff_ne.mpr c158
                           obtain rfl := Option.some.inj H
                           obtain ⟨Ao203, co203, eo203⟩ := Kd.R_slice HO_22.out
                           subst eo203
                           have hnb204 := NB236_237.out
                           have hnc204 := NB237_236.out
                           have hnb205 := NB236_243.out
                           have hnc205 := NB243_236.out
                           have hnb206 := NB236_244.out
                           have hnc206 := NB244_236.out
                           have hnb207 := NB236_257.out
                           have hnc207 := NB257_236.out
                           have hcz208_0 : wr.cell? ⟨gb236, 0, none⟩ = some (.int .i64 t231) := (blk_cell BK236.out 0).trans rfl
                           have hcz208_1 : wr.cell? ⟨gb236, 1, none⟩ = some (.int .i64 t232) := (blk_cell BK236.out 1).trans rfl
                           have hfz208_0 := blk_frozen BK236.out 0
                           have hfz208_1 := blk_frozen BK236.out 1
                           have hnb209 := NB257_237.out
                           have hnc209 := NB237_257.out
                           have hnb210 := NB257_243.out
                           have hnc210 := NB243_257.out
                           have hnb211 := NB257_244.out
                           have hnc211 := NB244_257.out
                           have hcz212_0 : wr.cell? ⟨gb257, 0, none⟩ = some (.int .i64 t254) := (blk_cell BK257.out 0).trans rfl
                           have hcz212_1 : wr.cell? ⟨gb257, 1, none⟩ = some (.int .i64 t255) := (blk_cell BK257.out 1).trans rfl
                           have hcz212_2 : wr.cell? ⟨gb257, 2, none⟩ = some (.int .i64 t256) := (blk_cell BK257.out 2).trans rfl
                           have hfz212_0 := blk_frozen BK257.out 0
                           have hfz212_1 := blk_frozen BK257.out 1
                           have hfz212_2 := blk_frozen BK257.out 2
                           obtain ⟨Ao213, co213, eo213⟩ := Kd.R_slice HO_25.out
                           subst eo213
                           go_wp2_with (first | ((with_reducible refine gate_callee (f := 30) rfl ?_); refine goesL_ (some 224) rfl rfl Try.func30 (by kernel_rfl) rfl #[.agg #[.int .i64 t231, .int .i64 t232], .agg #[.int .i64 t254, .int .i64 t255, .int .i64 t256], .slice Ao213 x25_6.length co213] rfl (by (try simp only [List.map_toArray, List.map_cons, List.map_nil]); first | done | rfl | (simp only [List.length_drop, List.length_take]; rfl)) ?_; (with_reducible refine (impl_RunCourse.calls k6 t231 t232 t254 t255 t256 _ _ x25_6 t276 true _ ?side1 ?side2 A156.out).mono ?_); (case side1 => repeat (first | exact (Kd.R_reads' HO_25.out).2.2 | (with_reducible refine Kd.C_alloc ?_ _) | (with_reducible refine Kd.C_drewN ?_ _) | (with_reducible refine Kd.C_drew ?_))); (case side2 => exact (Kd.R_reads' HO_25.out).2.1); rintro e w214 ⟨v277, rfl, ho0, hb⟩; refine ⟨_, rfl, ?_⟩; have n0_ := Aside0.mk (Kd.R_below (by (with_reducible repeat (first | apply Kd.R_alloc | apply Kd.R_drewN | apply Kd.R_drew)); exact HO_11.out) hb); have n1_ := Aside0.mk (Kd.R_elder' (by (with_reducible repeat (first | apply Kd.R_alloc | apply Kd.R_drewN | apply Kd.R_drew)); exact HO_22.out) (Kd.R_base ho0) hb); have n2_ := Aside0.mk (Kd.R_below (by (with_reducible repeat (first | apply Kd.R_alloc | apply Kd.R_drewN | apply Kd.R_drew)); exact HO_25.out) hb); have n3_ := Aside0.mk (Kd.R_lower (Kd.R_newB (Kd.R_newB (Kd.R_newB (Kd.R_new' ho0 (Kd.R_lt (by (with_reducible repeat (first | apply Kd.R_alloc | apply Kd.R_drewN | apply Kd.R_drew)); exact HO_22.out))) (g := gb237) (o := .cells #[.int .i64 t233, .int .i64 t234, .int .i64 t235] 24 (0, 0)) (by (with_reducible repeat (first | refine blk_drewN ?_ _ | refine blk_drew ?_ | refine blk_alloc ?_ _)); exact BK237.out)) (g := gb244) (o := .cells #[.int .i64 x245000_7, .int .i64 x245001_7, .int .i64 x245002_7] 24 (0, 0)) (by (with_reducible repeat (first | refine blk_drewN ?_ _ | refine blk_drew ?_ | refine blk_alloc ?_ _)); exact BK244.out)) (g := gb257) (o := .cells #[.int .i64 t254, .int .i64 t255, .int .i64 t256] 24 (0, 0)) (by (with_reducible repeat (first | refine blk_drewN ?_ _ | refine blk_drew ?_ | refine blk_alloc ?_ _)); exact BK257.out)) (below_size (by repeat (first | (with_reducible first | exact HB.out | apply below_alloc | apply pw_below_drewN | apply below_drew1 | refine below_set ?_ GE236.out | refine below_set ?_ GE237.out | refine below_set ?_ GE243.out | refine below_set ?_ GE244.out | refine below_set ?_ GE257.out) | exact HB.out)))); have n4_ := Aside0.mk (blk_below (g := gb236) (o := .cells #[.int .i64 t231, .int .i64 t232] 40 (0, 0)) (by (with_reducible repeat (first | refine blk_drewN ?_ _ | refine blk_drew ?_ | refine blk_alloc ?_ _)); exact BK236.out) hb); have n5_ := Aside0.mk (blk_below (g := gb237) (o := .cells #[.int .i64 t233, .int .i64 t234, .int .i64 t235] 24 (0, 0)) (by (with_reducible repeat (first | refine blk_drewN ?_ _ | refine blk_drew ?_ | refine blk_alloc ?_ _)); exact BK237.out) hb); have n6_ := Aside0.mk (blk_below (g := gb243) (o := .cells #[.int .i64 t238, .int .i64 t239] 40 (0, 0)) (by (with_reducible repeat (first | refine blk_drewN ?_ _ | refine blk_drew ?_ | refine blk_alloc ?_ _)); exact BK243.out) hb); have n7_ := Aside0.mk (blk_below (g := gb244) (o := .cells #[.int .i64 x245000_7, .int .i64 x245001_7, .int .i64 x245002_7] 24 (0, 0)) (by (with_reducible repeat (first | refine blk_drewN ?_ _ | refine blk_drew ?_ | refine blk_alloc ?_ _)); exact BK244.out) hb); have n8_ := Aside0.mk (blk_below (g := gb257) (o := .cells #[.int .i64 t254, .int .i64 t255, .int .i64 t256] 24 (0, 0)) (by (with_reducible repeat (first | refine blk_drewN ?_ _ | refine blk_drew ?_ | refine blk_alloc ?_ _)); exact BK257.out) hb); have n9_ := Aside0.mk (below_step (by repeat (first | (with_reducible first | exact HB.out | apply below_alloc | apply pw_below_drewN | apply below_drew1 | refine below_set ?_ GE236.out | refine below_set ?_ GE237.out | refine below_set ?_ GE243.out | refine below_set ?_ GE244.out | refine below_set ?_ GE257.out) | exact HB.out)) hb); clear HO_11; clear HO_22; clear HO_25; clear BK236; clear BK237; clear BK243; clear BK244; clear BK257; clear HB; have HO_11 := n0_; have HO_22 := n1_; have HO_25 := n2_; have HO278 := n3_; have BK236 := n4_; have BK237 := n5_; have BK243 := n6_; have BK244 := n7_; have BK257 := n8_; have HB := n9_; clear n0_ n1_ n2_ n3_ n4_ n5_ n6_ n7_ n8_ n9_; (try clear hb); (try clear hb2); (try clear hk); (try clear hi); (try clear ho0)))
                           go_ret
                           exact ⟨by first | rfl | (simp [errW_none, errW_some] <;> rfl) | (simp [*, errW_none, errW_some] <;> rfl), by repeat (first | (with_reducible first | exact HB.out | apply below_alloc | apply pw_below_drewN | apply below_drew1 | refine below_set ?_ GE236.out | refine below_set ?_ GE237.out | refine below_set ?_ GE243.out | refine below_set ?_ GE244.out | refine below_set ?_ GE257.out) | exact HB.out)⟩
                         ·
                          replace c157 := Bool.eq_false_iff.mpr c157
                          subst c157
                          have H1 : (some false) = some r := by rw [if_neg (show ¬ (false = true) by decide)] at H; exact H
                          clear H
                          have H := H1
                          clear H1
                          obtain rfl := Option.some.inj H
                          obtain ⟨Ao215, co215, eo215⟩ := Kd.R_slice HO_22.out
                          subst eo215
                          have hnb216 := NB236_237.out
                          have hnc216 := NB237_236.out
                          have hnb217 := NB236_243.out
                          have hnc217 := NB243_236.out
                          have hnb218 := NB236_244.out
                          have hnc218 := NB244_236.out
                          have hnb219 := NB236_257.out
                          have hnc219 := NB257_236.out
                          have hcz220_0 : wr.cell? ⟨gb236, 0, none⟩ = some (.int .i64 t231) := (blk_cell BK236.out 0).trans rfl
                          have hcz220_1 : wr.cell? ⟨gb236, 1, none⟩ = some (.int .i64 t232) := (blk_cell BK236.out 1).trans rfl
                          have hfz220_0 := blk_frozen BK236.out 0
                          have hfz220_1 := blk_frozen BK236.out 1
                          have hnb221 := NB257_237.out
                          have hnc221 := NB237_257.out
                          have hnb222 := NB257_243.out
                          have hnc222 := NB243_257.out
                          have hnb223 := NB257_244.out
                          have hnc223 := NB244_257.out
                          have hcz224_0 : wr.cell? ⟨gb257, 0, none⟩ = some (.int .i64 t254) := (blk_cell BK257.out 0).trans rfl
                          have hcz224_1 : wr.cell? ⟨gb257, 1, none⟩ = some (.int .i64 t255) := (blk_cell BK257.out 1).trans rfl
                          have hcz224_2 : wr.cell? ⟨gb257, 2, none⟩ = some (.int .i64 t256) := (blk_cell BK257.out 2).trans rfl
                          have hfz224_0 := blk_frozen BK257.out 0
                          have hfz224_1 := blk_frozen BK257.out 1
                          have hfz224_2 := blk_frozen BK257.out 2
                          obtain ⟨Ao225, co225, eo225⟩ := Kd.R_slice HO_25.out
                          subst eo225
                          go_wp2_with (first | ((with_reducible refine gate_callee (f := 30) rfl ?_); refine goesL_ (some 224) rfl rfl Try.func30 (by kernel_rfl) rfl #[.agg #[.int .i64 t231, .int .i64 t232], .agg #[.int .i64 t254, .int .i64 t255, .int .i64 t256], .slice Ao225 x25_6.length co225] rfl (by (try simp only [List.map_toArray, List.map_cons, List.map_nil]); first | done | rfl | (simp only [List.length_drop, List.length_take]; rfl)) ?_; (with_reducible refine (impl_RunCourse.calls k6 t231 t232 t254 t255 t256 _ _ x25_6 t276 false _ ?side1 ?side2 A156.out).mono ?_); (case side1 => repeat (first | exact (Kd.R_reads' HO_25.out).2.2 | (with_reducible refine Kd.C_alloc ?_ _) | (with_reducible refine Kd.C_drewN ?_ _) | (with_reducible refine Kd.C_drew ?_))); (case side2 => exact (Kd.R_reads' HO_25.out).2.1); rintro e w226 ⟨v277, rfl, ho0, hb⟩; refine ⟨_, rfl, ?_⟩; have n0_ := Aside0.mk (Kd.R_below (by (with_reducible repeat (first | apply Kd.R_alloc | apply Kd.R_drewN | apply Kd.R_drew)); exact HO_11.out) hb); have n1_ := Aside0.mk (Kd.R_elder' (by (with_reducible repeat (first | apply Kd.R_alloc | apply Kd.R_drewN | apply Kd.R_drew)); exact HO_22.out) (Kd.R_base ho0) hb); have n2_ := Aside0.mk (Kd.R_below (by (with_reducible repeat (first | apply Kd.R_alloc | apply Kd.R_drewN | apply Kd.R_drew)); exact HO_25.out) hb); have n3_ := Aside0.mk (Kd.R_lower (Kd.R_newB (Kd.R_newB (Kd.R_newB (Kd.R_new' ho0 (Kd.R_lt (by (with_reducible repeat (first | apply Kd.R_alloc | apply Kd.R_drewN | apply Kd.R_drew)); exact HO_22.out))) (g := gb237) (o := .cells #[.int .i64 t233, .int .i64 t234, .int .i64 t235] 24 (0, 0)) (by (with_reducible repeat (first | refine blk_drewN ?_ _ | refine blk_drew ?_ | refine blk_alloc ?_ _)); exact BK237.out)) (g := gb244) (o := .cells #[.int .i64 x245000_7, .int .i64 x245001_7, .int .i64 x245002_7] 24 (0, 0)) (by (with_reducible repeat (first | refine blk_drewN ?_ _ | refine blk_drew ?_ | refine blk_alloc ?_ _)); exact BK244.out)) (g := gb257) (o := .cells #[.int .i64 t254, .int .i64 t255, .int .i64 t256] 24 (0, 0)) (by (with_reducible repeat (first | refine blk_drewN ?_ _ | refine blk_drew ?_ | refine blk_alloc ?_ _)); exact BK257.out)) (below_size (by repeat (first | (with_reducible first | exact HB.out | apply below_alloc | apply pw_below_drewN | apply below_drew1 | refine below_set ?_ GE236.out | refine below_set ?_ GE237.out | refine below_set ?_ GE243.out | refine below_set ?_ GE244.out | refine below_set ?_ GE257.out) | exact HB.out)))); have n4_ := Aside0.mk (blk_below (g := gb236) (o := .cells #[.int .i64 t231, .int .i64 t232] 40 (0, 0)) (by (with_reducible repeat (first | refine blk_drewN ?_ _ | refine blk_drew ?_ | refine blk_alloc ?_ _)); exact BK236.out) hb); have n5_ := Aside0.mk (blk_below (g := gb237) (o := .cells #[.int .i64 t233, .int .i64 t234, .int .i64 t235] 24 (0, 0)) (by (with_reducible repeat (first | refine blk_drewN ?_ _ | refine blk_drew ?_ | refine blk_alloc ?_ _)); exact BK237.out) hb); have n6_ := Aside0.mk (blk_below (g := gb243) (o := .cells #[.int .i64 t238, .int .i64 t239] 40 (0, 0)) (by (with_reducible repeat (first | refine blk_drewN ?_ _ | refine blk_drew ?_ | refine blk_alloc ?_ _)); exact BK243.out) hb); have n7_ := Aside0.mk (blk_below (g := gb244) (o := .cells #[.int .i64 x245000_7, .int .i64 x245001_7, .int .i64 x245002_7] 24 (0, 0)) (by (with_reducible repeat (first | refine blk_drewN ?_ _ | refine blk_drew ?_ | refine blk_alloc ?_ _)); exact BK244.out) hb); have n8_ := Aside0.mk (blk_below (g := gb257) (o := .cells #[.int .i64 t254, .int .i64 t255, .int .i64 t256] 24 (0, 0)) (by (with_reducible repeat (first | refine blk_drewN ?_ _ | refine blk_drew ?_ | refine blk_alloc ?_ _)); exact BK257.out) hb); have n9_ := Aside0.mk (below_step (by repeat (first | (with_reducible first | exact HB.out | apply below_alloc | apply pw_below_drewN | apply below_drew1 | refine below_set ?_ GE236.out | refine below_set ?_ GE237.out | refine below_set ?_ GE243.out | refine below_set ?_ GE244.out | refine below_set ?_ GE257.out) | exact HB.out)) hb); clear HO_11; clear HO_22; clear HO_25; clear BK236; clear BK237; clear BK243; clear BK244; clear BK257; clear HB; have HO_11 := n0_; have HO_22 := n1_; have HO_25 := n2_; have HO278 := n3_; have BK236 := n4_; have BK237 := n5_; have BK243 := n6_; have BK244 := n7_; have BK257 := n8_; have HB := n9_; clear n0_ n1_ n2_ n3_ n4_ n5_ n6_ n7_ n8_ n9_; (try clear hb); (try clear hb2); (try clear hk); (try clear hi); (try clear ho0)))
                          go_ret
                          exact ⟨by first | rfl | (simp [errW_none, errW_some] <;> rfl) | (simp [*, errW_none, errW_some] <;> rfl), by repeat (first | (with_reducible first | exact HB.out | apply below_alloc | apply pw_below_drewN | apply below_drew1 | refine below_set ?_ GE236.out | refine below_set ?_ GE237.out | refine below_set ?_ GE243.out | refine below_set ?_ GE244.out | refine below_set ?_ GE257.out) | exact HB.out)⟩

/-- THE ONE PURE STATEMENT of laws_FnHomeward: yours. -/
def laws_FnHomeward.Pure : Prop := ∀ (l0 : List Int) (l1 : List Int), l0.length ≤ maxLen → l0.length * 1 ≤ 140737488351232 → (∀ x ∈ l0, (Lit.int .u8 x).wf = true) → l1.length ≤ maxLen → l1.length * 1 ≤ 140737488351232 → (∀ x ∈ l1, (Lit.int .u8 x).wf = true) → ∃ k, laws_FnHomeward.f k l0 l1 = some true
theorem laws_FnHomeward.walk (P : laws_FnHomeward.Pure) (a0 : Option Addr) (len0 cap0 : Nat) (z0 : List Int) (a1 : Option Addr) (len1 cap1 : Nat) (z1 : List Int) (w : World) (w0 : (a0 = none ∧ len0 = 0 ∧ cap0 = 0 ∧ z0 = []) ∨ ∃ x, a0 = some x ∧ len0 ≤ cap0 ∧ cap0 ≤ maxLen ∧ z0.length = cap0 ∧ (∀ i, i < z0.length → w.cell? (x.add i) = some (.int .u8 (z0.getD i 0))) ∧ ∀ n ∈ z0, (Lit.int .u8 n).wf = true) (y0 : len0 * 1 ≤ 140737488351232) (w1 : (a1 = none ∧ len1 = 0 ∧ cap1 = 0 ∧ z1 = []) ∨ ∃ x, a1 = some x ∧ len1 ≤ cap1 ∧ cap1 ≤ maxLen ∧ z1.length = cap1 ∧ (∀ i, i < z1.length → w.cell? (x.add i) = some (.int .u8 (z1.getD i 0))) ∧ ∀ n ∈ z1, (Lit.int .u8 n).wf = true) (y1 : len1 * 1 ≤ 140737488351232) :
  Calls Try.prog 12 #[.slice a0 len0 cap0, .slice a1 len1 cap1] w fun e w' => e = .returned (.bool true) ∧ Below w.heap.size w w' := by
 obtain ⟨l0, rfl, hr0, hm0, hw0, hc0⟩ := ReadsInt.ofRowC w0
 obtain ⟨l1, rfl, hr1, hm1, hw1, hc1⟩ := ReadsInt.ofRowC w1
 obtain ⟨k, h⟩ := P l0 l1 hm0 y0 hw0 hm1 y1 hw1
 refine (laws_FnHomeward.calls k _ _ l0 _ _ l1 true w (Kd.C_of_reads (d := (0 : Int)) (h1 := fun _ => rfl) hr0) hc0 (Kd.C_of_reads (d := (0 : Int)) (h1 := fun _ => rfl) hr1) hc1 h).mono ?_
 rintro e w' ⟨rfl, hd⟩
 exact ⟨rfl, hd⟩

end Go.Proofs.Ytibmehephlngfaa.Q
