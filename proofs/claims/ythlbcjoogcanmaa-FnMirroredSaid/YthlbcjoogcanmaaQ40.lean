-- Written by a program of this claim's session (gprint.py over the kit's print); not typed by hand; Lean checks it.
import Derived.Test.YthlbcjoogcanmaaQ0
import Derived.Test.YthlbcjoogcanmaaQ2
import Derived.Test.YthlbcjoogcanmaaQ17
import Derived.Test.YthlbcjoogcanmaaQ21
import Derived.Test.YthlbcjoogcanmaaQ22
import Derived.Test.YthlbcjoogcanmaaQ23
import Derived.Test.YthlbcjoogcanmaaQ26
namespace Go.Proofs.Ythlbcjoogcanmaa.Q
open Go.RowKit Go.Proofs.YthlbcjoogcanmaaW.PrintWords Go.Proofs.YthlbcjoogcanmaaW.PrintLast Go.Proofs.YthlbcjoogcanmaaW.PrintMore
attribute [local go_sem] max2_int min2_int max_two min_two max_three min_three max_four min_four   -- for this text's walks alone
set_option linter.unusedVariables false
set_option linter.unusedSimpArgs false

attribute [local go_sem high] eqA58
/-! ### laws_FnMirrored: function 15 -/
mutual
def laws_FnMirrored.j0 : Nat → List Int → List Int → List Int → List Int → Bool → Option (Bool)
  | 0, _, _, _, _, _ => none
  | k + 1, x10, x12, x14, x16, x101 => if x101 = true then (some false) else (laws_FnMirrored.l0 k x10 x12 x14 x16 0)
def laws_FnMirrored.l0 : Nat → List Int → List Int → List Int → List Int → Int → Option (Bool)
  | 0, _, _, _, _, _ => none
  | k + 1, x10, x12, x14, x16, x18 => if x18 < 4 then (if (Int.tmod x18 2) = 0 then (if 0 ≤ x18 then (if x18 < (x10.length : Int) then (if 0 ≤ (wrap64 (2 - x18)) then (if (wrap64 (2 - x18)) < (x12.length : Int) then (if (rd x10 x18) = (rd x12 (wrap64 (2 - x18))) then (if x18 < (x14.length : Int) then (if (wrap64 (2 - x18)) < (x16.length : Int) then (if (rd x14 x18) = (rd x16 (wrap64 (2 - x18))) then (laws_FnMirrored.l0 k x10 x12 x14 x16 (wrap64 (x18 + 1))) else (some false)) else (none)) else (none)) else (some false)) else (none)) else (none)) else (none)) else (none)) else (if 0 ≤ x18 then (if x18 < (x10.length : Int) then (if x18 < (x12.length : Int) then (if (rd x10 x18) = (rd x12 x18) then (if x18 < (x14.length : Int) then (if x18 < (x16.length : Int) then (if (rd x14 x18) = (rd x16 x18) then (laws_FnMirrored.l0 k x10 x12 x14 x16 (wrap64 (x18 + 1))) else (some false)) else (none)) else (none)) else (some false)) else (none)) else (none)) else (none))) else (some true)
end
def laws_FnMirrored.f (k : Nat) (l0 : List Int) (l1 : List Int) : Option (Bool) := (laws_r8Long.f l0 l1).bind fun t906 => (if t906 = true then (some true) else ((spec_R8Machine.f k l0).bind fun bt907 => ((impl_MirrorMachine.f bt907.1 bt907.2.1 bt907.2.2.1 bt907.2.2.2.1 bt907.2.2.2.2.1 bt907.2.2.2.2.2.1 bt907.2.2.2.2.2.2.1 bt907.2.2.2.2.2.2.2.1 bt907.2.2.2.2.2.2.2.2).bind fun bt917 => ((impl_MirrorMachine.f bt917.1 bt917.2.1 bt917.2.2.1 bt917.2.2.2.1 bt917.2.2.2.2.1 bt917.2.2.2.2.2.1 bt917.2.2.2.2.2.2.1 bt917.2.2.2.2.2.2.2.1 bt917.2.2.2.2.2.2.2.2.1).bind fun bt928 => ((impl_GapsOf.f bt907.1 bt907.2.1 bt907.2.2.1 bt907.2.2.2.1 bt907.2.2.2.2.1 bt907.2.2.2.2.2.1 bt907.2.2.2.2.2.2.1 bt907.2.2.2.2.2.2.2.1 bt907.2.2.2.2.2.2.2.2).bind fun bt939 => ((impl_GapsOf.f bt917.1 bt917.2.1 bt917.2.2.1 bt917.2.2.2.1 bt917.2.2.2.2.1 bt917.2.2.2.2.2.1 bt917.2.2.2.2.2.2.1 bt917.2.2.2.2.2.2.2.1 bt917.2.2.2.2.2.2.2.2.1).bind fun bt943 => ((impl_StrokesOf.f bt907.1 bt907.2.1 bt907.2.2.1 bt907.2.2.2.1 bt907.2.2.2.2.1 bt907.2.2.2.2.2.1 bt907.2.2.2.2.2.2.1 bt907.2.2.2.2.2.2.2.1 bt907.2.2.2.2.2.2.2.2).bind fun bt947 => ((impl_StrokesOf.f bt917.1 bt917.2.1 bt917.2.2.1 bt917.2.2.2.1 bt917.2.2.2.2.1 bt917.2.2.2.2.2.1 bt917.2.2.2.2.2.2.1 bt917.2.2.2.2.2.2.2.1 bt917.2.2.2.2.2.2.2.2.1).bind fun bt951 => (if bt917.2.2.2.2.2.2.2.2.2 = true then (if bt928.2.2.2.2.2.2.2.2.2 = true then (if bt939.2 = true then (if bt943.2 = true then (if bt947.2 = true then (if bt951.2 = true then (if ((!(bt928.1 == bt907.1) || (!(bt928.2.1 == bt907.2.1) || (!(bt928.2.2.1 == bt907.2.2.1) || (!(bt928.2.2.2.1 == bt907.2.2.2.1))))) || ((!(bt928.2.2.2.2.1 == bt907.2.2.2.2.1) || (!(bt928.2.2.2.2.2.1 == bt907.2.2.2.2.2.1) || (!(bt928.2.2.2.2.2.2.1 == bt907.2.2.2.2.2.2.1) || (!(bt928.2.2.2.2.2.2.2.1 == bt907.2.2.2.2.2.2.2.1))))) || (!(bt928.2.2.2.2.2.2.2.2.1 == bt907.2.2.2.2.2.2.2.2)))) = true then (laws_FnMirrored.j0 k bt939.1 bt943.1 bt947.1 bt951.1 true) else (if (bt939.1.length : Int) = 4 then (if (bt943.1.length : Int) = 4 then (if (bt947.1.length : Int) = 4 then (laws_FnMirrored.j0 k bt939.1 bt943.1 bt947.1 bt951.1 ((bt951.1.length : Int) != 4)) else (laws_FnMirrored.j0 k bt939.1 bt943.1 bt947.1 bt951.1 true)) else (laws_FnMirrored.j0 k bt939.1 bt943.1 bt947.1 bt951.1 true)) else (laws_FnMirrored.j0 k bt939.1 bt943.1 bt947.1 bt951.1 true))) else (laws_FnMirrored.j0 k bt939.1 bt943.1 bt947.1 bt951.1 true)) else (laws_FnMirrored.j0 k bt939.1 bt943.1 bt947.1 bt951.1 true)) else (laws_FnMirrored.j0 k bt939.1 bt943.1 bt947.1 bt951.1 true)) else (laws_FnMirrored.j0 k bt939.1 bt943.1 bt947.1 bt951.1 true)) else (laws_FnMirrored.j0 k bt939.1 bt943.1 bt947.1 bt951.1 true)) else (laws_FnMirrored.j0 k bt939.1 bt943.1 bt947.1 bt951.1 true))))))))))
theorem laws_FnMirrored.mono_l : ∀ k, (∀ y0 y1 y2 y3 y4, LeO (laws_FnMirrored.j0 k y0 y1 y2 y3 y4) (laws_FnMirrored.j0 (k + 1) y0 y1 y2 y3 y4)) ∧ (∀ y0 y1 y2 y3 y4, LeO (laws_FnMirrored.l0 k y0 y1 y2 y3 y4) (laws_FnMirrored.l0 (k + 1) y0 y1 y2 y3 y4))
  | 0 => ⟨fun _ _ _ _ _ r h => by simp [laws_FnMirrored.j0] at h, fun _ _ _ _ _ r h => by simp [laws_FnMirrored.l0] at h⟩
  | k + 1 => by
    obtain ⟨ih0, ih1⟩ := laws_FnMirrored.mono_l k
    refine ⟨?_, ?_⟩
    · intro y0 y1 y2 y3 y4
      unfold laws_FnMirrored.j0
      repeat' first
      | (with_reducible exact ih0 _ _ _ _ _)
      | (with_reducible exact ih1 _ _ _ _ _)
      | (with_reducible exact spec_R8Machine.mono _ _)
      | (with_reducible exact LeO.refl _)
      | (with_reducible exact LeO.none _)
      | (with_reducible refine LeO.ite ?_ ?_)
      | (with_reducible refine LeO.bind ?_ (fun _ => ?_))
      | exact ih0 _ _ _ _ _
      | exact ih1 _ _ _ _ _
      | exact spec_R8Machine.mono _ _
      | exact LeO.none _
      | refine LeO.ite ?_ ?_
      | refine LeO.bind ?_ (fun _ => ?_)
    · intro y0 y1 y2 y3 y4
      unfold laws_FnMirrored.l0
      repeat' first
      | (with_reducible exact ih0 _ _ _ _ _)
      | (with_reducible exact ih1 _ _ _ _ _)
      | (with_reducible exact spec_R8Machine.mono _ _)
      | (with_reducible exact LeO.refl _)
      | (with_reducible exact LeO.none _)
      | (with_reducible refine LeO.ite ?_ ?_)
      | (with_reducible refine LeO.bind ?_ (fun _ => ?_))
      | exact ih0 _ _ _ _ _
      | exact ih1 _ _ _ _ _
      | exact spec_R8Machine.mono _ _
      | exact LeO.none _
      | refine LeO.ite ?_ ?_
      | refine LeO.bind ?_ (fun _ => ?_)
theorem laws_FnMirrored.mono : ∀ a0 a1 k, LeO (laws_FnMirrored.f k a0 a1) (laws_FnMirrored.f (k + 1) a0 a1) := by
  intro a0 a1 k
  obtain ⟨ih0, ih1⟩ := laws_FnMirrored.mono_l k
  unfold laws_FnMirrored.f
  repeat' first
      | (with_reducible exact ih0 _ _ _ _ _)
      | (with_reducible exact ih1 _ _ _ _ _)
      | (with_reducible exact spec_R8Machine.mono _ _)
      | (with_reducible exact LeO.refl _)
      | (with_reducible exact LeO.none _)
      | (with_reducible refine LeO.ite ?_ ?_)
      | (with_reducible refine LeO.bind ?_ (fun _ => ?_))
      | exact ih0 _ _ _ _ _
      | exact ih1 _ _ _ _ _
      | exact spec_R8Machine.mono _ _
      | exact LeO.none _
      | refine LeO.ite ?_ ?_
      | refine LeO.bind ?_ (fun _ => ?_)
set_option maxHeartbeats 8000000 in
set_option maxRecDepth 100000 in
theorem laws_FnMirrored.calls (k : Nat) (A0 : Option Addr) (c0 : Nat) (l0 : List Int) (A1 : Option Addr) (c1 : Nat) (l1 : List Int) (r : Bool) (w : World) (hr0 : Kd.C (Kd.int .u8) w A0 l0.length l0) (hc0 : l0.length ≤ c0) (hr1 : Kd.C (Kd.int .u8) w A1 l1.length l1) (hc1 : l1.length ≤ c1) (h : laws_FnMirrored.f k l0 l1 = some r) :
    Calls Try.prog 15 #[.slice A0 l0.length c0, .slice A1 l1.length c1] w fun e w' => e = .returned (.bool r) ∧ Below w.heap.size w w' := by
  have hu58 := Try.underlying58
  have HR0 := Aside0.mk hr0
  have HC0 := Aside0.mk hc0
  clear hr0 hc0
  have HR1 := Aside0.mk hr1
  have HC1 := Aside0.mk hc1
  clear hr1 hc1
  have HB := Aside0.mk (Below.refl w.heap.size w)
  have H : ((laws_r8Long.f l0 l1).bind fun t906 => (if t906 = true then (some true) else ((spec_R8Machine.f k l0).bind fun bt907 => ((impl_MirrorMachine.f bt907.1 bt907.2.1 bt907.2.2.1 bt907.2.2.2.1 bt907.2.2.2.2.1 bt907.2.2.2.2.2.1 bt907.2.2.2.2.2.2.1 bt907.2.2.2.2.2.2.2.1 bt907.2.2.2.2.2.2.2.2).bind fun bt917 => ((impl_MirrorMachine.f bt917.1 bt917.2.1 bt917.2.2.1 bt917.2.2.2.1 bt917.2.2.2.2.1 bt917.2.2.2.2.2.1 bt917.2.2.2.2.2.2.1 bt917.2.2.2.2.2.2.2.1 bt917.2.2.2.2.2.2.2.2.1).bind fun bt928 => ((impl_GapsOf.f bt907.1 bt907.2.1 bt907.2.2.1 bt907.2.2.2.1 bt907.2.2.2.2.1 bt907.2.2.2.2.2.1 bt907.2.2.2.2.2.2.1 bt907.2.2.2.2.2.2.2.1 bt907.2.2.2.2.2.2.2.2).bind fun bt939 => ((impl_GapsOf.f bt917.1 bt917.2.1 bt917.2.2.1 bt917.2.2.2.1 bt917.2.2.2.2.1 bt917.2.2.2.2.2.1 bt917.2.2.2.2.2.2.1 bt917.2.2.2.2.2.2.2.1 bt917.2.2.2.2.2.2.2.2.1).bind fun bt943 => ((impl_StrokesOf.f bt907.1 bt907.2.1 bt907.2.2.1 bt907.2.2.2.1 bt907.2.2.2.2.1 bt907.2.2.2.2.2.1 bt907.2.2.2.2.2.2.1 bt907.2.2.2.2.2.2.2.1 bt907.2.2.2.2.2.2.2.2).bind fun bt947 => ((impl_StrokesOf.f bt917.1 bt917.2.1 bt917.2.2.1 bt917.2.2.2.1 bt917.2.2.2.2.1 bt917.2.2.2.2.2.1 bt917.2.2.2.2.2.2.1 bt917.2.2.2.2.2.2.2.1 bt917.2.2.2.2.2.2.2.2.1).bind fun bt951 => (if bt917.2.2.2.2.2.2.2.2.2 = true then (if bt928.2.2.2.2.2.2.2.2.2 = true then (if bt939.2 = true then (if bt943.2 = true then (if bt947.2 = true then (if bt951.2 = true then (if ((!(bt928.1 == bt907.1) || (!(bt928.2.1 == bt907.2.1) || (!(bt928.2.2.1 == bt907.2.2.1) || (!(bt928.2.2.2.1 == bt907.2.2.2.1))))) || ((!(bt928.2.2.2.2.1 == bt907.2.2.2.2.1) || (!(bt928.2.2.2.2.2.1 == bt907.2.2.2.2.2.1) || (!(bt928.2.2.2.2.2.2.1 == bt907.2.2.2.2.2.2.1) || (!(bt928.2.2.2.2.2.2.2.1 == bt907.2.2.2.2.2.2.2.1))))) || (!(bt928.2.2.2.2.2.2.2.2.1 == bt907.2.2.2.2.2.2.2.2)))) = true then (laws_FnMirrored.j0 k bt939.1 bt943.1 bt947.1 bt951.1 true) else (if (bt939.1.length : Int) = 4 then (if (bt943.1.length : Int) = 4 then (if (bt947.1.length : Int) = 4 then (laws_FnMirrored.j0 k bt939.1 bt943.1 bt947.1 bt951.1 ((bt951.1.length : Int) != 4)) else (laws_FnMirrored.j0 k bt939.1 bt943.1 bt947.1 bt951.1 true)) else (laws_FnMirrored.j0 k bt939.1 bt943.1 bt947.1 bt951.1 true)) else (laws_FnMirrored.j0 k bt939.1 bt943.1 bt947.1 bt951.1 true))) else (laws_FnMirrored.j0 k bt939.1 bt943.1 bt947.1 bt951.1 true)) else (laws_FnMirrored.j0 k bt939.1 bt943.1 bt947.1 bt951.1 true)) else (laws_FnMirrored.j0 k bt939.1 bt943.1 bt947.1 bt951.1 true)) else (laws_FnMirrored.j0 k bt939.1 bt943.1 bt947.1 bt951.1 true)) else (laws_FnMirrored.j0 k bt939.1 bt943.1 bt947.1 bt951.1 true)) else (laws_FnMirrored.j0 k bt939.1 bt943.1 bt947.1 bt951.1 true))))))))))) = some r := h
  clear h
  replace H := Option.bind_eq_some_iff.mp H
  obtain ⟨t906, A30, H⟩ := H
  replace H : (if t906 = true then (some true) else ((spec_R8Machine.f k l0).bind fun bt907 => ((impl_MirrorMachine.f bt907.1 bt907.2.1 bt907.2.2.1 bt907.2.2.2.1 bt907.2.2.2.2.1 bt907.2.2.2.2.2.1 bt907.2.2.2.2.2.2.1 bt907.2.2.2.2.2.2.2.1 bt907.2.2.2.2.2.2.2.2).bind fun bt917 => ((impl_MirrorMachine.f bt917.1 bt917.2.1 bt917.2.2.1 bt917.2.2.2.1 bt917.2.2.2.2.1 bt917.2.2.2.2.2.1 bt917.2.2.2.2.2.2.1 bt917.2.2.2.2.2.2.2.1 bt917.2.2.2.2.2.2.2.2.1).bind fun bt928 => ((impl_GapsOf.f bt907.1 bt907.2.1 bt907.2.2.1 bt907.2.2.2.1 bt907.2.2.2.2.1 bt907.2.2.2.2.2.1 bt907.2.2.2.2.2.2.1 bt907.2.2.2.2.2.2.2.1 bt907.2.2.2.2.2.2.2.2).bind fun bt939 => ((impl_GapsOf.f bt917.1 bt917.2.1 bt917.2.2.1 bt917.2.2.2.1 bt917.2.2.2.2.1 bt917.2.2.2.2.2.1 bt917.2.2.2.2.2.2.1 bt917.2.2.2.2.2.2.2.1 bt917.2.2.2.2.2.2.2.2.1).bind fun bt943 => ((impl_StrokesOf.f bt907.1 bt907.2.1 bt907.2.2.1 bt907.2.2.2.1 bt907.2.2.2.2.1 bt907.2.2.2.2.2.1 bt907.2.2.2.2.2.2.1 bt907.2.2.2.2.2.2.2.1 bt907.2.2.2.2.2.2.2.2).bind fun bt947 => ((impl_StrokesOf.f bt917.1 bt917.2.1 bt917.2.2.1 bt917.2.2.2.1 bt917.2.2.2.2.1 bt917.2.2.2.2.2.1 bt917.2.2.2.2.2.2.1 bt917.2.2.2.2.2.2.2.1 bt917.2.2.2.2.2.2.2.2.1).bind fun bt951 => (if bt917.2.2.2.2.2.2.2.2.2 = true then (if bt928.2.2.2.2.2.2.2.2.2 = true then (if bt939.2 = true then (if bt943.2 = true then (if bt947.2 = true then (if bt951.2 = true then (if ((!(bt928.1 == bt907.1) || (!(bt928.2.1 == bt907.2.1) || (!(bt928.2.2.1 == bt907.2.2.1) || (!(bt928.2.2.2.1 == bt907.2.2.2.1))))) || ((!(bt928.2.2.2.2.1 == bt907.2.2.2.2.1) || (!(bt928.2.2.2.2.2.1 == bt907.2.2.2.2.2.1) || (!(bt928.2.2.2.2.2.2.1 == bt907.2.2.2.2.2.2.1) || (!(bt928.2.2.2.2.2.2.2.1 == bt907.2.2.2.2.2.2.2.1))))) || (!(bt928.2.2.2.2.2.2.2.2.1 == bt907.2.2.2.2.2.2.2.2)))) = true then (laws_FnMirrored.j0 k bt939.1 bt943.1 bt947.1 bt951.1 true) else (if (bt939.1.length : Int) = 4 then (if (bt943.1.length : Int) = 4 then (if (bt947.1.length : Int) = 4 then (laws_FnMirrored.j0 k bt939.1 bt943.1 bt947.1 bt951.1 ((bt951.1.length : Int) != 4)) else (laws_FnMirrored.j0 k bt939.1 bt943.1 bt947.1 bt951.1 true)) else (laws_FnMirrored.j0 k bt939.1 bt943.1 bt947.1 bt951.1 true)) else (laws_FnMirrored.j0 k bt939.1 bt943.1 bt947.1 bt951.1 true))) else (laws_FnMirrored.j0 k bt939.1 bt943.1 bt947.1 bt951.1 true)) else (laws_FnMirrored.j0 k bt939.1 bt943.1 bt947.1 bt951.1 true)) else (laws_FnMirrored.j0 k bt939.1 bt943.1 bt947.1 bt951.1 true)) else (laws_FnMirrored.j0 k bt939.1 bt943.1 bt947.1 bt951.1 true)) else (laws_FnMirrored.j0 k bt939.1 bt943.1 bt947.1 bt951.1 true)) else (laws_FnMirrored.j0 k bt939.1 bt943.1 bt947.1 bt951.1 true)))))))))) = some r := H
  have A3 := Aside0.mk A30
  clear A30
  by_cases c4 : t906 = true
  · subst c4
    have H1 : (some true) = some r := by rw [if_pos rfl] at H; exact H
    clear H
    have H := H1
    clear H1
    obtain rfl := Option.some.inj H
    go_enter Try.func15, Try.ntmps15
    go_wp2_with (first | (go_at_call 33; (with_reducible refine (laws_r8Long.calls _ _ l0 _ _ l1 true _ ?side1 ?side2 ?side3 ?side4 A3.out).mono ?_); (case side1 => repeat (first | exact HR0.out | (with_reducible refine Kd.C_alloc ?_ _) | (with_reducible refine Kd.C_drewN ?_ _) | (with_reducible refine Kd.C_drew ?_))); (case side2 => exact HC0.out); (case side3 => repeat (first | exact HR1.out | (with_reducible refine Kd.C_alloc ?_ _) | (with_reducible refine Kd.C_drewN ?_ _) | (with_reducible refine Kd.C_drew ?_))); (case side4 => exact HC1.out); rintro e w' ⟨rfl, ⟨nd, rfl⟩⟩; (try first | exact ⟨rfl, _, World.drewN_drewN _ _ _⟩ | exact ⟨rfl, _, Eq.trans (World.drewN_drewN _ _ _) (congrArg (World.drewN _) (Nat.add_assoc _ _ _))⟩)))
    repeat (go_quiet (first | (go_at_call 33; (with_reducible refine (laws_r8Long.calls _ _ l0 _ _ l1 true _ ?side1 ?side2 ?side3 ?side4 A3.out).mono ?_); (case side1 => repeat (first | exact HR0.out | (with_reducible refine Kd.C_alloc ?_ _) | (with_reducible refine Kd.C_drewN ?_ _) | (with_reducible refine Kd.C_drew ?_))); (case side2 => exact HC0.out); (case side3 => repeat (first | exact HR1.out | (with_reducible refine Kd.C_alloc ?_ _) | (with_reducible refine Kd.C_drewN ?_ _) | (with_reducible refine Kd.C_drew ?_))); (case side4 => exact HC1.out); rintro e w' ⟨rfl, ⟨nd, rfl⟩⟩; (try first | exact ⟨rfl, _, World.drewN_drewN _ _ _⟩ | exact ⟨rfl, _, Eq.trans (World.drewN_drewN _ _ _) (congrArg (World.drewN _) (Nat.add_assoc _ _ _))⟩))); try go_wp2_with (first | (go_at_call 33; (with_reducible refine (laws_r8Long.calls _ _ l0 _ _ l1 true _ ?side1 ?side2 ?side3 ?side4 A3.out).mono ?_); (case side1 => repeat (first | exact HR0.out | (with_reducible refine Kd.C_alloc ?_ _) | (with_reducible refine Kd.C_drewN ?_ _) | (with_reducible refine Kd.C_drew ?_))); (case side2 => exact HC0.out); (case side3 => repeat (first | exact HR1.out | (with_reducible refine Kd.C_alloc ?_ _) | (with_reducible refine Kd.C_drewN ?_ _) | (with_reducible refine Kd.C_drew ?_))); (case side4 => exact HC1.out); rintro e w' ⟨rfl, ⟨nd, rfl⟩⟩; (try first | exact ⟨rfl, _, World.drewN_drewN _ _ _⟩ | exact ⟨rfl, _, Eq.trans (World.drewN_drewN _ _ _) (congrArg (World.drewN _) (Nat.add_assoc _ _ _))⟩))))
    go_ret
    exact ⟨by first | rfl | (simp [errW_none, errW_some] <;> rfl) | (simp [*, errW_none, errW_some] <;> rfl), by repeat (first | (with_reducible first | exact HB.out | apply below_alloc | apply pw_below_drewN | apply below_drew1) | exact HB.out)⟩
  · replace c4 := Bool.eq_false_iff.mpr c4
    subst c4
    have H1 : ((spec_R8Machine.f k l0).bind fun bt907 => ((impl_MirrorMachine.f bt907.1 bt907.2.1 bt907.2.2.1 bt907.2.2.2.1 bt907.2.2.2.2.1 bt907.2.2.2.2.2.1 bt907.2.2.2.2.2.2.1 bt907.2.2.2.2.2.2.2.1 bt907.2.2.2.2.2.2.2.2).bind fun bt917 => ((impl_MirrorMachine.f bt917.1 bt917.2.1 bt917.2.2.1 bt917.2.2.2.1 bt917.2.2.2.2.1 bt917.2.2.2.2.2.1 bt917.2.2.2.2.2.2.1 bt917.2.2.2.2.2.2.2.1 bt917.2.2.2.2.2.2.2.2.1).bind fun bt928 => ((impl_GapsOf.f bt907.1 bt907.2.1 bt907.2.2.1 bt907.2.2.2.1 bt907.2.2.2.2.1 bt907.2.2.2.2.2.1 bt907.2.2.2.2.2.2.1 bt907.2.2.2.2.2.2.2.1 bt907.2.2.2.2.2.2.2.2).bind fun bt939 => ((impl_GapsOf.f bt917.1 bt917.2.1 bt917.2.2.1 bt917.2.2.2.1 bt917.2.2.2.2.1 bt917.2.2.2.2.2.1 bt917.2.2.2.2.2.2.1 bt917.2.2.2.2.2.2.2.1 bt917.2.2.2.2.2.2.2.2.1).bind fun bt943 => ((impl_StrokesOf.f bt907.1 bt907.2.1 bt907.2.2.1 bt907.2.2.2.1 bt907.2.2.2.2.1 bt907.2.2.2.2.2.1 bt907.2.2.2.2.2.2.1 bt907.2.2.2.2.2.2.2.1 bt907.2.2.2.2.2.2.2.2).bind fun bt947 => ((impl_StrokesOf.f bt917.1 bt917.2.1 bt917.2.2.1 bt917.2.2.2.1 bt917.2.2.2.2.1 bt917.2.2.2.2.2.1 bt917.2.2.2.2.2.2.1 bt917.2.2.2.2.2.2.2.1 bt917.2.2.2.2.2.2.2.2.1).bind fun bt951 => (if bt917.2.2.2.2.2.2.2.2.2 = true then (if bt928.2.2.2.2.2.2.2.2.2 = true then (if bt939.2 = true then (if bt943.2 = true then (if bt947.2 = true then (if bt951.2 = true then (if ((!(bt928.1 == bt907.1) || (!(bt928.2.1 == bt907.2.1) || (!(bt928.2.2.1 == bt907.2.2.1) || (!(bt928.2.2.2.1 == bt907.2.2.2.1))))) || ((!(bt928.2.2.2.2.1 == bt907.2.2.2.2.1) || (!(bt928.2.2.2.2.2.1 == bt907.2.2.2.2.2.1) || (!(bt928.2.2.2.2.2.2.1 == bt907.2.2.2.2.2.2.1) || (!(bt928.2.2.2.2.2.2.2.1 == bt907.2.2.2.2.2.2.2.1))))) || (!(bt928.2.2.2.2.2.2.2.2.1 == bt907.2.2.2.2.2.2.2.2)))) = true then (laws_FnMirrored.j0 k bt939.1 bt943.1 bt947.1 bt951.1 true) else (if (bt939.1.length : Int) = 4 then (if (bt943.1.length : Int) = 4 then (if (bt947.1.length : Int) = 4 then (laws_FnMirrored.j0 k bt939.1 bt943.1 bt947.1 bt951.1 ((bt951.1.length : Int) != 4)) else (laws_FnMirrored.j0 k bt939.1 bt943.1 bt947.1 bt951.1 true)) else (laws_FnMirrored.j0 k bt939.1 bt943.1 bt947.1 bt951.1 true)) else (laws_FnMirrored.j0 k bt939.1 bt943.1 bt947.1 bt951.1 true))) else (laws_FnMirrored.j0 k bt939.1 bt943.1 bt947.1 bt951.1 true)) else (laws_FnMirrored.j0 k bt939.1 bt943.1 bt947.1 bt951.1 true)) else (laws_FnMirrored.j0 k bt939.1 bt943.1 bt947.1 bt951.1 true)) else (laws_FnMirrored.j0 k bt939.1 bt943.1 bt947.1 bt951.1 true)) else (laws_FnMirrored.j0 k bt939.1 bt943.1 bt947.1 bt951.1 true)) else (laws_FnMirrored.j0 k bt939.1 bt943.1 bt947.1 bt951.1 true))))))))) = some r := by rw [if_neg (show ¬ (false = true) by decide)] at H; exact H
    clear H
    have H := H1
    clear H1
    replace H := Option.bind_eq_some_iff.mp H
    obtain ⟨⟨t907, t908, t909, t910, t911, t912, t913, t914, t915⟩, A50, H⟩ := H
    replace H : ((impl_MirrorMachine.f t907 t908 t909 t910 t911 t912 t913 t914 t915).bind fun bt917 => ((impl_MirrorMachine.f bt917.1 bt917.2.1 bt917.2.2.1 bt917.2.2.2.1 bt917.2.2.2.2.1 bt917.2.2.2.2.2.1 bt917.2.2.2.2.2.2.1 bt917.2.2.2.2.2.2.2.1 bt917.2.2.2.2.2.2.2.2.1).bind fun bt928 => ((impl_GapsOf.f t907 t908 t909 t910 t911 t912 t913 t914 t915).bind fun bt939 => ((impl_GapsOf.f bt917.1 bt917.2.1 bt917.2.2.1 bt917.2.2.2.1 bt917.2.2.2.2.1 bt917.2.2.2.2.2.1 bt917.2.2.2.2.2.2.1 bt917.2.2.2.2.2.2.2.1 bt917.2.2.2.2.2.2.2.2.1).bind fun bt943 => ((impl_StrokesOf.f t907 t908 t909 t910 t911 t912 t913 t914 t915).bind fun bt947 => ((impl_StrokesOf.f bt917.1 bt917.2.1 bt917.2.2.1 bt917.2.2.2.1 bt917.2.2.2.2.1 bt917.2.2.2.2.2.1 bt917.2.2.2.2.2.2.1 bt917.2.2.2.2.2.2.2.1 bt917.2.2.2.2.2.2.2.2.1).bind fun bt951 => (if bt917.2.2.2.2.2.2.2.2.2 = true then (if bt928.2.2.2.2.2.2.2.2.2 = true then (if bt939.2 = true then (if bt943.2 = true then (if bt947.2 = true then (if bt951.2 = true then (if ((!(bt928.1 == t907) || (!(bt928.2.1 == t908) || (!(bt928.2.2.1 == t909) || (!(bt928.2.2.2.1 == t910))))) || ((!(bt928.2.2.2.2.1 == t911) || (!(bt928.2.2.2.2.2.1 == t912) || (!(bt928.2.2.2.2.2.2.1 == t913) || (!(bt928.2.2.2.2.2.2.2.1 == t914))))) || (!(bt928.2.2.2.2.2.2.2.2.1 == t915)))) = true then (laws_FnMirrored.j0 k bt939.1 bt943.1 bt947.1 bt951.1 true) else (if (bt939.1.length : Int) = 4 then (if (bt943.1.length : Int) = 4 then (if (bt947.1.length : Int) = 4 then (laws_FnMirrored.j0 k bt939.1 bt943.1 bt947.1 bt951.1 ((bt951.1.length : Int) != 4)) else (laws_FnMirrored.j0 k bt939.1 bt943.1 bt947.1 bt951.1 true)) else (laws_FnMirrored.j0 k bt939.1 bt943.1 bt947.1 bt951.1 true)) else (laws_FnMirrored.j0 k bt939.1 bt943.1 bt947.1 bt951.1 true))) else (laws_FnMirrored.j0 k bt939.1 bt943.1 bt947.1 bt951.1 true)) else (laws_FnMirrored.j0 k bt939.1 bt943.1 bt947.1 bt951.1 true)) else (laws_FnMirrored.j0 k bt939.1 bt943.1 bt947.1 bt951.1 true)) else (laws_FnMirrored.j0 k bt939.1 bt943.1 bt947.1 bt951.1 true)) else (laws_FnMirrored.j0 k bt939.1 bt943.1 bt947.1 bt951.1 true)) else (laws_FnMirrored.j0 k bt939.1 bt943.1 bt947.1 bt951.1 true)))))))) = some r := H
    have A5 := Aside0.mk A50
    clear A50
    replace H := Option.bind_eq_some_iff.mp H
    obtain ⟨⟨t917, t918, t919, t920, t921, t922, t923, t924, t925, t926⟩, A60, H⟩ := H
    replace H : ((impl_MirrorMachine.f t917 t918 t919 t920 t921 t922 t923 t924 t925).bind fun bt928 => ((impl_GapsOf.f t907 t908 t909 t910 t911 t912 t913 t914 t915).bind fun bt939 => ((impl_GapsOf.f t917 t918 t919 t920 t921 t922 t923 t924 t925).bind fun bt943 => ((impl_StrokesOf.f t907 t908 t909 t910 t911 t912 t913 t914 t915).bind fun bt947 => ((impl_StrokesOf.f t917 t918 t919 t920 t921 t922 t923 t924 t925).bind fun bt951 => (if t926 = true then (if bt928.2.2.2.2.2.2.2.2.2 = true then (if bt939.2 = true then (if bt943.2 = true then (if bt947.2 = true then (if bt951.2 = true then (if ((!(bt928.1 == t907) || (!(bt928.2.1 == t908) || (!(bt928.2.2.1 == t909) || (!(bt928.2.2.2.1 == t910))))) || ((!(bt928.2.2.2.2.1 == t911) || (!(bt928.2.2.2.2.2.1 == t912) || (!(bt928.2.2.2.2.2.2.1 == t913) || (!(bt928.2.2.2.2.2.2.2.1 == t914))))) || (!(bt928.2.2.2.2.2.2.2.2.1 == t915)))) = true then (laws_FnMirrored.j0 k bt939.1 bt943.1 bt947.1 bt951.1 true) else (if (bt939.1.length : Int) = 4 then (if (bt943.1.length : Int) = 4 then (if (bt947.1.length : Int) = 4 then (laws_FnMirrored.j0 k bt939.1 bt943.1 bt947.1 bt951.1 ((bt951.1.length : Int) != 4)) else (laws_FnMirrored.j0 k bt939.1 bt943.1 bt947.1 bt951.1 true)) else (laws_FnMirrored.j0 k bt939.1 bt943.1 bt947.1 bt951.1 true)) else (laws_FnMirrored.j0 k bt939.1 bt943.1 bt947.1 bt951.1 true))) else (laws_FnMirrored.j0 k bt939.1 bt943.1 bt947.1 bt951.1 true)) else (laws_FnMirrored.j0 k bt939.1 bt943.1 bt947.1 bt951.1 true)) else (laws_FnMirrored.j0 k bt939.1 bt943.1 bt947.1 bt951.1 true)) else (laws_FnMirrored.j0 k bt939.1 bt943.1 bt947.1 bt951.1 true)) else (laws_FnMirrored.j0 k bt939.1 bt943.1 bt947.1 bt951.1 true)) else (laws_FnMirrored.j0 k bt939.1 bt943.1 bt947.1 bt951.1 true))))))) = some r := H
    have A6 := Aside0.mk A60
    clear A60
    replace H := Option.bind_eq_some_iff.mp H
    obtain ⟨⟨t928, t929, t930, t931, t932, t933, t934, t935, t936, t937⟩, A70, H⟩ := H
    replace H : ((impl_GapsOf.f t907 t908 t909 t910 t911 t912 t913 t914 t915).bind fun bt939 => ((impl_GapsOf.f t917 t918 t919 t920 t921 t922 t923 t924 t925).bind fun bt943 => ((impl_StrokesOf.f t907 t908 t909 t910 t911 t912 t913 t914 t915).bind fun bt947 => ((impl_StrokesOf.f t917 t918 t919 t920 t921 t922 t923 t924 t925).bind fun bt951 => (if t926 = true then (if t937 = true then (if bt939.2 = true then (if bt943.2 = true then (if bt947.2 = true then (if bt951.2 = true then (if ((!(t928 == t907) || (!(t929 == t908) || (!(t930 == t909) || (!(t931 == t910))))) || ((!(t932 == t911) || (!(t933 == t912) || (!(t934 == t913) || (!(t935 == t914))))) || (!(t936 == t915)))) = true then (laws_FnMirrored.j0 k bt939.1 bt943.1 bt947.1 bt951.1 true) else (if (bt939.1.length : Int) = 4 then (if (bt943.1.length : Int) = 4 then (if (bt947.1.length : Int) = 4 then (laws_FnMirrored.j0 k bt939.1 bt943.1 bt947.1 bt951.1 ((bt951.1.length : Int) != 4)) else (laws_FnMirrored.j0 k bt939.1 bt943.1 bt947.1 bt951.1 true)) else (laws_FnMirrored.j0 k bt939.1 bt943.1 bt947.1 bt951.1 true)) else (laws_FnMirrored.j0 k bt939.1 bt943.1 bt947.1 bt951.1 true))) else (laws_FnMirrored.j0 k bt939.1 bt943.1 bt947.1 bt951.1 true)) else (laws_FnMirrored.j0 k bt939.1 bt943.1 bt947.1 bt951.1 true)) else (laws_FnMirrored.j0 k bt939.1 bt943.1 bt947.1 bt951.1 true)) else (laws_FnMirrored.j0 k bt939.1 bt943.1 bt947.1 bt951.1 true)) else (laws_FnMirrored.j0 k bt939.1 bt943.1 bt947.1 bt951.1 true)) else (laws_FnMirrored.j0 k bt939.1 bt943.1 bt947.1 bt951.1 true)))))) = some r := H
    have A7 := Aside0.mk A70
    clear A70
    replace H := Option.bind_eq_some_iff.mp H
    obtain ⟨⟨t939, t942⟩, A80, H⟩ := H
    replace H : ((impl_GapsOf.f t917 t918 t919 t920 t921 t922 t923 t924 t925).bind fun bt943 => ((impl_StrokesOf.f t907 t908 t909 t910 t911 t912 t913 t914 t915).bind fun bt947 => ((impl_StrokesOf.f t917 t918 t919 t920 t921 t922 t923 t924 t925).bind fun bt951 => (if t926 = true then (if t937 = true then (if t942 = true then (if bt943.2 = true then (if bt947.2 = true then (if bt951.2 = true then (if ((!(t928 == t907) || (!(t929 == t908) || (!(t930 == t909) || (!(t931 == t910))))) || ((!(t932 == t911) || (!(t933 == t912) || (!(t934 == t913) || (!(t935 == t914))))) || (!(t936 == t915)))) = true then (laws_FnMirrored.j0 k t939 bt943.1 bt947.1 bt951.1 true) else (if (t939.length : Int) = 4 then (if (bt943.1.length : Int) = 4 then (if (bt947.1.length : Int) = 4 then (laws_FnMirrored.j0 k t939 bt943.1 bt947.1 bt951.1 ((bt951.1.length : Int) != 4)) else (laws_FnMirrored.j0 k t939 bt943.1 bt947.1 bt951.1 true)) else (laws_FnMirrored.j0 k t939 bt943.1 bt947.1 bt951.1 true)) else (laws_FnMirrored.j0 k t939 bt943.1 bt947.1 bt951.1 true))) else (laws_FnMirrored.j0 k t939 bt943.1 bt947.1 bt951.1 true)) else (laws_FnMirrored.j0 k t939 bt943.1 bt947.1 bt951.1 true)) else (laws_FnMirrored.j0 k t939 bt943.1 bt947.1 bt951.1 true)) else (laws_FnMirrored.j0 k t939 bt943.1 bt947.1 bt951.1 true)) else (laws_FnMirrored.j0 k t939 bt943.1 bt947.1 bt951.1 true)) else (laws_FnMirrored.j0 k t939 bt943.1 bt947.1 bt951.1 true))))) = some r := H
    have A8 := Aside0.mk A80
    clear A80
    replace H := Option.bind_eq_some_iff.mp H
    obtain ⟨⟨t943, t946⟩, A90, H⟩ := H
    replace H : ((impl_StrokesOf.f t907 t908 t909 t910 t911 t912 t913 t914 t915).bind fun bt947 => ((impl_StrokesOf.f t917 t918 t919 t920 t921 t922 t923 t924 t925).bind fun bt951 => (if t926 = true then (if t937 = true then (if t942 = true then (if t946 = true then (if bt947.2 = true then (if bt951.2 = true then (if ((!(t928 == t907) || (!(t929 == t908) || (!(t930 == t909) || (!(t931 == t910))))) || ((!(t932 == t911) || (!(t933 == t912) || (!(t934 == t913) || (!(t935 == t914))))) || (!(t936 == t915)))) = true then (laws_FnMirrored.j0 k t939 t943 bt947.1 bt951.1 true) else (if (t939.length : Int) = 4 then (if (t943.length : Int) = 4 then (if (bt947.1.length : Int) = 4 then (laws_FnMirrored.j0 k t939 t943 bt947.1 bt951.1 ((bt951.1.length : Int) != 4)) else (laws_FnMirrored.j0 k t939 t943 bt947.1 bt951.1 true)) else (laws_FnMirrored.j0 k t939 t943 bt947.1 bt951.1 true)) else (laws_FnMirrored.j0 k t939 t943 bt947.1 bt951.1 true))) else (laws_FnMirrored.j0 k t939 t943 bt947.1 bt951.1 true)) else (laws_FnMirrored.j0 k t939 t943 bt947.1 bt951.1 true)) else (laws_FnMirrored.j0 k t939 t943 bt947.1 bt951.1 true)) else (laws_FnMirrored.j0 k t939 t943 bt947.1 bt951.1 true)) else (laws_FnMirrored.j0 k t939 t943 bt947.1 bt951.1 true)) else (laws_FnMirrored.j0 k t939 t943 bt947.1 bt951.1 true)))) = some r := H
    have A9 := Aside0.mk A90
    clear A90
    replace H := Option.bind_eq_some_iff.mp H
    obtain ⟨⟨t947, t950⟩, A100, H⟩ := H
    replace H : ((impl_StrokesOf.f t917 t918 t919 t920 t921 t922 t923 t924 t925).bind fun bt951 => (if t926 = true then (if t937 = true then (if t942 = true then (if t946 = true then (if t950 = true then (if bt951.2 = true then (if ((!(t928 == t907) || (!(t929 == t908) || (!(t930 == t909) || (!(t931 == t910))))) || ((!(t932 == t911) || (!(t933 == t912) || (!(t934 == t913) || (!(t935 == t914))))) || (!(t936 == t915)))) = true then (laws_FnMirrored.j0 k t939 t943 t947 bt951.1 true) else (if (t939.length : Int) = 4 then (if (t943.length : Int) = 4 then (if (t947.length : Int) = 4 then (laws_FnMirrored.j0 k t939 t943 t947 bt951.1 ((bt951.1.length : Int) != 4)) else (laws_FnMirrored.j0 k t939 t943 t947 bt951.1 true)) else (laws_FnMirrored.j0 k t939 t943 t947 bt951.1 true)) else (laws_FnMirrored.j0 k t939 t943 t947 bt951.1 true))) else (laws_FnMirrored.j0 k t939 t943 t947 bt951.1 true)) else (laws_FnMirrored.j0 k t939 t943 t947 bt951.1 true)) else (laws_FnMirrored.j0 k t939 t943 t947 bt951.1 true)) else (laws_FnMirrored.j0 k t939 t943 t947 bt951.1 true)) else (laws_FnMirrored.j0 k t939 t943 t947 bt951.1 true)) else (laws_FnMirrored.j0 k t939 t943 t947 bt951.1 true))) = some r := H
    have A10 := Aside0.mk A100
    clear A100
    replace H := Option.bind_eq_some_iff.mp H
    obtain ⟨⟨t951, t954⟩, A110, H⟩ := H
    replace H : (if t926 = true then (if t937 = true then (if t942 = true then (if t946 = true then (if t950 = true then (if t954 = true then (if ((!(t928 == t907) || (!(t929 == t908) || (!(t930 == t909) || (!(t931 == t910))))) || ((!(t932 == t911) || (!(t933 == t912) || (!(t934 == t913) || (!(t935 == t914))))) || (!(t936 == t915)))) = true then (laws_FnMirrored.j0 k t939 t943 t947 t951 true) else (if (t939.length : Int) = 4 then (if (t943.length : Int) = 4 then (if (t947.length : Int) = 4 then (laws_FnMirrored.j0 k t939 t943 t947 t951 ((t951.length : Int) != 4)) else (laws_FnMirrored.j0 k t939 t943 t947 t951 true)) else (laws_FnMirrored.j0 k t939 t943 t947 t951 true)) else (laws_FnMirrored.j0 k t939 t943 t947 t951 true))) else (laws_FnMirrored.j0 k t939 t943 t947 t951 true)) else (laws_FnMirrored.j0 k t939 t943 t947 t951 true)) else (laws_FnMirrored.j0 k t939 t943 t947 t951 true)) else (laws_FnMirrored.j0 k t939 t943 t947 t951 true)) else (laws_FnMirrored.j0 k t939 t943 t947 t951 true)) else (laws_FnMirrored.j0 k t939 t943 t947 t951 true)) = some r := H
    have A11 := Aside0.mk A110
    clear A110
    have HC12 := Aside0.mk H
    clear H
    go_enter Try.func15, Try.ntmps15
    go_upto_region 10 with (first | (go_at_call 33; (with_reducible refine (laws_r8Long.calls _ _ l0 _ _ l1 false _ ?side1 ?side2 ?side3 ?side4 A3.out).mono ?_); (case side1 => repeat (first | exact HR0.out | (with_reducible refine Kd.C_alloc ?_ _) | (with_reducible refine Kd.C_drewN ?_ _) | (with_reducible refine Kd.C_drew ?_))); (case side2 => exact HC0.out); (case side3 => repeat (first | exact HR1.out | (with_reducible refine Kd.C_alloc ?_ _) | (with_reducible refine Kd.C_drewN ?_ _) | (with_reducible refine Kd.C_drew ?_))); (case side4 => exact HC1.out); rintro e w' ⟨rfl, ⟨nd, rfl⟩⟩; (try first | exact ⟨rfl, _, World.drewN_drewN _ _ _⟩ | exact ⟨rfl, _, Eq.trans (World.drewN_drewN _ _ _) (congrArg (World.drewN _) (Nat.add_assoc _ _ _))⟩)) | (go_at_call 56; (with_reducible refine (spec_R8Machine.calls k _ _ l0 t907 t908 t909 t910 t911 t912 t913 t914 t915 _ ?side1 ?side2 A5.out).mono ?_); (case side1 => repeat (first | exact HR0.out | (with_reducible refine Kd.C_alloc ?_ _) | (with_reducible refine Kd.C_drewN ?_ _) | (with_reducible refine Kd.C_drew ?_))); (case side2 => exact HC0.out); rintro e w13 ⟨rfl, hb⟩; have n0_ := Aside0.mk (below_step (by repeat (first | (with_reducible first | exact HB.out | apply below_alloc | apply pw_below_drewN | apply below_drew1) | exact HB.out)) hb); clear HB; have HB := n0_; clear n0_; (try clear hb); (try clear hb2); (try clear hk); (try clear hi)) | ((with_reducible refine gate_dst (N := 5) rfl ?_); (try (refine gate_guard (by rfl) ?_; dsimp only)); refine box_event ?hg (N := 5) ?hd (cs := #[.int .i64 0, .int .i64 0, .int .i64 0, .int .i64 0, .int .i64 0, .int .i64 0, .int .i64 0, .int .i64 0, .int .i64 0]) (t := 58) ?hr ?_; (case hd => rfl); (case hg => rfl); (case hr => first | (go_simp; done) | (go_simp; rfl)); intro gb916 hg w14 hbox hb; have n0_ := Aside0.mk (below_step (by repeat (first | (with_reducible first | exact HB.out | apply below_alloc | apply pw_below_drewN | apply below_drew1) | exact HB.out)) hb); have n1_ := Aside0.mk (hbox); have n2_ := Aside0.mk ((by rw [hg]; exact (below_size (by repeat (first | (with_reducible first | exact HB.out | apply below_alloc | apply pw_below_drewN | apply below_drew1) | exact HB.out))) : w.heap.size ≤ gb916)); have n3_ := Aside0.mk ((by rw [hg]; exact (below_size (by repeat (first | (with_reducible first | exact HB.out | apply below_alloc | apply pw_below_drewN | apply below_drew1) | exact HB.out))) : w.heap.size ≤ gb916)); clear HB; have HB := n0_; have BK916 := n1_; have GW916 := n2_; have GE916 := n3_; clear n0_ n1_ n2_ n3_; clear hb hbox hg; have hcz15_0 : w14.cell? ⟨gb916, 0, none⟩ = some (.int .i64 0) := (blk_cell BK916.out 0).trans rfl; have hcz15_1 : w14.cell? ⟨gb916, 1, none⟩ = some (.int .i64 0) := (blk_cell BK916.out 1).trans rfl; have hcz15_2 : w14.cell? ⟨gb916, 2, none⟩ = some (.int .i64 0) := (blk_cell BK916.out 2).trans rfl; have hcz15_3 : w14.cell? ⟨gb916, 3, none⟩ = some (.int .i64 0) := (blk_cell BK916.out 3).trans rfl; have hcz15_4 : w14.cell? ⟨gb916, 4, none⟩ = some (.int .i64 0) := (blk_cell BK916.out 4).trans rfl; have hcz15_5 : w14.cell? ⟨gb916, 5, none⟩ = some (.int .i64 0) := (blk_cell BK916.out 5).trans rfl; have hcz15_6 : w14.cell? ⟨gb916, 6, none⟩ = some (.int .i64 0) := (blk_cell BK916.out 6).trans rfl; have hcz15_7 : w14.cell? ⟨gb916, 7, none⟩ = some (.int .i64 0) := (blk_cell BK916.out 7).trans rfl; have hcz15_8 : w14.cell? ⟨gb916, 8, none⟩ = some (.int .i64 0) := (blk_cell BK916.out 8).trans rfl; have hfz15_0 := blk_frozen BK916.out 0; have hfz15_1 := blk_frozen BK916.out 1; have hfz15_2 := blk_frozen BK916.out 2; have hfz15_3 := blk_frozen BK916.out 3; have hfz15_4 := blk_frozen BK916.out 4; have hfz15_5 := blk_frozen BK916.out 5; have hfz15_6 := blk_frozen BK916.out 6; have hfz15_7 := blk_frozen BK916.out 7; have hfz15_8 := blk_frozen BK916.out 8) | (go_at_call 50; (with_reducible refine (impl_MirrorMachine.calls t907 t908 t909 t910 t911 t912 t913 t914 t915 t917 t918 t919 t920 t921 t922 t923 t924 t925 t926 _ A6.out).mono ?_); rintro e w16 ⟨rfl, hb⟩; have n0_ := Aside0.mk (blk_below (g := gb916) (o := .cells #[.int .i64 t907, .int .i64 t908, .int .i64 t909, .int .i64 t910, .int .i64 t911, .int .i64 t912, .int .i64 t913, .int .i64 t914, .int .i64 t915] 58 (0, 0)) (by (with_reducible repeat (first | refine blk_drewN ?_ _ | refine blk_drew ?_ | refine blk_alloc ?_ _)); refine blk_put (cs := #[.int .i64 t907, .int .i64 t908, .int .i64 t909, .int .i64 t910, .int .i64 t911, .int .i64 t912, .int .i64 t913, .int .i64 t914, .int .i64 0]) ?_ 8 _ rfl; (with_reducible repeat (first | refine blk_drewN ?_ _ | refine blk_drew ?_ | refine blk_alloc ?_ _)); refine blk_put (cs := #[.int .i64 t907, .int .i64 t908, .int .i64 t909, .int .i64 t910, .int .i64 t911, .int .i64 t912, .int .i64 t913, .int .i64 0, .int .i64 0]) ?_ 7 _ rfl; (with_reducible repeat (first | refine blk_drewN ?_ _ | refine blk_drew ?_ | refine blk_alloc ?_ _)); refine blk_put (cs := #[.int .i64 t907, .int .i64 t908, .int .i64 t909, .int .i64 t910, .int .i64 t911, .int .i64 t912, .int .i64 0, .int .i64 0, .int .i64 0]) ?_ 6 _ rfl; (with_reducible repeat (first | refine blk_drewN ?_ _ | refine blk_drew ?_ | refine blk_alloc ?_ _)); refine blk_put (cs := #[.int .i64 t907, .int .i64 t908, .int .i64 t909, .int .i64 t910, .int .i64 t911, .int .i64 0, .int .i64 0, .int .i64 0, .int .i64 0]) ?_ 5 _ rfl; (with_reducible repeat (first | refine blk_drewN ?_ _ | refine blk_drew ?_ | refine blk_alloc ?_ _)); refine blk_put (cs := #[.int .i64 t907, .int .i64 t908, .int .i64 t909, .int .i64 t910, .int .i64 0, .int .i64 0, .int .i64 0, .int .i64 0, .int .i64 0]) ?_ 4 _ rfl; (with_reducible repeat (first | refine blk_drewN ?_ _ | refine blk_drew ?_ | refine blk_alloc ?_ _)); refine blk_put (cs := #[.int .i64 t907, .int .i64 t908, .int .i64 t909, .int .i64 0, .int .i64 0, .int .i64 0, .int .i64 0, .int .i64 0, .int .i64 0]) ?_ 3 _ rfl; (with_reducible repeat (first | refine blk_drewN ?_ _ | refine blk_drew ?_ | refine blk_alloc ?_ _)); refine blk_put (cs := #[.int .i64 t907, .int .i64 t908, .int .i64 0, .int .i64 0, .int .i64 0, .int .i64 0, .int .i64 0, .int .i64 0, .int .i64 0]) ?_ 2 _ rfl; (with_reducible repeat (first | refine blk_drewN ?_ _ | refine blk_drew ?_ | refine blk_alloc ?_ _)); refine blk_put (cs := #[.int .i64 t907, .int .i64 0, .int .i64 0, .int .i64 0, .int .i64 0, .int .i64 0, .int .i64 0, .int .i64 0, .int .i64 0]) ?_ 1 _ rfl; (with_reducible repeat (first | refine blk_drewN ?_ _ | refine blk_drew ?_ | refine blk_alloc ?_ _)); refine blk_put (cs := #[.int .i64 0, .int .i64 0, .int .i64 0, .int .i64 0, .int .i64 0, .int .i64 0, .int .i64 0, .int .i64 0, .int .i64 0]) ?_ 0 _ rfl; (with_reducible repeat (first | refine blk_drewN ?_ _ | refine blk_drew ?_ | refine blk_alloc ?_ _)); exact BK916.out) hb); have n1_ := Aside0.mk (below_step (by repeat (first | (with_reducible first | exact HB.out | apply below_alloc | apply pw_below_drewN | apply below_drew1 | refine below_set ?_ GE916.out) | exact HB.out)) hb); clear BK916; clear HB; have BK916 := n0_; have HB := n1_; clear n0_ n1_; (try clear hb); (try clear hb2); (try clear hk); (try clear hi)) | ((with_reducible refine gate_dst (N := 6) rfl ?_); (try (refine gate_guard (by rfl) ?_; dsimp only)); refine box_event ?hg (N := 6) ?hd (cs := #[.int .i64 0, .int .i64 0, .int .i64 0, .int .i64 0, .int .i64 0, .int .i64 0, .int .i64 0, .int .i64 0, .int .i64 0]) (t := 58) ?hr ?_; (case hd => rfl); (case hg => rfl); (case hr => first | (go_simp; done) | (go_simp; rfl)); intro gb927 hg w17 hbox hb; have n0_ := Aside0.mk (blk_below (g := gb916) (o := .cells #[.int .i64 t907, .int .i64 t908, .int .i64 t909, .int .i64 t910, .int .i64 t911, .int .i64 t912, .int .i64 t913, .int .i64 t914, .int .i64 t915] 58 (0, 0)) (by (with_reducible repeat (first | refine blk_drewN ?_ _ | refine blk_drew ?_ | refine blk_alloc ?_ _)); exact BK916.out) hb); have n1_ := Aside0.mk (below_step (by repeat (first | (with_reducible first | exact HB.out | apply below_alloc | apply pw_below_drewN | apply below_drew1 | refine below_set ?_ GE916.out) | exact HB.out)) hb); have n2_ := Aside0.mk (hbox); have n3_ := Aside0.mk ((by rw [hg]; exact (below_size (by repeat (first | (with_reducible first | exact HB.out | apply below_alloc | apply pw_below_drewN | apply below_drew1 | refine below_set ?_ GE916.out) | exact HB.out))) : w.heap.size ≤ gb927)); have n4_ := Aside0.mk ((by rw [hg]; exact (below_size (by repeat (first | (with_reducible first | exact HB.out | apply below_alloc | apply pw_below_drewN | apply below_drew1 | refine below_set ?_ GE916.out) | exact HB.out))) : w.heap.size ≤ gb927)); have n5_ := Aside0.mk ((by rw [hg]; exact Nat.ne_of_lt (blk_lt (g := gb916) (o := .cells #[.int .i64 t907, .int .i64 t908, .int .i64 t909, .int .i64 t910, .int .i64 t911, .int .i64 t912, .int .i64 t913, .int .i64 t914, .int .i64 t915] 58 (0, 0)) (by (with_reducible repeat (first | refine blk_drewN ?_ _ | refine blk_drew ?_ | refine blk_alloc ?_ _)); exact BK916.out)) : gb916 ≠ gb927)); have n6_ := Aside0.mk ((by rw [hg]; exact Nat.ne_of_gt (blk_lt (g := gb916) (o := .cells #[.int .i64 t907, .int .i64 t908, .int .i64 t909, .int .i64 t910, .int .i64 t911, .int .i64 t912, .int .i64 t913, .int .i64 t914, .int .i64 t915] 58 (0, 0)) (by (with_reducible repeat (first | refine blk_drewN ?_ _ | refine blk_drew ?_ | refine blk_alloc ?_ _)); exact BK916.out)) : gb927 ≠ gb916)); clear BK916; clear HB; have BK916 := n0_; have HB := n1_; have BK927 := n2_; have GW927 := n3_; have GE927 := n4_; have NB916_927 := n5_; have NB927_916 := n6_; clear n0_ n1_ n2_ n3_ n4_ n5_ n6_; clear hb hbox hg; have hnb18 := NB927_916.out; have hnc18 := NB916_927.out; have hcz19_0 : w17.cell? ⟨gb927, 0, none⟩ = some (.int .i64 0) := (blk_cell BK927.out 0).trans rfl; have hcz19_1 : w17.cell? ⟨gb927, 1, none⟩ = some (.int .i64 0) := (blk_cell BK927.out 1).trans rfl; have hcz19_2 : w17.cell? ⟨gb927, 2, none⟩ = some (.int .i64 0) := (blk_cell BK927.out 2).trans rfl; have hcz19_3 : w17.cell? ⟨gb927, 3, none⟩ = some (.int .i64 0) := (blk_cell BK927.out 3).trans rfl; have hcz19_4 : w17.cell? ⟨gb927, 4, none⟩ = some (.int .i64 0) := (blk_cell BK927.out 4).trans rfl; have hcz19_5 : w17.cell? ⟨gb927, 5, none⟩ = some (.int .i64 0) := (blk_cell BK927.out 5).trans rfl; have hcz19_6 : w17.cell? ⟨gb927, 6, none⟩ = some (.int .i64 0) := (blk_cell BK927.out 6).trans rfl; have hcz19_7 : w17.cell? ⟨gb927, 7, none⟩ = some (.int .i64 0) := (blk_cell BK927.out 7).trans rfl; have hcz19_8 : w17.cell? ⟨gb927, 8, none⟩ = some (.int .i64 0) := (blk_cell BK927.out 8).trans rfl; have hfz19_0 := blk_frozen BK927.out 0; have hfz19_1 := blk_frozen BK927.out 1; have hfz19_2 := blk_frozen BK927.out 2; have hfz19_3 := blk_frozen BK927.out 3; have hfz19_4 := blk_frozen BK927.out 4; have hfz19_5 := blk_frozen BK927.out 5; have hfz19_6 := blk_frozen BK927.out 6; have hfz19_7 := blk_frozen BK927.out 7; have hfz19_8 := blk_frozen BK927.out 8) | (go_at_call 50; (with_reducible refine (impl_MirrorMachine.calls t917 t918 t919 t920 t921 t922 t923 t924 t925 t928 t929 t930 t931 t932 t933 t934 t935 t936 t937 _ A7.out).mono ?_); rintro e w20 ⟨rfl, hb⟩; have n0_ := Aside0.mk (blk_below (g := gb916) (o := .cells #[.int .i64 t907, .int .i64 t908, .int .i64 t909, .int .i64 t910, .int .i64 t911, .int .i64 t912, .int .i64 t913, .int .i64 t914, .int .i64 t915] 58 (0, 0)) (by (with_reducible repeat (first | refine blk_drewN ?_ _ | refine blk_drew ?_ | refine blk_alloc ?_ _)); refine blk_far ?_ NB916_927.out _; (with_reducible repeat (first | refine blk_drewN ?_ _ | refine blk_drew ?_ | refine blk_alloc ?_ _)); refine blk_far ?_ NB916_927.out _; (with_reducible repeat (first | refine blk_drewN ?_ _ | refine blk_drew ?_ | refine blk_alloc ?_ _)); refine blk_far ?_ NB916_927.out _; (with_reducible repeat (first | refine blk_drewN ?_ _ | refine blk_drew ?_ | refine blk_alloc ?_ _)); refine blk_far ?_ NB916_927.out _; (with_reducible repeat (first | refine blk_drewN ?_ _ | refine blk_drew ?_ | refine blk_alloc ?_ _)); refine blk_far ?_ NB916_927.out _; (with_reducible repeat (first | refine blk_drewN ?_ _ | refine blk_drew ?_ | refine blk_alloc ?_ _)); refine blk_far ?_ NB916_927.out _; (with_reducible repeat (first | refine blk_drewN ?_ _ | refine blk_drew ?_ | refine blk_alloc ?_ _)); refine blk_far ?_ NB916_927.out _; (with_reducible repeat (first | refine blk_drewN ?_ _ | refine blk_drew ?_ | refine blk_alloc ?_ _)); refine blk_far ?_ NB916_927.out _; (with_reducible repeat (first | refine blk_drewN ?_ _ | refine blk_drew ?_ | refine blk_alloc ?_ _)); refine blk_far ?_ NB916_927.out _; (with_reducible repeat (first | refine blk_drewN ?_ _ | refine blk_drew ?_ | refine blk_alloc ?_ _)); exact BK916.out) hb); have n1_ := Aside0.mk (blk_below (g := gb927) (o := .cells #[.int .i64 t917, .int .i64 t918, .int .i64 t919, .int .i64 t920, .int .i64 t921, .int .i64 t922, .int .i64 t923, .int .i64 t924, .int .i64 t925] 58 (0, 0)) (by (with_reducible repeat (first | refine blk_drewN ?_ _ | refine blk_drew ?_ | refine blk_alloc ?_ _)); refine blk_put (cs := #[.int .i64 t917, .int .i64 t918, .int .i64 t919, .int .i64 t920, .int .i64 t921, .int .i64 t922, .int .i64 t923, .int .i64 t924, .int .i64 0]) ?_ 8 _ rfl; (with_reducible repeat (first | refine blk_drewN ?_ _ | refine blk_drew ?_ | refine blk_alloc ?_ _)); refine blk_put (cs := #[.int .i64 t917, .int .i64 t918, .int .i64 t919, .int .i64 t920, .int .i64 t921, .int .i64 t922, .int .i64 t923, .int .i64 0, .int .i64 0]) ?_ 7 _ rfl; (with_reducible repeat (first | refine blk_drewN ?_ _ | refine blk_drew ?_ | refine blk_alloc ?_ _)); refine blk_put (cs := #[.int .i64 t917, .int .i64 t918, .int .i64 t919, .int .i64 t920, .int .i64 t921, .int .i64 t922, .int .i64 0, .int .i64 0, .int .i64 0]) ?_ 6 _ rfl; (with_reducible repeat (first | refine blk_drewN ?_ _ | refine blk_drew ?_ | refine blk_alloc ?_ _)); refine blk_put (cs := #[.int .i64 t917, .int .i64 t918, .int .i64 t919, .int .i64 t920, .int .i64 t921, .int .i64 0, .int .i64 0, .int .i64 0, .int .i64 0]) ?_ 5 _ rfl; (with_reducible repeat (first | refine blk_drewN ?_ _ | refine blk_drew ?_ | refine blk_alloc ?_ _)); refine blk_put (cs := #[.int .i64 t917, .int .i64 t918, .int .i64 t919, .int .i64 t920, .int .i64 0, .int .i64 0, .int .i64 0, .int .i64 0, .int .i64 0]) ?_ 4 _ rfl; (with_reducible repeat (first | refine blk_drewN ?_ _ | refine blk_drew ?_ | refine blk_alloc ?_ _)); refine blk_put (cs := #[.int .i64 t917, .int .i64 t918, .int .i64 t919, .int .i64 0, .int .i64 0, .int .i64 0, .int .i64 0, .int .i64 0, .int .i64 0]) ?_ 3 _ rfl; (with_reducible repeat (first | refine blk_drewN ?_ _ | refine blk_drew ?_ | refine blk_alloc ?_ _)); refine blk_put (cs := #[.int .i64 t917, .int .i64 t918, .int .i64 0, .int .i64 0, .int .i64 0, .int .i64 0, .int .i64 0, .int .i64 0, .int .i64 0]) ?_ 2 _ rfl; (with_reducible repeat (first | refine blk_drewN ?_ _ | refine blk_drew ?_ | refine blk_alloc ?_ _)); refine blk_put (cs := #[.int .i64 t917, .int .i64 0, .int .i64 0, .int .i64 0, .int .i64 0, .int .i64 0, .int .i64 0, .int .i64 0, .int .i64 0]) ?_ 1 _ rfl; (with_reducible repeat (first | refine blk_drewN ?_ _ | refine blk_drew ?_ | refine blk_alloc ?_ _)); refine blk_put (cs := #[.int .i64 0, .int .i64 0, .int .i64 0, .int .i64 0, .int .i64 0, .int .i64 0, .int .i64 0, .int .i64 0, .int .i64 0]) ?_ 0 _ rfl; (with_reducible repeat (first | refine blk_drewN ?_ _ | refine blk_drew ?_ | refine blk_alloc ?_ _)); exact BK927.out) hb); have n2_ := Aside0.mk (below_step (by repeat (first | (with_reducible first | exact HB.out | apply below_alloc | apply pw_below_drewN | apply below_drew1 | refine below_set ?_ GE916.out | refine below_set ?_ GE927.out) | exact HB.out)) hb); clear BK916; clear BK927; clear HB; have BK916 := n0_; have BK927 := n1_; have HB := n2_; clear n0_ n1_ n2_; (try clear hb); (try clear hb2); (try clear hk); (try clear hi)) | ((with_reducible refine gate_dst (N := 8) rfl ?_); (try (refine gate_guard (by rfl) ?_; dsimp only)); refine box_event ?hg (N := 8) ?hd (cs := #[.int .i64 0, .int .i64 0, .int .i64 0, .int .i64 0, .int .i64 0, .int .i64 0, .int .i64 0, .int .i64 0, .int .i64 0]) (t := 58) ?hr ?_; (case hd => rfl); (case hg => rfl); (case hr => first | (go_simp; done) | (go_simp; rfl)); intro gb938 hg w21 hbox hb; have n0_ := Aside0.mk (blk_below (g := gb916) (o := .cells #[.int .i64 t907, .int .i64 t908, .int .i64 t909, .int .i64 t910, .int .i64 t911, .int .i64 t912, .int .i64 t913, .int .i64 t914, .int .i64 t915] 58 (0, 0)) (by (with_reducible repeat (first | refine blk_drewN ?_ _ | refine blk_drew ?_ | refine blk_alloc ?_ _)); exact BK916.out) hb); have n1_ := Aside0.mk (blk_below (g := gb927) (o := .cells #[.int .i64 t917, .int .i64 t918, .int .i64 t919, .int .i64 t920, .int .i64 t921, .int .i64 t922, .int .i64 t923, .int .i64 t924, .int .i64 t925] 58 (0, 0)) (by (with_reducible repeat (first | refine blk_drewN ?_ _ | refine blk_drew ?_ | refine blk_alloc ?_ _)); exact BK927.out) hb); have n2_ := Aside0.mk (below_step (by repeat (first | (with_reducible first | exact HB.out | apply below_alloc | apply pw_below_drewN | apply below_drew1 | refine below_set ?_ GE916.out | refine below_set ?_ GE927.out) | exact HB.out)) hb); have n3_ := Aside0.mk (hbox); have n4_ := Aside0.mk ((by rw [hg]; exact (below_size (by repeat (first | (with_reducible first | exact HB.out | apply below_alloc | apply pw_below_drewN | apply below_drew1 | refine below_set ?_ GE916.out | refine below_set ?_ GE927.out) | exact HB.out))) : w.heap.size ≤ gb938)); have n5_ := Aside0.mk ((by rw [hg]; exact (below_size (by repeat (first | (with_reducible first | exact HB.out | apply below_alloc | apply pw_below_drewN | apply below_drew1 | refine below_set ?_ GE916.out | refine below_set ?_ GE927.out) | exact HB.out))) : w.heap.size ≤ gb938)); have n6_ := Aside0.mk ((by rw [hg]; exact Nat.ne_of_lt (blk_lt (g := gb916) (o := .cells #[.int .i64 t907, .int .i64 t908, .int .i64 t909, .int .i64 t910, .int .i64 t911, .int .i64 t912, .int .i64 t913, .int .i64 t914, .int .i64 t915] 58 (0, 0)) (by (with_reducible repeat (first | refine blk_drewN ?_ _ | refine blk_drew ?_ | refine blk_alloc ?_ _)); exact BK916.out)) : gb916 ≠ gb938)); have n7_ := Aside0.mk ((by rw [hg]; exact Nat.ne_of_gt (blk_lt (g := gb916) (o := .cells #[.int .i64 t907, .int .i64 t908, .int .i64 t909, .int .i64 t910, .int .i64 t911, .int .i64 t912, .int .i64 t913, .int .i64 t914, .int .i64 t915] 58 (0, 0)) (by (with_reducible repeat (first | refine blk_drewN ?_ _ | refine blk_drew ?_ | refine blk_alloc ?_ _)); exact BK916.out)) : gb938 ≠ gb916)); have n8_ := Aside0.mk ((by rw [hg]; exact Nat.ne_of_lt (blk_lt (g := gb927) (o := .cells #[.int .i64 t917, .int .i64 t918, .int .i64 t919, .int .i64 t920, .int .i64 t921, .int .i64 t922, .int .i64 t923, .int .i64 t924, .int .i64 t925] 58 (0, 0)) (by (with_reducible repeat (first | refine blk_drewN ?_ _ | refine blk_drew ?_ | refine blk_alloc ?_ _)); exact BK927.out)) : gb927 ≠ gb938)); have n9_ := Aside0.mk ((by rw [hg]; exact Nat.ne_of_gt (blk_lt (g := gb927) (o := .cells #[.int .i64 t917, .int .i64 t918, .int .i64 t919, .int .i64 t920, .int .i64 t921, .int .i64 t922, .int .i64 t923, .int .i64 t924, .int .i64 t925] 58 (0, 0)) (by (with_reducible repeat (first | refine blk_drewN ?_ _ | refine blk_drew ?_ | refine blk_alloc ?_ _)); exact BK927.out)) : gb938 ≠ gb927)); clear BK916; clear BK927; clear HB; have BK916 := n0_; have BK927 := n1_; have HB := n2_; have BK938 := n3_; have GW938 := n4_; have GE938 := n5_; have NB916_938 := n6_; have NB938_916 := n7_; have NB927_938 := n8_; have NB938_927 := n9_; clear n0_ n1_ n2_ n3_ n4_ n5_ n6_ n7_ n8_ n9_; clear hb hbox hg; have hnb22 := NB938_916.out; have hnc22 := NB916_938.out; have hnb23 := NB938_927.out; have hnc23 := NB927_938.out; have hcz24_0 : w21.cell? ⟨gb938, 0, none⟩ = some (.int .i64 0) := (blk_cell BK938.out 0).trans rfl; have hcz24_1 : w21.cell? ⟨gb938, 1, none⟩ = some (.int .i64 0) := (blk_cell BK938.out 1).trans rfl; have hcz24_2 : w21.cell? ⟨gb938, 2, none⟩ = some (.int .i64 0) := (blk_cell BK938.out 2).trans rfl; have hcz24_3 : w21.cell? ⟨gb938, 3, none⟩ = some (.int .i64 0) := (blk_cell BK938.out 3).trans rfl; have hcz24_4 : w21.cell? ⟨gb938, 4, none⟩ = some (.int .i64 0) := (blk_cell BK938.out 4).trans rfl; have hcz24_5 : w21.cell? ⟨gb938, 5, none⟩ = some (.int .i64 0) := (blk_cell BK938.out 5).trans rfl; have hcz24_6 : w21.cell? ⟨gb938, 6, none⟩ = some (.int .i64 0) := (blk_cell BK938.out 6).trans rfl; have hcz24_7 : w21.cell? ⟨gb938, 7, none⟩ = some (.int .i64 0) := (blk_cell BK938.out 7).trans rfl; have hcz24_8 : w21.cell? ⟨gb938, 8, none⟩ = some (.int .i64 0) := (blk_cell BK938.out 8).trans rfl; have hfz24_0 := blk_frozen BK938.out 0; have hfz24_1 := blk_frozen BK938.out 1; have hfz24_2 := blk_frozen BK938.out 2; have hfz24_3 := blk_frozen BK938.out 3; have hfz24_4 := blk_frozen BK938.out 4; have hfz24_5 := blk_frozen BK938.out 5; have hfz24_6 := blk_frozen BK938.out 6; have hfz24_7 := blk_frozen BK938.out 7; have hfz24_8 := blk_frozen BK938.out 8; have hcz25_0 : w21.cell? ⟨gb916, 0, none⟩ = some (.int .i64 t907) := (blk_cell BK916.out 0).trans rfl; have hcz25_1 : w21.cell? ⟨gb916, 1, none⟩ = some (.int .i64 t908) := (blk_cell BK916.out 1).trans rfl; have hcz25_2 : w21.cell? ⟨gb916, 2, none⟩ = some (.int .i64 t909) := (blk_cell BK916.out 2).trans rfl; have hcz25_3 : w21.cell? ⟨gb916, 3, none⟩ = some (.int .i64 t910) := (blk_cell BK916.out 3).trans rfl; have hcz25_4 : w21.cell? ⟨gb916, 4, none⟩ = some (.int .i64 t911) := (blk_cell BK916.out 4).trans rfl; have hcz25_5 : w21.cell? ⟨gb916, 5, none⟩ = some (.int .i64 t912) := (blk_cell BK916.out 5).trans rfl; have hcz25_6 : w21.cell? ⟨gb916, 6, none⟩ = some (.int .i64 t913) := (blk_cell BK916.out 6).trans rfl; have hcz25_7 : w21.cell? ⟨gb916, 7, none⟩ = some (.int .i64 t914) := (blk_cell BK916.out 7).trans rfl; have hcz25_8 : w21.cell? ⟨gb916, 8, none⟩ = some (.int .i64 t915) := (blk_cell BK916.out 8).trans rfl; have hfz25_0 := blk_frozen BK916.out 0; have hfz25_1 := blk_frozen BK916.out 1; have hfz25_2 := blk_frozen BK916.out 2; have hfz25_3 := blk_frozen BK916.out 3; have hfz25_4 := blk_frozen BK916.out 4; have hfz25_5 := blk_frozen BK916.out 5; have hfz25_6 := blk_frozen BK916.out 6; have hfz25_7 := blk_frozen BK916.out 7; have hfz25_8 := blk_frozen BK916.out 8) | (go_at_call 43; (with_reducible refine (impl_GapsOf.calls t907 t908 t909 t910 t911 t912 t913 t914 t915 t939 t942 _ A8.out).mono ?_); rintro e w26 ⟨v940, rfl, ho0, hb⟩; have n0_ := Aside0.mk (Kd.R_lower ho0 (below_size (by repeat (first | (with_reducible first | exact HB.out | apply below_alloc | apply pw_below_drewN | apply below_drew1 | refine below_set ?_ GE916.out | refine below_set ?_ GE927.out | refine below_set ?_ GE938.out) | exact HB.out)))); have n1_ := Aside0.mk (blk_below (g := gb916) (o := .cells #[.int .i64 t907, .int .i64 t908, .int .i64 t909, .int .i64 t910, .int .i64 t911, .int .i64 t912, .int .i64 t913, .int .i64 t914, .int .i64 t915] 58 (0, 0)) (by (with_reducible repeat (first | refine blk_drewN ?_ _ | refine blk_drew ?_ | refine blk_alloc ?_ _)); refine blk_far ?_ NB916_938.out _; (with_reducible repeat (first | refine blk_drewN ?_ _ | refine blk_drew ?_ | refine blk_alloc ?_ _)); refine blk_far ?_ NB916_938.out _; (with_reducible repeat (first | refine blk_drewN ?_ _ | refine blk_drew ?_ | refine blk_alloc ?_ _)); refine blk_far ?_ NB916_938.out _; (with_reducible repeat (first | refine blk_drewN ?_ _ | refine blk_drew ?_ | refine blk_alloc ?_ _)); refine blk_far ?_ NB916_938.out _; (with_reducible repeat (first | refine blk_drewN ?_ _ | refine blk_drew ?_ | refine blk_alloc ?_ _)); refine blk_far ?_ NB916_938.out _; (with_reducible repeat (first | refine blk_drewN ?_ _ | refine blk_drew ?_ | refine blk_alloc ?_ _)); refine blk_far ?_ NB916_938.out _; (with_reducible repeat (first | refine blk_drewN ?_ _ | refine blk_drew ?_ | refine blk_alloc ?_ _)); refine blk_far ?_ NB916_938.out _; (with_reducible repeat (first | refine blk_drewN ?_ _ | refine blk_drew ?_ | refine blk_alloc ?_ _)); refine blk_far ?_ NB916_938.out _; (with_reducible repeat (first | refine blk_drewN ?_ _ | refine blk_drew ?_ | refine blk_alloc ?_ _)); refine blk_far ?_ NB916_938.out _; (with_reducible repeat (first | refine blk_drewN ?_ _ | refine blk_drew ?_ | refine blk_alloc ?_ _)); exact BK916.out) hb); have n2_ := Aside0.mk (blk_below (g := gb927) (o := .cells #[.int .i64 t917, .int .i64 t918, .int .i64 t919, .int .i64 t920, .int .i64 t921, .int .i64 t922, .int .i64 t923, .int .i64 t924, .int .i64 t925] 58 (0, 0)) (by (with_reducible repeat (first | refine blk_drewN ?_ _ | refine blk_drew ?_ | refine blk_alloc ?_ _)); refine blk_far ?_ NB927_938.out _; (with_reducible repeat (first | refine blk_drewN ?_ _ | refine blk_drew ?_ | refine blk_alloc ?_ _)); refine blk_far ?_ NB927_938.out _; (with_reducible repeat (first | refine blk_drewN ?_ _ | refine blk_drew ?_ | refine blk_alloc ?_ _)); refine blk_far ?_ NB927_938.out _; (with_reducible repeat (first | refine blk_drewN ?_ _ | refine blk_drew ?_ | refine blk_alloc ?_ _)); refine blk_far ?_ NB927_938.out _; (with_reducible repeat (first | refine blk_drewN ?_ _ | refine blk_drew ?_ | refine blk_alloc ?_ _)); refine blk_far ?_ NB927_938.out _; (with_reducible repeat (first | refine blk_drewN ?_ _ | refine blk_drew ?_ | refine blk_alloc ?_ _)); refine blk_far ?_ NB927_938.out _; (with_reducible repeat (first | refine blk_drewN ?_ _ | refine blk_drew ?_ | refine blk_alloc ?_ _)); refine blk_far ?_ NB927_938.out _; (with_reducible repeat (first | refine blk_drewN ?_ _ | refine blk_drew ?_ | refine blk_alloc ?_ _)); refine blk_far ?_ NB927_938.out _; (with_reducible repeat (first | refine blk_drewN ?_ _ | refine blk_drew ?_ | refine blk_alloc ?_ _)); refine blk_far ?_ NB927_938.out _; (with_reducible repeat (first | refine blk_drewN ?_ _ | refine blk_drew ?_ | refine blk_alloc ?_ _)); exact BK927.out) hb); have n3_ := Aside0.mk (blk_below (g := gb938) (o := .cells #[.int .i64 t928, .int .i64 t929, .int .i64 t930, .int .i64 t931, .int .i64 t932, .int .i64 t933, .int .i64 t934, .int .i64 t935, .int .i64 t936] 58 (0, 0)) (by (with_reducible repeat (first | refine blk_drewN ?_ _ | refine blk_drew ?_ | refine blk_alloc ?_ _)); refine blk_put (cs := #[.int .i64 t928, .int .i64 t929, .int .i64 t930, .int .i64 t931, .int .i64 t932, .int .i64 t933, .int .i64 t934, .int .i64 t935, .int .i64 0]) ?_ 8 _ rfl; (with_reducible repeat (first | refine blk_drewN ?_ _ | refine blk_drew ?_ | refine blk_alloc ?_ _)); refine blk_put (cs := #[.int .i64 t928, .int .i64 t929, .int .i64 t930, .int .i64 t931, .int .i64 t932, .int .i64 t933, .int .i64 t934, .int .i64 0, .int .i64 0]) ?_ 7 _ rfl; (with_reducible repeat (first | refine blk_drewN ?_ _ | refine blk_drew ?_ | refine blk_alloc ?_ _)); refine blk_put (cs := #[.int .i64 t928, .int .i64 t929, .int .i64 t930, .int .i64 t931, .int .i64 t932, .int .i64 t933, .int .i64 0, .int .i64 0, .int .i64 0]) ?_ 6 _ rfl; (with_reducible repeat (first | refine blk_drewN ?_ _ | refine blk_drew ?_ | refine blk_alloc ?_ _)); refine blk_put (cs := #[.int .i64 t928, .int .i64 t929, .int .i64 t930, .int .i64 t931, .int .i64 t932, .int .i64 0, .int .i64 0, .int .i64 0, .int .i64 0]) ?_ 5 _ rfl; (with_reducible repeat (first | refine blk_drewN ?_ _ | refine blk_drew ?_ | refine blk_alloc ?_ _)); refine blk_put (cs := #[.int .i64 t928, .int .i64 t929, .int .i64 t930, .int .i64 t931, .int .i64 0, .int .i64 0, .int .i64 0, .int .i64 0, .int .i64 0]) ?_ 4 _ rfl; (with_reducible repeat (first | refine blk_drewN ?_ _ | refine blk_drew ?_ | refine blk_alloc ?_ _)); refine blk_put (cs := #[.int .i64 t928, .int .i64 t929, .int .i64 t930, .int .i64 0, .int .i64 0, .int .i64 0, .int .i64 0, .int .i64 0, .int .i64 0]) ?_ 3 _ rfl; (with_reducible repeat (first | refine blk_drewN ?_ _ | refine blk_drew ?_ | refine blk_alloc ?_ _)); refine blk_put (cs := #[.int .i64 t928, .int .i64 t929, .int .i64 0, .int .i64 0, .int .i64 0, .int .i64 0, .int .i64 0, .int .i64 0, .int .i64 0]) ?_ 2 _ rfl; (with_reducible repeat (first | refine blk_drewN ?_ _ | refine blk_drew ?_ | refine blk_alloc ?_ _)); refine blk_put (cs := #[.int .i64 t928, .int .i64 0, .int .i64 0, .int .i64 0, .int .i64 0, .int .i64 0, .int .i64 0, .int .i64 0, .int .i64 0]) ?_ 1 _ rfl; (with_reducible repeat (first | refine blk_drewN ?_ _ | refine blk_drew ?_ | refine blk_alloc ?_ _)); refine blk_put (cs := #[.int .i64 0, .int .i64 0, .int .i64 0, .int .i64 0, .int .i64 0, .int .i64 0, .int .i64 0, .int .i64 0, .int .i64 0]) ?_ 0 _ rfl; (with_reducible repeat (first | refine blk_drewN ?_ _ | refine blk_drew ?_ | refine blk_alloc ?_ _)); exact BK938.out) hb); have n4_ := Aside0.mk (below_step (by repeat (first | (with_reducible first | exact HB.out | apply below_alloc | apply pw_below_drewN | apply below_drew1 | refine below_set ?_ GE916.out | refine below_set ?_ GE927.out | refine below_set ?_ GE938.out) | exact HB.out)) hb); clear BK916; clear BK927; clear BK938; clear HB; have HO941 := n0_; have BK916 := n1_; have BK927 := n2_; have BK938 := n3_; have HB := n4_; clear n0_ n1_ n2_ n3_ n4_; (try clear hb); (try clear hb2); (try clear hk); (try clear hi); (try clear ho0); have hcz27_0 : w26.cell? ⟨gb927, 0, none⟩ = some (.int .i64 t917) := (blk_cell BK927.out 0).trans rfl; have hcz27_1 : w26.cell? ⟨gb927, 1, none⟩ = some (.int .i64 t918) := (blk_cell BK927.out 1).trans rfl; have hcz27_2 : w26.cell? ⟨gb927, 2, none⟩ = some (.int .i64 t919) := (blk_cell BK927.out 2).trans rfl; have hcz27_3 : w26.cell? ⟨gb927, 3, none⟩ = some (.int .i64 t920) := (blk_cell BK927.out 3).trans rfl; have hcz27_4 : w26.cell? ⟨gb927, 4, none⟩ = some (.int .i64 t921) := (blk_cell BK927.out 4).trans rfl; have hcz27_5 : w26.cell? ⟨gb927, 5, none⟩ = some (.int .i64 t922) := (blk_cell BK927.out 5).trans rfl; have hcz27_6 : w26.cell? ⟨gb927, 6, none⟩ = some (.int .i64 t923) := (blk_cell BK927.out 6).trans rfl; have hcz27_7 : w26.cell? ⟨gb927, 7, none⟩ = some (.int .i64 t924) := (blk_cell BK927.out 7).trans rfl; have hcz27_8 : w26.cell? ⟨gb927, 8, none⟩ = some (.int .i64 t925) := (blk_cell BK927.out 8).trans rfl; have hfz27_0 := blk_frozen BK927.out 0; have hfz27_1 := blk_frozen BK927.out 1; have hfz27_2 := blk_frozen BK927.out 2; have hfz27_3 := blk_frozen BK927.out 3; have hfz27_4 := blk_frozen BK927.out 4; have hfz27_5 := blk_frozen BK927.out 5; have hfz27_6 := blk_frozen BK927.out 6; have hfz27_7 := blk_frozen BK927.out 7; have hfz27_8 := blk_frozen BK927.out 8) | (go_at_call 43; (with_reducible refine (impl_GapsOf.calls t917 t918 t919 t920 t921 t922 t923 t924 t925 t943 t946 _ A9.out).mono ?_); rintro e w28 ⟨v944, rfl, ho0, hb⟩; have n0_ := Aside0.mk (Kd.R_elder' (by (with_reducible repeat (first | apply Kd.R_alloc | apply Kd.R_drewN | apply Kd.R_drew)); exact HO941.out) (Kd.R_base ho0) hb); have n1_ := Aside0.mk (Kd.R_lower (Kd.R_new' ho0 (Kd.R_lt (by (with_reducible repeat (first | apply Kd.R_alloc | apply Kd.R_drewN | apply Kd.R_drew)); exact HO941.out))) (below_size (by repeat (first | (with_reducible first | exact HB.out | apply below_alloc | apply pw_below_drewN | apply below_drew1 | refine below_set ?_ GE916.out | refine below_set ?_ GE927.out | refine below_set ?_ GE938.out) | exact HB.out)))); have n2_ := Aside0.mk (blk_below (g := gb916) (o := .cells #[.int .i64 t907, .int .i64 t908, .int .i64 t909, .int .i64 t910, .int .i64 t911, .int .i64 t912, .int .i64 t913, .int .i64 t914, .int .i64 t915] 58 (0, 0)) (by (with_reducible repeat (first | refine blk_drewN ?_ _ | refine blk_drew ?_ | refine blk_alloc ?_ _)); exact BK916.out) hb); have n3_ := Aside0.mk (blk_below (g := gb927) (o := .cells #[.int .i64 t917, .int .i64 t918, .int .i64 t919, .int .i64 t920, .int .i64 t921, .int .i64 t922, .int .i64 t923, .int .i64 t924, .int .i64 t925] 58 (0, 0)) (by (with_reducible repeat (first | refine blk_drewN ?_ _ | refine blk_drew ?_ | refine blk_alloc ?_ _)); exact BK927.out) hb); have n4_ := Aside0.mk (blk_below (g := gb938) (o := .cells #[.int .i64 t928, .int .i64 t929, .int .i64 t930, .int .i64 t931, .int .i64 t932, .int .i64 t933, .int .i64 t934, .int .i64 t935, .int .i64 t936] 58 (0, 0)) (by (with_reducible repeat (first | refine blk_drewN ?_ _ | refine blk_drew ?_ | refine blk_alloc ?_ _)); exact BK938.out) hb); have n5_ := Aside0.mk (below_step (by repeat (first | (with_reducible first | exact HB.out | apply below_alloc | apply pw_below_drewN | apply below_drew1 | refine below_set ?_ GE916.out | refine below_set ?_ GE927.out | refine below_set ?_ GE938.out) | exact HB.out)) hb); clear HO941; clear BK916; clear BK927; clear BK938; clear HB; have HO941 := n0_; have HO945 := n1_; have BK916 := n2_; have BK927 := n3_; have BK938 := n4_; have HB := n5_; clear n0_ n1_ n2_ n3_ n4_ n5_; (try clear hb); (try clear hb2); (try clear hk); (try clear hi); (try clear ho0); have hcz29_0 : w28.cell? ⟨gb916, 0, none⟩ = some (.int .i64 t907) := (blk_cell BK916.out 0).trans rfl; have hcz29_1 : w28.cell? ⟨gb916, 1, none⟩ = some (.int .i64 t908) := (blk_cell BK916.out 1).trans rfl; have hcz29_2 : w28.cell? ⟨gb916, 2, none⟩ = some (.int .i64 t909) := (blk_cell BK916.out 2).trans rfl; have hcz29_3 : w28.cell? ⟨gb916, 3, none⟩ = some (.int .i64 t910) := (blk_cell BK916.out 3).trans rfl; have hcz29_4 : w28.cell? ⟨gb916, 4, none⟩ = some (.int .i64 t911) := (blk_cell BK916.out 4).trans rfl; have hcz29_5 : w28.cell? ⟨gb916, 5, none⟩ = some (.int .i64 t912) := (blk_cell BK916.out 5).trans rfl; have hcz29_6 : w28.cell? ⟨gb916, 6, none⟩ = some (.int .i64 t913) := (blk_cell BK916.out 6).trans rfl; have hcz29_7 : w28.cell? ⟨gb916, 7, none⟩ = some (.int .i64 t914) := (blk_cell BK916.out 7).trans rfl; have hcz29_8 : w28.cell? ⟨gb916, 8, none⟩ = some (.int .i64 t915) := (blk_cell BK916.out 8).trans rfl; have hfz29_0 := blk_frozen BK916.out 0; have hfz29_1 := blk_frozen BK916.out 1; have hfz29_2 := blk_frozen BK916.out 2; have hfz29_3 := blk_frozen BK916.out 3; have hfz29_4 := blk_frozen BK916.out 4; have hfz29_5 := blk_frozen BK916.out 5; have hfz29_6 := blk_frozen BK916.out 6; have hfz29_7 := blk_frozen BK916.out 7; have hfz29_8 := blk_frozen BK916.out 8) | (go_at_call 48; (with_reducible refine (impl_StrokesOf.calls t907 t908 t909 t910 t911 t912 t913 t914 t915 t947 t950 _ A10.out).mono ?_); rintro e w30 ⟨v948, rfl, ho0, hb⟩; have n0_ := Aside0.mk (Kd.R_elder' (by (with_reducible repeat (first | apply Kd.R_alloc | apply Kd.R_drewN | apply Kd.R_drew)); exact HO941.out) (Kd.R_base ho0) hb); have n1_ := Aside0.mk (Kd.R_elder' (by (with_reducible repeat (first | apply Kd.R_alloc | apply Kd.R_drewN | apply Kd.R_drew)); exact HO945.out) (Kd.R_base ho0) hb); have n2_ := Aside0.mk (Kd.R_lower (Kd.R_new' (Kd.R_new' ho0 (Kd.R_lt (by (with_reducible repeat (first | apply Kd.R_alloc | apply Kd.R_drewN | apply Kd.R_drew)); exact HO941.out))) (Kd.R_lt (by (with_reducible repeat (first | apply Kd.R_alloc | apply Kd.R_drewN | apply Kd.R_drew)); exact HO945.out))) (below_size (by repeat (first | (with_reducible first | exact HB.out | apply below_alloc | apply pw_below_drewN | apply below_drew1 | refine below_set ?_ GE916.out | refine below_set ?_ GE927.out | refine below_set ?_ GE938.out) | exact HB.out)))); have n3_ := Aside0.mk (blk_below (g := gb916) (o := .cells #[.int .i64 t907, .int .i64 t908, .int .i64 t909, .int .i64 t910, .int .i64 t911, .int .i64 t912, .int .i64 t913, .int .i64 t914, .int .i64 t915] 58 (0, 0)) (by (with_reducible repeat (first | refine blk_drewN ?_ _ | refine blk_drew ?_ | refine blk_alloc ?_ _)); exact BK916.out) hb); have n4_ := Aside0.mk (blk_below (g := gb927) (o := .cells #[.int .i64 t917, .int .i64 t918, .int .i64 t919, .int .i64 t920, .int .i64 t921, .int .i64 t922, .int .i64 t923, .int .i64 t924, .int .i64 t925] 58 (0, 0)) (by (with_reducible repeat (first | refine blk_drewN ?_ _ | refine blk_drew ?_ | refine blk_alloc ?_ _)); exact BK927.out) hb); have n5_ := Aside0.mk (blk_below (g := gb938) (o := .cells #[.int .i64 t928, .int .i64 t929, .int .i64 t930, .int .i64 t931, .int .i64 t932, .int .i64 t933, .int .i64 t934, .int .i64 t935, .int .i64 t936] 58 (0, 0)) (by (with_reducible repeat (first | refine blk_drewN ?_ _ | refine blk_drew ?_ | refine blk_alloc ?_ _)); exact BK938.out) hb); have n6_ := Aside0.mk (below_step (by repeat (first | (with_reducible first | exact HB.out | apply below_alloc | apply pw_below_drewN | apply below_drew1 | refine below_set ?_ GE916.out | refine below_set ?_ GE927.out | refine below_set ?_ GE938.out) | exact HB.out)) hb); clear HO941; clear HO945; clear BK916; clear BK927; clear BK938; clear HB; have HO941 := n0_; have HO945 := n1_; have HO949 := n2_; have BK916 := n3_; have BK927 := n4_; have BK938 := n5_; have HB := n6_; clear n0_ n1_ n2_ n3_ n4_ n5_ n6_; (try clear hb); (try clear hb2); (try clear hk); (try clear hi); (try clear ho0); have hcz31_0 : w30.cell? ⟨gb927, 0, none⟩ = some (.int .i64 t917) := (blk_cell BK927.out 0).trans rfl; have hcz31_1 : w30.cell? ⟨gb927, 1, none⟩ = some (.int .i64 t918) := (blk_cell BK927.out 1).trans rfl; have hcz31_2 : w30.cell? ⟨gb927, 2, none⟩ = some (.int .i64 t919) := (blk_cell BK927.out 2).trans rfl; have hcz31_3 : w30.cell? ⟨gb927, 3, none⟩ = some (.int .i64 t920) := (blk_cell BK927.out 3).trans rfl; have hcz31_4 : w30.cell? ⟨gb927, 4, none⟩ = some (.int .i64 t921) := (blk_cell BK927.out 4).trans rfl; have hcz31_5 : w30.cell? ⟨gb927, 5, none⟩ = some (.int .i64 t922) := (blk_cell BK927.out 5).trans rfl; have hcz31_6 : w30.cell? ⟨gb927, 6, none⟩ = some (.int .i64 t923) := (blk_cell BK927.out 6).trans rfl; have hcz31_7 : w30.cell? ⟨gb927, 7, none⟩ = some (.int .i64 t924) := (blk_cell BK927.out 7).trans rfl; have hcz31_8 : w30.cell? ⟨gb927, 8, none⟩ = some (.int .i64 t925) := (blk_cell BK927.out 8).trans rfl; have hfz31_0 := blk_frozen BK927.out 0; have hfz31_1 := blk_frozen BK927.out 1; have hfz31_2 := blk_frozen BK927.out 2; have hfz31_3 := blk_frozen BK927.out 3; have hfz31_4 := blk_frozen BK927.out 4; have hfz31_5 := blk_frozen BK927.out 5; have hfz31_6 := blk_frozen BK927.out 6; have hfz31_7 := blk_frozen BK927.out 7; have hfz31_8 := blk_frozen BK927.out 8) | (go_at_call 48; (with_reducible refine (impl_StrokesOf.calls t917 t918 t919 t920 t921 t922 t923 t924 t925 t951 t954 _ A11.out).mono ?_); rintro e w32 ⟨v952, rfl, ho0, hb⟩; have n0_ := Aside0.mk (Kd.R_elder' (by (with_reducible repeat (first | apply Kd.R_alloc | apply Kd.R_drewN | apply Kd.R_drew)); exact HO941.out) (Kd.R_base ho0) hb); have n1_ := Aside0.mk (Kd.R_elder' (by (with_reducible repeat (first | apply Kd.R_alloc | apply Kd.R_drewN | apply Kd.R_drew)); exact HO945.out) (Kd.R_base ho0) hb); have n2_ := Aside0.mk (Kd.R_elder' (by (with_reducible repeat (first | apply Kd.R_alloc | apply Kd.R_drewN | apply Kd.R_drew)); exact HO949.out) (Kd.R_base ho0) hb); have n3_ := Aside0.mk (Kd.R_lower (Kd.R_new' (Kd.R_new' (Kd.R_new' ho0 (Kd.R_lt (by (with_reducible repeat (first | apply Kd.R_alloc | apply Kd.R_drewN | apply Kd.R_drew)); exact HO941.out))) (Kd.R_lt (by (with_reducible repeat (first | apply Kd.R_alloc | apply Kd.R_drewN | apply Kd.R_drew)); exact HO945.out))) (Kd.R_lt (by (with_reducible repeat (first | apply Kd.R_alloc | apply Kd.R_drewN | apply Kd.R_drew)); exact HO949.out))) (below_size (by repeat (first | (with_reducible first | exact HB.out | apply below_alloc | apply pw_below_drewN | apply below_drew1 | refine below_set ?_ GE916.out | refine below_set ?_ GE927.out | refine below_set ?_ GE938.out) | exact HB.out)))); have n4_ := Aside0.mk (blk_below (g := gb916) (o := .cells #[.int .i64 t907, .int .i64 t908, .int .i64 t909, .int .i64 t910, .int .i64 t911, .int .i64 t912, .int .i64 t913, .int .i64 t914, .int .i64 t915] 58 (0, 0)) (by (with_reducible repeat (first | refine blk_drewN ?_ _ | refine blk_drew ?_ | refine blk_alloc ?_ _)); exact BK916.out) hb); have n5_ := Aside0.mk (blk_below (g := gb927) (o := .cells #[.int .i64 t917, .int .i64 t918, .int .i64 t919, .int .i64 t920, .int .i64 t921, .int .i64 t922, .int .i64 t923, .int .i64 t924, .int .i64 t925] 58 (0, 0)) (by (with_reducible repeat (first | refine blk_drewN ?_ _ | refine blk_drew ?_ | refine blk_alloc ?_ _)); exact BK927.out) hb); have n6_ := Aside0.mk (blk_below (g := gb938) (o := .cells #[.int .i64 t928, .int .i64 t929, .int .i64 t930, .int .i64 t931, .int .i64 t932, .int .i64 t933, .int .i64 t934, .int .i64 t935, .int .i64 t936] 58 (0, 0)) (by (with_reducible repeat (first | refine blk_drewN ?_ _ | refine blk_drew ?_ | refine blk_alloc ?_ _)); exact BK938.out) hb); have n7_ := Aside0.mk (below_step (by repeat (first | (with_reducible first | exact HB.out | apply below_alloc | apply pw_below_drewN | apply below_drew1 | refine below_set ?_ GE916.out | refine below_set ?_ GE927.out | refine below_set ?_ GE938.out) | exact HB.out)) hb); clear HO941; clear HO945; clear HO949; clear BK916; clear BK927; clear BK938; clear HB; have HO941 := n0_; have HO945 := n1_; have HO949 := n2_; have HO953 := n3_; have BK916 := n4_; have BK927 := n5_; have BK938 := n6_; have HB := n7_; clear n0_ n1_ n2_ n3_ n4_ n5_ n6_ n7_; (try clear hb); (try clear hb2); (try clear hk); (try clear hi); (try clear ho0)))
    repeat (go_quiet (first | (go_at_call 33; (with_reducible refine (laws_r8Long.calls _ _ l0 _ _ l1 false _ ?side1 ?side2 ?side3 ?side4 A3.out).mono ?_); (case side1 => repeat (first | exact HR0.out | (with_reducible refine Kd.C_alloc ?_ _) | (with_reducible refine Kd.C_drewN ?_ _) | (with_reducible refine Kd.C_drew ?_))); (case side2 => exact HC0.out); (case side3 => repeat (first | exact HR1.out | (with_reducible refine Kd.C_alloc ?_ _) | (with_reducible refine Kd.C_drewN ?_ _) | (with_reducible refine Kd.C_drew ?_))); (case side4 => exact HC1.out); rintro e w' ⟨rfl, ⟨nd, rfl⟩⟩; (try first | exact ⟨rfl, _, World.drewN_drewN _ _ _⟩ | exact ⟨rfl, _, Eq.trans (World.drewN_drewN _ _ _) (congrArg (World.drewN _) (Nat.add_assoc _ _ _))⟩)) | (go_at_call 56; (with_reducible refine (spec_R8Machine.calls k _ _ l0 t907 t908 t909 t910 t911 t912 t913 t914 t915 _ ?side1 ?side2 A5.out).mono ?_); (case side1 => repeat (first | exact HR0.out | (with_reducible refine Kd.C_alloc ?_ _) | (with_reducible refine Kd.C_drewN ?_ _) | (with_reducible refine Kd.C_drew ?_))); (case side2 => exact HC0.out); rintro e w13 ⟨rfl, hb⟩; have n0_ := Aside0.mk (below_step (by repeat (first | (with_reducible first | exact HB.out | apply below_alloc | apply pw_below_drewN | apply below_drew1) | exact HB.out)) hb); clear HB; have HB := n0_; clear n0_; (try clear hb); (try clear hb2); (try clear hk); (try clear hi)) | ((with_reducible refine gate_dst (N := 5) rfl ?_); (try (refine gate_guard (by rfl) ?_; dsimp only)); refine box_event ?hg (N := 5) ?hd (cs := #[.int .i64 0, .int .i64 0, .int .i64 0, .int .i64 0, .int .i64 0, .int .i64 0, .int .i64 0, .int .i64 0, .int .i64 0]) (t := 58) ?hr ?_; (case hd => rfl); (case hg => rfl); (case hr => first | (go_simp; done) | (go_simp; rfl)); intro gb916 hg w14 hbox hb; have n0_ := Aside0.mk (below_step (by repeat (first | (with_reducible first | exact HB.out | apply below_alloc | apply pw_below_drewN | apply below_drew1) | exact HB.out)) hb); have n1_ := Aside0.mk (hbox); have n2_ := Aside0.mk ((by rw [hg]; exact (below_size (by repeat (first | (with_reducible first | exact HB.out | apply below_alloc | apply pw_below_drewN | apply below_drew1) | exact HB.out))) : w.heap.size ≤ gb916)); have n3_ := Aside0.mk ((by rw [hg]; exact (below_size (by repeat (first | (with_reducible first | exact HB.out | apply below_alloc | apply pw_below_drewN | apply below_drew1) | exact HB.out))) : w.heap.size ≤ gb916)); clear HB; have HB := n0_; have BK916 := n1_; have GW916 := n2_; have GE916 := n3_; clear n0_ n1_ n2_ n3_; clear hb hbox hg; have hcz15_0 : w14.cell? ⟨gb916, 0, none⟩ = some (.int .i64 0) := (blk_cell BK916.out 0).trans rfl; have hcz15_1 : w14.cell? ⟨gb916, 1, none⟩ = some (.int .i64 0) := (blk_cell BK916.out 1).trans rfl; have hcz15_2 : w14.cell? ⟨gb916, 2, none⟩ = some (.int .i64 0) := (blk_cell BK916.out 2).trans rfl; have hcz15_3 : w14.cell? ⟨gb916, 3, none⟩ = some (.int .i64 0) := (blk_cell BK916.out 3).trans rfl; have hcz15_4 : w14.cell? ⟨gb916, 4, none⟩ = some (.int .i64 0) := (blk_cell BK916.out 4).trans rfl; have hcz15_5 : w14.cell? ⟨gb916, 5, none⟩ = some (.int .i64 0) := (blk_cell BK916.out 5).trans rfl; have hcz15_6 : w14.cell? ⟨gb916, 6, none⟩ = some (.int .i64 0) := (blk_cell BK916.out 6).trans rfl; have hcz15_7 : w14.cell? ⟨gb916, 7, none⟩ = some (.int .i64 0) := (blk_cell BK916.out 7).trans rfl; have hcz15_8 : w14.cell? ⟨gb916, 8, none⟩ = some (.int .i64 0) := (blk_cell BK916.out 8).trans rfl; have hfz15_0 := blk_frozen BK916.out 0; have hfz15_1 := blk_frozen BK916.out 1; have hfz15_2 := blk_frozen BK916.out 2; have hfz15_3 := blk_frozen BK916.out 3; have hfz15_4 := blk_frozen BK916.out 4; have hfz15_5 := blk_frozen BK916.out 5; have hfz15_6 := blk_frozen BK916.out 6; have hfz15_7 := blk_frozen BK916.out 7; have hfz15_8 := blk_frozen BK916.out 8) | (go_at_call 50; (with_reducible refine (impl_MirrorMachine.calls t907 t908 t909 t910 t911 t912 t913 t914 t915 t917 t918 t919 t920 t921 t922 t923 t924 t925 t926 _ A6.out).mono ?_); rintro e w16 ⟨rfl, hb⟩; have n0_ := Aside0.mk (blk_below (g := gb916) (o := .cells #[.int .i64 t907, .int .i64 t908, .int .i64 t909, .int .i64 t910, .int .i64 t911, .int .i64 t912, .int .i64 t913, .int .i64 t914, .int .i64 t915] 58 (0, 0)) (by (with_reducible repeat (first | refine blk_drewN ?_ _ | refine blk_drew ?_ | refine blk_alloc ?_ _)); refine blk_put (cs := #[.int .i64 t907, .int .i64 t908, .int .i64 t909, .int .i64 t910, .int .i64 t911, .int .i64 t912, .int .i64 t913, .int .i64 t914, .int .i64 0]) ?_ 8 _ rfl; (with_reducible repeat (first | refine blk_drewN ?_ _ | refine blk_drew ?_ | refine blk_alloc ?_ _)); refine blk_put (cs := #[.int .i64 t907, .int .i64 t908, .int .i64 t909, .int .i64 t910, .int .i64 t911, .int .i64 t912, .int .i64 t913, .int .i64 0, .int .i64 0]) ?_ 7 _ rfl; (with_reducible repeat (first | refine blk_drewN ?_ _ | refine blk_drew ?_ | refine blk_alloc ?_ _)); refine blk_put (cs := #[.int .i64 t907, .int .i64 t908, .int .i64 t909, .int .i64 t910, .int .i64 t911, .int .i64 t912, .int .i64 0, .int .i64 0, .int .i64 0]) ?_ 6 _ rfl; (with_reducible repeat (first | refine blk_drewN ?_ _ | refine blk_drew ?_ | refine blk_alloc ?_ _)); refine blk_put (cs := #[.int .i64 t907, .int .i64 t908, .int .i64 t909, .int .i64 t910, .int .i64 t911, .int .i64 0, .int .i64 0, .int .i64 0, .int .i64 0]) ?_ 5 _ rfl; (with_reducible repeat (first | refine blk_drewN ?_ _ | refine blk_drew ?_ | refine blk_alloc ?_ _)); refine blk_put (cs := #[.int .i64 t907, .int .i64 t908, .int .i64 t909, .int .i64 t910, .int .i64 0, .int .i64 0, .int .i64 0, .int .i64 0, .int .i64 0]) ?_ 4 _ rfl; (with_reducible repeat (first | refine blk_drewN ?_ _ | refine blk_drew ?_ | refine blk_alloc ?_ _)); refine blk_put (cs := #[.int .i64 t907, .int .i64 t908, .int .i64 t909, .int .i64 0, .int .i64 0, .int .i64 0, .int .i64 0, .int .i64 0, .int .i64 0]) ?_ 3 _ rfl; (with_reducible repeat (first | refine blk_drewN ?_ _ | refine blk_drew ?_ | refine blk_alloc ?_ _)); refine blk_put (cs := #[.int .i64 t907, .int .i64 t908, .int .i64 0, .int .i64 0, .int .i64 0, .int .i64 0, .int .i64 0, .int .i64 0, .int .i64 0]) ?_ 2 _ rfl; (with_reducible repeat (first | refine blk_drewN ?_ _ | refine blk_drew ?_ | refine blk_alloc ?_ _)); refine blk_put (cs := #[.int .i64 t907, .int .i64 0, .int .i64 0, .int .i64 0, .int .i64 0, .int .i64 0, .int .i64 0, .int .i64 0, .int .i64 0]) ?_ 1 _ rfl; (with_reducible repeat (first | refine blk_drewN ?_ _ | refine blk_drew ?_ | refine blk_alloc ?_ _)); refine blk_put (cs := #[.int .i64 0, .int .i64 0, .int .i64 0, .int .i64 0, .int .i64 0, .int .i64 0, .int .i64 0, .int .i64 0, .int .i64 0]) ?_ 0 _ rfl; (with_reducible repeat (first | refine blk_drewN ?_ _ | refine blk_drew ?_ | refine blk_alloc ?_ _)); exact BK916.out) hb); have n1_ := Aside0.mk (below_step (by repeat (first | (with_reducible first | exact HB.out | apply below_alloc | apply pw_below_drewN | apply below_drew1 | refine below_set ?_ GE916.out) | exact HB.out)) hb); clear BK916; clear HB; have BK916 := n0_; have HB := n1_; clear n0_ n1_; (try clear hb); (try clear hb2); (try clear hk); (try clear hi)) | ((with_reducible refine gate_dst (N := 6) rfl ?_); (try (refine gate_guard (by rfl) ?_; dsimp only)); refine box_event ?hg (N := 6) ?hd (cs := #[.int .i64 0, .int .i64 0, .int .i64 0, .int .i64 0, .int .i64 0, .int .i64 0, .int .i64 0, .int .i64 0, .int .i64 0]) (t := 58) ?hr ?_; (case hd => rfl); (case hg => rfl); (case hr => first | (go_simp; done) | (go_simp; rfl)); intro gb927 hg w17 hbox hb; have n0_ := Aside0.mk (blk_below (g := gb916) (o := .cells #[.int .i64 t907, .int .i64 t908, .int .i64 t909, .int .i64 t910, .int .i64 t911, .int .i64 t912, .int .i64 t913, .int .i64 t914, .int .i64 t915] 58 (0, 0)) (by (with_reducible repeat (first | refine blk_drewN ?_ _ | refine blk_drew ?_ | refine blk_alloc ?_ _)); exact BK916.out) hb); have n1_ := Aside0.mk (below_step (by repeat (first | (with_reducible first | exact HB.out | apply below_alloc | apply pw_below_drewN | apply below_drew1 | refine below_set ?_ GE916.out) | exact HB.out)) hb); have n2_ := Aside0.mk (hbox); have n3_ := Aside0.mk ((by rw [hg]; exact (below_size (by repeat (first | (with_reducible first | exact HB.out | apply below_alloc | apply pw_below_drewN | apply below_drew1 | refine below_set ?_ GE916.out) | exact HB.out))) : w.heap.size ≤ gb927)); have n4_ := Aside0.mk ((by rw [hg]; exact (below_size (by repeat (first | (with_reducible first | exact HB.out | apply below_alloc | apply pw_below_drewN | apply below_drew1 | refine below_set ?_ GE916.out) | exact HB.out))) : w.heap.size ≤ gb927)); have n5_ := Aside0.mk ((by rw [hg]; exact Nat.ne_of_lt (blk_lt (g := gb916) (o := .cells #[.int .i64 t907, .int .i64 t908, .int .i64 t909, .int .i64 t910, .int .i64 t911, .int .i64 t912, .int .i64 t913, .int .i64 t914, .int .i64 t915] 58 (0, 0)) (by (with_reducible repeat (first | refine blk_drewN ?_ _ | refine blk_drew ?_ | refine blk_alloc ?_ _)); exact BK916.out)) : gb916 ≠ gb927)); have n6_ := Aside0.mk ((by rw [hg]; exact Nat.ne_of_gt (blk_lt (g := gb916) (o := .cells #[.int .i64 t907, .int .i64 t908, .int .i64 t909, .int .i64 t910, .int .i64 t911, .int .i64 t912, .int .i64 t913, .int .i64 t914, .int .i64 t915] 58 (0, 0)) (by (with_reducible repeat (first | refine blk_drewN ?_ _ | refine blk_drew ?_ | refine blk_alloc ?_ _)); exact BK916.out)) : gb927 ≠ gb916)); clear BK916; clear HB; have BK916 := n0_; have HB := n1_; have BK927 := n2_; have GW927 := n3_; have GE927 := n4_; have NB916_927 := n5_; have NB927_916 := n6_; clear n0_ n1_ n2_ n3_ n4_ n5_ n6_; clear hb hbox hg; have hnb18 := NB927_916.out; have hnc18 := NB916_927.out; have hcz19_0 : w17.cell? ⟨gb927, 0, none⟩ = some (.int .i64 0) := (blk_cell BK927.out 0).trans rfl; have hcz19_1 : w17.cell? ⟨gb927, 1, none⟩ = some (.int .i64 0) := (blk_cell BK927.out 1).trans rfl; have hcz19_2 : w17.cell? ⟨gb927, 2, none⟩ = some (.int .i64 0) := (blk_cell BK927.out 2).trans rfl; have hcz19_3 : w17.cell? ⟨gb927, 3, none⟩ = some (.int .i64 0) := (blk_cell BK927.out 3).trans rfl; have hcz19_4 : w17.cell? ⟨gb927, 4, none⟩ = some (.int .i64 0) := (blk_cell BK927.out 4).trans rfl; have hcz19_5 : w17.cell? ⟨gb927, 5, none⟩ = some (.int .i64 0) := (blk_cell BK927.out 5).trans rfl; have hcz19_6 : w17.cell? ⟨gb927, 6, none⟩ = some (.int .i64 0) := (blk_cell BK927.out 6).trans rfl; have hcz19_7 : w17.cell? ⟨gb927, 7, none⟩ = some (.int .i64 0) := (blk_cell BK927.out 7).trans rfl; have hcz19_8 : w17.cell? ⟨gb927, 8, none⟩ = some (.int .i64 0) := (blk_cell BK927.out 8).trans rfl; have hfz19_0 := blk_frozen BK927.out 0; have hfz19_1 := blk_frozen BK927.out 1; have hfz19_2 := blk_frozen BK927.out 2; have hfz19_3 := blk_frozen BK927.out 3; have hfz19_4 := blk_frozen BK927.out 4; have hfz19_5 := blk_frozen BK927.out 5; have hfz19_6 := blk_frozen BK927.out 6; have hfz19_7 := blk_frozen BK927.out 7; have hfz19_8 := blk_frozen BK927.out 8) | (go_at_call 50; (with_reducible refine (impl_MirrorMachine.calls t917 t918 t919 t920 t921 t922 t923 t924 t925 t928 t929 t930 t931 t932 t933 t934 t935 t936 t937 _ A7.out).mono ?_); rintro e w20 ⟨rfl, hb⟩; have n0_ := Aside0.mk (blk_below (g := gb916) (o := .cells #[.int .i64 t907, .int .i64 t908, .int .i64 t909, .int .i64 t910, .int .i64 t911, .int .i64 t912, .int .i64 t913, .int .i64 t914, .int .i64 t915] 58 (0, 0)) (by (with_reducible repeat (first | refine blk_drewN ?_ _ | refine blk_drew ?_ | refine blk_alloc ?_ _)); refine blk_far ?_ NB916_927.out _; (with_reducible repeat (first | refine blk_drewN ?_ _ | refine blk_drew ?_ | refine blk_alloc ?_ _)); refine blk_far ?_ NB916_927.out _; (with_reducible repeat (first | refine blk_drewN ?_ _ | refine blk_drew ?_ | refine blk_alloc ?_ _)); refine blk_far ?_ NB916_927.out _; (with_reducible repeat (first | refine blk_drewN ?_ _ | refine blk_drew ?_ | refine blk_alloc ?_ _)); refine blk_far ?_ NB916_927.out _; (with_reducible repeat (first | refine blk_drewN ?_ _ | refine blk_drew ?_ | refine blk_alloc ?_ _)); refine blk_far ?_ NB916_927.out _; (with_reducible repeat (first | refine blk_drewN ?_ _ | refine blk_drew ?_ | refine blk_alloc ?_ _)); refine blk_far ?_ NB916_927.out _; (with_reducible repeat (first | refine blk_drewN ?_ _ | refine blk_drew ?_ | refine blk_alloc ?_ _)); refine blk_far ?_ NB916_927.out _; (with_reducible repeat (first | refine blk_drewN ?_ _ | refine blk_drew ?_ | refine blk_alloc ?_ _)); refine blk_far ?_ NB916_927.out _; (with_reducible repeat (first | refine blk_drewN ?_ _ | refine blk_drew ?_ | refine blk_alloc ?_ _)); refine blk_far ?_ NB916_927.out _; (with_reducible repeat (first | refine blk_drewN ?_ _ | refine blk_drew ?_ | refine blk_alloc ?_ _)); exact BK916.out) hb); have n1_ := Aside0.mk (blk_below (g := gb927) (o := .cells #[.int .i64 t917, .int .i64 t918, .int .i64 t919, .int .i64 t920, .int .i64 t921, .int .i64 t922, .int .i64 t923, .int .i64 t924, .int .i64 t925] 58 (0, 0)) (by (with_reducible repeat (first | refine blk_drewN ?_ _ | refine blk_drew ?_ | refine blk_alloc ?_ _)); refine blk_put (cs := #[.int .i64 t917, .int .i64 t918, .int .i64 t919, .int .i64 t920, .int .i64 t921, .int .i64 t922, .int .i64 t923, .int .i64 t924, .int .i64 0]) ?_ 8 _ rfl; (with_reducible repeat (first | refine blk_drewN ?_ _ | refine blk_drew ?_ | refine blk_alloc ?_ _)); refine blk_put (cs := #[.int .i64 t917, .int .i64 t918, .int .i64 t919, .int .i64 t920, .int .i64 t921, .int .i64 t922, .int .i64 t923, .int .i64 0, .int .i64 0]) ?_ 7 _ rfl; (with_reducible repeat (first | refine blk_drewN ?_ _ | refine blk_drew ?_ | refine blk_alloc ?_ _)); refine blk_put (cs := #[.int .i64 t917, .int .i64 t918, .int .i64 t919, .int .i64 t920, .int .i64 t921, .int .i64 t922, .int .i64 0, .int .i64 0, .int .i64 0]) ?_ 6 _ rfl; (with_reducible repeat (first | refine blk_drewN ?_ _ | refine blk_drew ?_ | refine blk_alloc ?_ _)); refine blk_put (cs := #[.int .i64 t917, .int .i64 t918, .int .i64 t919, .int .i64 t920, .int .i64 t921, .int .i64 0, .int .i64 0, .int .i64 0, .int .i64 0]) ?_ 5 _ rfl; (with_reducible repeat (first | refine blk_drewN ?_ _ | refine blk_drew ?_ | refine blk_alloc ?_ _)); refine blk_put (cs := #[.int .i64 t917, .int .i64 t918, .int .i64 t919, .int .i64 t920, .int .i64 0, .int .i64 0, .int .i64 0, .int .i64 0, .int .i64 0]) ?_ 4 _ rfl; (with_reducible repeat (first | refine blk_drewN ?_ _ | refine blk_drew ?_ | refine blk_alloc ?_ _)); refine blk_put (cs := #[.int .i64 t917, .int .i64 t918, .int .i64 t919, .int .i64 0, .int .i64 0, .int .i64 0, .int .i64 0, .int .i64 0, .int .i64 0]) ?_ 3 _ rfl; (with_reducible repeat (first | refine blk_drewN ?_ _ | refine blk_drew ?_ | refine blk_alloc ?_ _)); refine blk_put (cs := #[.int .i64 t917, .int .i64 t918, .int .i64 0, .int .i64 0, .int .i64 0, .int .i64 0, .int .i64 0, .int .i64 0, .int .i64 0]) ?_ 2 _ rfl; (with_reducible repeat (first | refine blk_drewN ?_ _ | refine blk_drew ?_ | refine blk_alloc ?_ _)); refine blk_put (cs := #[.int .i64 t917, .int .i64 0, .int .i64 0, .int .i64 0, .int .i64 0, .int .i64 0, .int .i64 0, .int .i64 0, .int .i64 0]) ?_ 1 _ rfl; (with_reducible repeat (first | refine blk_drewN ?_ _ | refine blk_drew ?_ | refine blk_alloc ?_ _)); refine blk_put (cs := #[.int .i64 0, .int .i64 0, .int .i64 0, .int .i64 0, .int .i64 0, .int .i64 0, .int .i64 0, .int .i64 0, .int .i64 0]) ?_ 0 _ rfl; (with_reducible repeat (first | refine blk_drewN ?_ _ | refine blk_drew ?_ | refine blk_alloc ?_ _)); exact BK927.out) hb); have n2_ := Aside0.mk (below_step (by repeat (first | (with_reducible first | exact HB.out | apply below_alloc | apply pw_below_drewN | apply below_drew1 | refine below_set ?_ GE916.out | refine below_set ?_ GE927.out) | exact HB.out)) hb); clear BK916; clear BK927; clear HB; have BK916 := n0_; have BK927 := n1_; have HB := n2_; clear n0_ n1_ n2_; (try clear hb); (try clear hb2); (try clear hk); (try clear hi)) | ((with_reducible refine gate_dst (N := 8) rfl ?_); (try (refine gate_guard (by rfl) ?_; dsimp only)); refine box_event ?hg (N := 8) ?hd (cs := #[.int .i64 0, .int .i64 0, .int .i64 0, .int .i64 0, .int .i64 0, .int .i64 0, .int .i64 0, .int .i64 0, .int .i64 0]) (t := 58) ?hr ?_; (case hd => rfl); (case hg => rfl); (case hr => first | (go_simp; done) | (go_simp; rfl)); intro gb938 hg w21 hbox hb; have n0_ := Aside0.mk (blk_below (g := gb916) (o := .cells #[.int .i64 t907, .int .i64 t908, .int .i64 t909, .int .i64 t910, .int .i64 t911, .int .i64 t912, .int .i64 t913, .int .i64 t914, .int .i64 t915] 58 (0, 0)) (by (with_reducible repeat (first | refine blk_drewN ?_ _ | refine blk_drew ?_ | refine blk_alloc ?_ _)); exact BK916.out) hb); have n1_ := Aside0.mk (blk_below (g := gb927) (o := .cells #[.int .i64 t917, .int .i64 t918, .int .i64 t919, .int .i64 t920, .int .i64 t921, .int .i64 t922, .int .i64 t923, .int .i64 t924, .int .i64 t925] 58 (0, 0)) (by (with_reducible repeat (first | refine blk_drewN ?_ _ | refine blk_drew ?_ | refine blk_alloc ?_ _)); exact BK927.out) hb); have n2_ := Aside0.mk (below_step (by repeat (first | (with_reducible first | exact HB.out | apply below_alloc | apply pw_below_drewN | apply below_drew1 | refine below_set ?_ GE916.out | refine below_set ?_ GE927.out) | exact HB.out)) hb); have n3_ := Aside0.mk (hbox); have n4_ := Aside0.mk ((by rw [hg]; exact (below_size (by repeat (first | (with_reducible first | exact HB.out | apply below_alloc | apply pw_below_drewN | apply below_drew1 | refine below_set ?_ GE916.out | refine below_set ?_ GE927.out) | exact HB.out))) : w.heap.size ≤ gb938)); have n5_ := Aside0.mk ((by rw [hg]; exact (below_size (by repeat (first | (with_reducible first | exact HB.out | apply below_alloc | apply pw_below_drewN | apply below_drew1 | refine below_set ?_ GE916.out | refine below_set ?_ GE927.out) | exact HB.out))) : w.heap.size ≤ gb938)); have n6_ := Aside0.mk ((by rw [hg]; exact Nat.ne_of_lt (blk_lt (g := gb916) (o := .cells #[.int .i64 t907, .int .i64 t908, .int .i64 t909, .int .i64 t910, .int .i64 t911, .int .i64 t912, .int .i64 t913, .int .i64 t914, .int .i64 t915] 58 (0, 0)) (by (with_reducible repeat (first | refine blk_drewN ?_ _ | refine blk_drew ?_ | refine blk_alloc ?_ _)); exact BK916.out)) : gb916 ≠ gb938)); have n7_ := Aside0.mk ((by rw [hg]; exact Nat.ne_of_gt (blk_lt (g := gb916) (o := .cells #[.int .i64 t907, .int .i64 t908, .int .i64 t909, .int .i64 t910, .int .i64 t911, .int .i64 t912, .int .i64 t913, .int .i64 t914, .int .i64 t915] 58 (0, 0)) (by (with_reducible repeat (first | refine blk_drewN ?_ _ | refine blk_drew ?_ | refine blk_alloc ?_ _)); exact BK916.out)) : gb938 ≠ gb916)); have n8_ := Aside0.mk ((by rw [hg]; exact Nat.ne_of_lt (blk_lt (g := gb927) (o := .cells #[.int .i64 t917, .int .i64 t918, .int .i64 t919, .int .i64 t920, .int .i64 t921, .int .i64 t922, .int .i64 t923, .int .i64 t924, .int .i64 t925] 58 (0, 0)) (by (with_reducible repeat (first | refine blk_drewN ?_ _ | refine blk_drew ?_ | refine blk_alloc ?_ _)); exact BK927.out)) : gb927 ≠ gb938)); have n9_ := Aside0.mk ((by rw [hg]; exact Nat.ne_of_gt (blk_lt (g := gb927) (o := .cells #[.int .i64 t917, .int .i64 t918, .int .i64 t919, .int .i64 t920, .int .i64 t921, .int .i64 t922, .int .i64 t923, .int .i64 t924, .int .i64 t925] 58 (0, 0)) (by (with_reducible repeat (first | refine blk_drewN ?_ _ | refine blk_drew ?_ | refine blk_alloc ?_ _)); exact BK927.out)) : gb938 ≠ gb927)); clear BK916; clear BK927; clear HB; have BK916 := n0_; have BK927 := n1_; have HB := n2_; have BK938 := n3_; have GW938 := n4_; have GE938 := n5_; have NB916_938 := n6_; have NB938_916 := n7_; have NB927_938 := n8_; have NB938_927 := n9_; clear n0_ n1_ n2_ n3_ n4_ n5_ n6_ n7_ n8_ n9_; clear hb hbox hg; have hnb22 := NB938_916.out; have hnc22 := NB916_938.out; have hnb23 := NB938_927.out; have hnc23 := NB927_938.out; have hcz24_0 : w21.cell? ⟨gb938, 0, none⟩ = some (.int .i64 0) := (blk_cell BK938.out 0).trans rfl; have hcz24_1 : w21.cell? ⟨gb938, 1, none⟩ = some (.int .i64 0) := (blk_cell BK938.out 1).trans rfl; have hcz24_2 : w21.cell? ⟨gb938, 2, none⟩ = some (.int .i64 0) := (blk_cell BK938.out 2).trans rfl; have hcz24_3 : w21.cell? ⟨gb938, 3, none⟩ = some (.int .i64 0) := (blk_cell BK938.out 3).trans rfl; have hcz24_4 : w21.cell? ⟨gb938, 4, none⟩ = some (.int .i64 0) := (blk_cell BK938.out 4).trans rfl; have hcz24_5 : w21.cell? ⟨gb938, 5, none⟩ = some (.int .i64 0) := (blk_cell BK938.out 5).trans rfl; have hcz24_6 : w21.cell? ⟨gb938, 6, none⟩ = some (.int .i64 0) := (blk_cell BK938.out 6).trans rfl; have hcz24_7 : w21.cell? ⟨gb938, 7, none⟩ = some (.int .i64 0) := (blk_cell BK938.out 7).trans rfl; have hcz24_8 : w21.cell? ⟨gb938, 8, none⟩ = some (.int .i64 0) := (blk_cell BK938.out 8).trans rfl; have hfz24_0 := blk_frozen BK938.out 0; have hfz24_1 := blk_frozen BK938.out 1; have hfz24_2 := blk_frozen BK938.out 2; have hfz24_3 := blk_frozen BK938.out 3; have hfz24_4 := blk_frozen BK938.out 4; have hfz24_5 := blk_frozen BK938.out 5; have hfz24_6 := blk_frozen BK938.out 6; have hfz24_7 := blk_frozen BK938.out 7; have hfz24_8 := blk_frozen BK938.out 8; have hcz25_0 : w21.cell? ⟨gb916, 0, none⟩ = some (.int .i64 t907) := (blk_cell BK916.out 0).trans rfl; have hcz25_1 : w21.cell? ⟨gb916, 1, none⟩ = some (.int .i64 t908) := (blk_cell BK916.out 1).trans rfl; have hcz25_2 : w21.cell? ⟨gb916, 2, none⟩ = some (.int .i64 t909) := (blk_cell BK916.out 2).trans rfl; have hcz25_3 : w21.cell? ⟨gb916, 3, none⟩ = some (.int .i64 t910) := (blk_cell BK916.out 3).trans rfl; have hcz25_4 : w21.cell? ⟨gb916, 4, none⟩ = some (.int .i64 t911) := (blk_cell BK916.out 4).trans rfl; have hcz25_5 : w21.cell? ⟨gb916, 5, none⟩ = some (.int .i64 t912) := (blk_cell BK916.out 5).trans rfl; have hcz25_6 : w21.cell? ⟨gb916, 6, none⟩ = some (.int .i64 t913) := (blk_cell BK916.out 6).trans rfl; have hcz25_7 : w21.cell? ⟨gb916, 7, none⟩ = some (.int .i64 t914) := (blk_cell BK916.out 7).trans rfl; have hcz25_8 : w21.cell? ⟨gb916, 8, none⟩ = some (.int .i64 t915) := (blk_cell BK916.out 8).trans rfl; have hfz25_0 := blk_frozen BK916.out 0; have hfz25_1 := blk_frozen BK916.out 1; have hfz25_2 := blk_frozen BK916.out 2; have hfz25_3 := blk_frozen BK916.out 3; have hfz25_4 := blk_frozen BK916.out 4; have hfz25_5 := blk_frozen BK916.out 5; have hfz25_6 := blk_frozen BK916.out 6; have hfz25_7 := blk_frozen BK916.out 7; have hfz25_8 := blk_frozen BK916.out 8) | (go_at_call 43; (with_reducible refine (impl_GapsOf.calls t907 t908 t909 t910 t911 t912 t913 t914 t915 t939 t942 _ A8.out).mono ?_); rintro e w26 ⟨v940, rfl, ho0, hb⟩; have n0_ := Aside0.mk (Kd.R_lower ho0 (below_size (by repeat (first | (with_reducible first | exact HB.out | apply below_alloc | apply pw_below_drewN | apply below_drew1 | refine below_set ?_ GE916.out | refine below_set ?_ GE927.out | refine below_set ?_ GE938.out) | exact HB.out)))); have n1_ := Aside0.mk (blk_below (g := gb916) (o := .cells #[.int .i64 t907, .int .i64 t908, .int .i64 t909, .int .i64 t910, .int .i64 t911, .int .i64 t912, .int .i64 t913, .int .i64 t914, .int .i64 t915] 58 (0, 0)) (by (with_reducible repeat (first | refine blk_drewN ?_ _ | refine blk_drew ?_ | refine blk_alloc ?_ _)); refine blk_far ?_ NB916_938.out _; (with_reducible repeat (first | refine blk_drewN ?_ _ | refine blk_drew ?_ | refine blk_alloc ?_ _)); refine blk_far ?_ NB916_938.out _; (with_reducible repeat (first | refine blk_drewN ?_ _ | refine blk_drew ?_ | refine blk_alloc ?_ _)); refine blk_far ?_ NB916_938.out _; (with_reducible repeat (first | refine blk_drewN ?_ _ | refine blk_drew ?_ | refine blk_alloc ?_ _)); refine blk_far ?_ NB916_938.out _; (with_reducible repeat (first | refine blk_drewN ?_ _ | refine blk_drew ?_ | refine blk_alloc ?_ _)); refine blk_far ?_ NB916_938.out _; (with_reducible repeat (first | refine blk_drewN ?_ _ | refine blk_drew ?_ | refine blk_alloc ?_ _)); refine blk_far ?_ NB916_938.out _; (with_reducible repeat (first | refine blk_drewN ?_ _ | refine blk_drew ?_ | refine blk_alloc ?_ _)); refine blk_far ?_ NB916_938.out _; (with_reducible repeat (first | refine blk_drewN ?_ _ | refine blk_drew ?_ | refine blk_alloc ?_ _)); refine blk_far ?_ NB916_938.out _; (with_reducible repeat (first | refine blk_drewN ?_ _ | refine blk_drew ?_ | refine blk_alloc ?_ _)); refine blk_far ?_ NB916_938.out _; (with_reducible repeat (first | refine blk_drewN ?_ _ | refine blk_drew ?_ | refine blk_alloc ?_ _)); exact BK916.out) hb); have n2_ := Aside0.mk (blk_below (g := gb927) (o := .cells #[.int .i64 t917, .int .i64 t918, .int .i64 t919, .int .i64 t920, .int .i64 t921, .int .i64 t922, .int .i64 t923, .int .i64 t924, .int .i64 t925] 58 (0, 0)) (by (with_reducible repeat (first | refine blk_drewN ?_ _ | refine blk_drew ?_ | refine blk_alloc ?_ _)); refine blk_far ?_ NB927_938.out _; (with_reducible repeat (first | refine blk_drewN ?_ _ | refine blk_drew ?_ | refine blk_alloc ?_ _)); refine blk_far ?_ NB927_938.out _; (with_reducible repeat (first | refine blk_drewN ?_ _ | refine blk_drew ?_ | refine blk_alloc ?_ _)); refine blk_far ?_ NB927_938.out _; (with_reducible repeat (first | refine blk_drewN ?_ _ | refine blk_drew ?_ | refine blk_alloc ?_ _)); refine blk_far ?_ NB927_938.out _; (with_reducible repeat (first | refine blk_drewN ?_ _ | refine blk_drew ?_ | refine blk_alloc ?_ _)); refine blk_far ?_ NB927_938.out _; (with_reducible repeat (first | refine blk_drewN ?_ _ | refine blk_drew ?_ | refine blk_alloc ?_ _)); refine blk_far ?_ NB927_938.out _; (with_reducible repeat (first | refine blk_drewN ?_ _ | refine blk_drew ?_ | refine blk_alloc ?_ _)); refine blk_far ?_ NB927_938.out _; (with_reducible repeat (first | refine blk_drewN ?_ _ | refine blk_drew ?_ | refine blk_alloc ?_ _)); refine blk_far ?_ NB927_938.out _; (with_reducible repeat (first | refine blk_drewN ?_ _ | refine blk_drew ?_ | refine blk_alloc ?_ _)); refine blk_far ?_ NB927_938.out _; (with_reducible repeat (first | refine blk_drewN ?_ _ | refine blk_drew ?_ | refine blk_alloc ?_ _)); exact BK927.out) hb); have n3_ := Aside0.mk (blk_below (g := gb938) (o := .cells #[.int .i64 t928, .int .i64 t929, .int .i64 t930, .int .i64 t931, .int .i64 t932, .int .i64 t933, .int .i64 t934, .int .i64 t935, .int .i64 t936] 58 (0, 0)) (by (with_reducible repeat (first | refine blk_drewN ?_ _ | refine blk_drew ?_ | refine blk_alloc ?_ _)); refine blk_put (cs := #[.int .i64 t928, .int .i64 t929, .int .i64 t930, .int .i64 t931, .int .i64 t932, .int .i64 t933, .int .i64 t934, .int .i64 t935, .int .i64 0]) ?_ 8 _ rfl; (with_reducible repeat (first | refine blk_drewN ?_ _ | refine blk_drew ?_ | refine blk_alloc ?_ _)); refine blk_put (cs := #[.int .i64 t928, .int .i64 t929, .int .i64 t930, .int .i64 t931, .int .i64 t932, .int .i64 t933, .int .i64 t934, .int .i64 0, .int .i64 0]) ?_ 7 _ rfl; (with_reducible repeat (first | refine blk_drewN ?_ _ | refine blk_drew ?_ | refine blk_alloc ?_ _)); refine blk_put (cs := #[.int .i64 t928, .int .i64 t929, .int .i64 t930, .int .i64 t931, .int .i64 t932, .int .i64 t933, .int .i64 0, .int .i64 0, .int .i64 0]) ?_ 6 _ rfl; (with_reducible repeat (first | refine blk_drewN ?_ _ | refine blk_drew ?_ | refine blk_alloc ?_ _)); refine blk_put (cs := #[.int .i64 t928, .int .i64 t929, .int .i64 t930, .int .i64 t931, .int .i64 t932, .int .i64 0, .int .i64 0, .int .i64 0, .int .i64 0]) ?_ 5 _ rfl; (with_reducible repeat (first | refine blk_drewN ?_ _ | refine blk_drew ?_ | refine blk_alloc ?_ _)); refine blk_put (cs := #[.int .i64 t928, .int .i64 t929, .int .i64 t930, .int .i64 t931, .int .i64 0, .int .i64 0, .int .i64 0, .int .i64 0, .int .i64 0]) ?_ 4 _ rfl; (with_reducible repeat (first | refine blk_drewN ?_ _ | refine blk_drew ?_ | refine blk_alloc ?_ _)); refine blk_put (cs := #[.int .i64 t928, .int .i64 t929, .int .i64 t930, .int .i64 0, .int .i64 0, .int .i64 0, .int .i64 0, .int .i64 0, .int .i64 0]) ?_ 3 _ rfl; (with_reducible repeat (first | refine blk_drewN ?_ _ | refine blk_drew ?_ | refine blk_alloc ?_ _)); refine blk_put (cs := #[.int .i64 t928, .int .i64 t929, .int .i64 0, .int .i64 0, .int .i64 0, .int .i64 0, .int .i64 0, .int .i64 0, .int .i64 0]) ?_ 2 _ rfl; (with_reducible repeat (first | refine blk_drewN ?_ _ | refine blk_drew ?_ | refine blk_alloc ?_ _)); refine blk_put (cs := #[.int .i64 t928, .int .i64 0, .int .i64 0, .int .i64 0, .int .i64 0, .int .i64 0, .int .i64 0, .int .i64 0, .int .i64 0]) ?_ 1 _ rfl; (with_reducible repeat (first | refine blk_drewN ?_ _ | refine blk_drew ?_ | refine blk_alloc ?_ _)); refine blk_put (cs := #[.int .i64 0, .int .i64 0, .int .i64 0, .int .i64 0, .int .i64 0, .int .i64 0, .int .i64 0, .int .i64 0, .int .i64 0]) ?_ 0 _ rfl; (with_reducible repeat (first | refine blk_drewN ?_ _ | refine blk_drew ?_ | refine blk_alloc ?_ _)); exact BK938.out) hb); have n4_ := Aside0.mk (below_step (by repeat (first | (with_reducible first | exact HB.out | apply below_alloc | apply pw_below_drewN | apply below_drew1 | refine below_set ?_ GE916.out | refine below_set ?_ GE927.out | refine below_set ?_ GE938.out) | exact HB.out)) hb); clear BK916; clear BK927; clear BK938; clear HB; have HO941 := n0_; have BK916 := n1_; have BK927 := n2_; have BK938 := n3_; have HB := n4_; clear n0_ n1_ n2_ n3_ n4_; (try clear hb); (try clear hb2); (try clear hk); (try clear hi); (try clear ho0); have hcz27_0 : w26.cell? ⟨gb927, 0, none⟩ = some (.int .i64 t917) := (blk_cell BK927.out 0).trans rfl; have hcz27_1 : w26.cell? ⟨gb927, 1, none⟩ = some (.int .i64 t918) := (blk_cell BK927.out 1).trans rfl; have hcz27_2 : w26.cell? ⟨gb927, 2, none⟩ = some (.int .i64 t919) := (blk_cell BK927.out 2).trans rfl; have hcz27_3 : w26.cell? ⟨gb927, 3, none⟩ = some (.int .i64 t920) := (blk_cell BK927.out 3).trans rfl; have hcz27_4 : w26.cell? ⟨gb927, 4, none⟩ = some (.int .i64 t921) := (blk_cell BK927.out 4).trans rfl; have hcz27_5 : w26.cell? ⟨gb927, 5, none⟩ = some (.int .i64 t922) := (blk_cell BK927.out 5).trans rfl; have hcz27_6 : w26.cell? ⟨gb927, 6, none⟩ = some (.int .i64 t923) := (blk_cell BK927.out 6).trans rfl; have hcz27_7 : w26.cell? ⟨gb927, 7, none⟩ = some (.int .i64 t924) := (blk_cell BK927.out 7).trans rfl; have hcz27_8 : w26.cell? ⟨gb927, 8, none⟩ = some (.int .i64 t925) := (blk_cell BK927.out 8).trans rfl; have hfz27_0 := blk_frozen BK927.out 0; have hfz27_1 := blk_frozen BK927.out 1; have hfz27_2 := blk_frozen BK927.out 2; have hfz27_3 := blk_frozen BK927.out 3; have hfz27_4 := blk_frozen BK927.out 4; have hfz27_5 := blk_frozen BK927.out 5; have hfz27_6 := blk_frozen BK927.out 6; have hfz27_7 := blk_frozen BK927.out 7; have hfz27_8 := blk_frozen BK927.out 8) | (go_at_call 43; (with_reducible refine (impl_GapsOf.calls t917 t918 t919 t920 t921 t922 t923 t924 t925 t943 t946 _ A9.out).mono ?_); rintro e w28 ⟨v944, rfl, ho0, hb⟩; have n0_ := Aside0.mk (Kd.R_elder' (by (with_reducible repeat (first | apply Kd.R_alloc | apply Kd.R_drewN | apply Kd.R_drew)); exact HO941.out) (Kd.R_base ho0) hb); have n1_ := Aside0.mk (Kd.R_lower (Kd.R_new' ho0 (Kd.R_lt (by (with_reducible repeat (first | apply Kd.R_alloc | apply Kd.R_drewN | apply Kd.R_drew)); exact HO941.out))) (below_size (by repeat (first | (with_reducible first | exact HB.out | apply below_alloc | apply pw_below_drewN | apply below_drew1 | refine below_set ?_ GE916.out | refine below_set ?_ GE927.out | refine below_set ?_ GE938.out) | exact HB.out)))); have n2_ := Aside0.mk (blk_below (g := gb916) (o := .cells #[.int .i64 t907, .int .i64 t908, .int .i64 t909, .int .i64 t910, .int .i64 t911, .int .i64 t912, .int .i64 t913, .int .i64 t914, .int .i64 t915] 58 (0, 0)) (by (with_reducible repeat (first | refine blk_drewN ?_ _ | refine blk_drew ?_ | refine blk_alloc ?_ _)); exact BK916.out) hb); have n3_ := Aside0.mk (blk_below (g := gb927) (o := .cells #[.int .i64 t917, .int .i64 t918, .int .i64 t919, .int .i64 t920, .int .i64 t921, .int .i64 t922, .int .i64 t923, .int .i64 t924, .int .i64 t925] 58 (0, 0)) (by (with_reducible repeat (first | refine blk_drewN ?_ _ | refine blk_drew ?_ | refine blk_alloc ?_ _)); exact BK927.out) hb); have n4_ := Aside0.mk (blk_below (g := gb938) (o := .cells #[.int .i64 t928, .int .i64 t929, .int .i64 t930, .int .i64 t931, .int .i64 t932, .int .i64 t933, .int .i64 t934, .int .i64 t935, .int .i64 t936] 58 (0, 0)) (by (with_reducible repeat (first | refine blk_drewN ?_ _ | refine blk_drew ?_ | refine blk_alloc ?_ _)); exact BK938.out) hb); have n5_ := Aside0.mk (below_step (by repeat (first | (with_reducible first | exact HB.out | apply below_alloc | apply pw_below_drewN | apply below_drew1 | refine below_set ?_ GE916.out | refine below_set ?_ GE927.out | refine below_set ?_ GE938.out) | exact HB.out)) hb); clear HO941; clear BK916; clear BK927; clear BK938; clear HB; have HO941 := n0_; have HO945 := n1_; have BK916 := n2_; have BK927 := n3_; have BK938 := n4_; have HB := n5_; clear n0_ n1_ n2_ n3_ n4_ n5_; (try clear hb); (try clear hb2); (try clear hk); (try clear hi); (try clear ho0); have hcz29_0 : w28.cell? ⟨gb916, 0, none⟩ = some (.int .i64 t907) := (blk_cell BK916.out 0).trans rfl; have hcz29_1 : w28.cell? ⟨gb916, 1, none⟩ = some (.int .i64 t908) := (blk_cell BK916.out 1).trans rfl; have hcz29_2 : w28.cell? ⟨gb916, 2, none⟩ = some (.int .i64 t909) := (blk_cell BK916.out 2).trans rfl; have hcz29_3 : w28.cell? ⟨gb916, 3, none⟩ = some (.int .i64 t910) := (blk_cell BK916.out 3).trans rfl; have hcz29_4 : w28.cell? ⟨gb916, 4, none⟩ = some (.int .i64 t911) := (blk_cell BK916.out 4).trans rfl; have hcz29_5 : w28.cell? ⟨gb916, 5, none⟩ = some (.int .i64 t912) := (blk_cell BK916.out 5).trans rfl; have hcz29_6 : w28.cell? ⟨gb916, 6, none⟩ = some (.int .i64 t913) := (blk_cell BK916.out 6).trans rfl; have hcz29_7 : w28.cell? ⟨gb916, 7, none⟩ = some (.int .i64 t914) := (blk_cell BK916.out 7).trans rfl; have hcz29_8 : w28.cell? ⟨gb916, 8, none⟩ = some (.int .i64 t915) := (blk_cell BK916.out 8).trans rfl; have hfz29_0 := blk_frozen BK916.out 0; have hfz29_1 := blk_frozen BK916.out 1; have hfz29_2 := blk_frozen BK916.out 2; have hfz29_3 := blk_frozen BK916.out 3; have hfz29_4 := blk_frozen BK916.out 4; have hfz29_5 := blk_frozen BK916.out 5; have hfz29_6 := blk_frozen BK916.out 6; have hfz29_7 := blk_frozen BK916.out 7; have hfz29_8 := blk_frozen BK916.out 8) | (go_at_call 48; (with_reducible refine (impl_StrokesOf.calls t907 t908 t909 t910 t911 t912 t913 t914 t915 t947 t950 _ A10.out).mono ?_); rintro e w30 ⟨v948, rfl, ho0, hb⟩; have n0_ := Aside0.mk (Kd.R_elder' (by (with_reducible repeat (first | apply Kd.R_alloc | apply Kd.R_drewN | apply Kd.R_drew)); exact HO941.out) (Kd.R_base ho0) hb); have n1_ := Aside0.mk (Kd.R_elder' (by (with_reducible repeat (first | apply Kd.R_alloc | apply Kd.R_drewN | apply Kd.R_drew)); exact HO945.out) (Kd.R_base ho0) hb); have n2_ := Aside0.mk (Kd.R_lower (Kd.R_new' (Kd.R_new' ho0 (Kd.R_lt (by (with_reducible repeat (first | apply Kd.R_alloc | apply Kd.R_drewN | apply Kd.R_drew)); exact HO941.out))) (Kd.R_lt (by (with_reducible repeat (first | apply Kd.R_alloc | apply Kd.R_drewN | apply Kd.R_drew)); exact HO945.out))) (below_size (by repeat (first | (with_reducible first | exact HB.out | apply below_alloc | apply pw_below_drewN | apply below_drew1 | refine below_set ?_ GE916.out | refine below_set ?_ GE927.out | refine below_set ?_ GE938.out) | exact HB.out)))); have n3_ := Aside0.mk (blk_below (g := gb916) (o := .cells #[.int .i64 t907, .int .i64 t908, .int .i64 t909, .int .i64 t910, .int .i64 t911, .int .i64 t912, .int .i64 t913, .int .i64 t914, .int .i64 t915] 58 (0, 0)) (by (with_reducible repeat (first | refine blk_drewN ?_ _ | refine blk_drew ?_ | refine blk_alloc ?_ _)); exact BK916.out) hb); have n4_ := Aside0.mk (blk_below (g := gb927) (o := .cells #[.int .i64 t917, .int .i64 t918, .int .i64 t919, .int .i64 t920, .int .i64 t921, .int .i64 t922, .int .i64 t923, .int .i64 t924, .int .i64 t925] 58 (0, 0)) (by (with_reducible repeat (first | refine blk_drewN ?_ _ | refine blk_drew ?_ | refine blk_alloc ?_ _)); exact BK927.out) hb); have n5_ := Aside0.mk (blk_below (g := gb938) (o := .cells #[.int .i64 t928, .int .i64 t929, .int .i64 t930, .int .i64 t931, .int .i64 t932, .int .i64 t933, .int .i64 t934, .int .i64 t935, .int .i64 t936] 58 (0, 0)) (by (with_reducible repeat (first | refine blk_drewN ?_ _ | refine blk_drew ?_ | refine blk_alloc ?_ _)); exact BK938.out) hb); have n6_ := Aside0.mk (below_step (by repeat (first | (with_reducible first | exact HB.out | apply below_alloc | apply pw_below_drewN | apply below_drew1 | refine below_set ?_ GE916.out | refine below_set ?_ GE927.out | refine below_set ?_ GE938.out) | exact HB.out)) hb); clear HO941; clear HO945; clear BK916; clear BK927; clear BK938; clear HB; have HO941 := n0_; have HO945 := n1_; have HO949 := n2_; have BK916 := n3_; have BK927 := n4_; have BK938 := n5_; have HB := n6_; clear n0_ n1_ n2_ n3_ n4_ n5_ n6_; (try clear hb); (try clear hb2); (try clear hk); (try clear hi); (try clear ho0); have hcz31_0 : w30.cell? ⟨gb927, 0, none⟩ = some (.int .i64 t917) := (blk_cell BK927.out 0).trans rfl; have hcz31_1 : w30.cell? ⟨gb927, 1, none⟩ = some (.int .i64 t918) := (blk_cell BK927.out 1).trans rfl; have hcz31_2 : w30.cell? ⟨gb927, 2, none⟩ = some (.int .i64 t919) := (blk_cell BK927.out 2).trans rfl; have hcz31_3 : w30.cell? ⟨gb927, 3, none⟩ = some (.int .i64 t920) := (blk_cell BK927.out 3).trans rfl; have hcz31_4 : w30.cell? ⟨gb927, 4, none⟩ = some (.int .i64 t921) := (blk_cell BK927.out 4).trans rfl; have hcz31_5 : w30.cell? ⟨gb927, 5, none⟩ = some (.int .i64 t922) := (blk_cell BK927.out 5).trans rfl; have hcz31_6 : w30.cell? ⟨gb927, 6, none⟩ = some (.int .i64 t923) := (blk_cell BK927.out 6).trans rfl; have hcz31_7 : w30.cell? ⟨gb927, 7, none⟩ = some (.int .i64 t924) := (blk_cell BK927.out 7).trans rfl; have hcz31_8 : w30.cell? ⟨gb927, 8, none⟩ = some (.int .i64 t925) := (blk_cell BK927.out 8).trans rfl; have hfz31_0 := blk_frozen BK927.out 0; have hfz31_1 := blk_frozen BK927.out 1; have hfz31_2 := blk_frozen BK927.out 2; have hfz31_3 := blk_frozen BK927.out 3; have hfz31_4 := blk_frozen BK927.out 4; have hfz31_5 := blk_frozen BK927.out 5; have hfz31_6 := blk_frozen BK927.out 6; have hfz31_7 := blk_frozen BK927.out 7; have hfz31_8 := blk_frozen BK927.out 8) | (go_at_call 48; (with_reducible refine (impl_StrokesOf.calls t917 t918 t919 t920 t921 t922 t923 t924 t925 t951 t954 _ A11.out).mono ?_); rintro e w32 ⟨v952, rfl, ho0, hb⟩; have n0_ := Aside0.mk (Kd.R_elder' (by (with_reducible repeat (first | apply Kd.R_alloc | apply Kd.R_drewN | apply Kd.R_drew)); exact HO941.out) (Kd.R_base ho0) hb); have n1_ := Aside0.mk (Kd.R_elder' (by (with_reducible repeat (first | apply Kd.R_alloc | apply Kd.R_drewN | apply Kd.R_drew)); exact HO945.out) (Kd.R_base ho0) hb); have n2_ := Aside0.mk (Kd.R_elder' (by (with_reducible repeat (first | apply Kd.R_alloc | apply Kd.R_drewN | apply Kd.R_drew)); exact HO949.out) (Kd.R_base ho0) hb); have n3_ := Aside0.mk (Kd.R_lower (Kd.R_new' (Kd.R_new' (Kd.R_new' ho0 (Kd.R_lt (by (with_reducible repeat (first | apply Kd.R_alloc | apply Kd.R_drewN | apply Kd.R_drew)); exact HO941.out))) (Kd.R_lt (by (with_reducible repeat (first | apply Kd.R_alloc | apply Kd.R_drewN | apply Kd.R_drew)); exact HO945.out))) (Kd.R_lt (by (with_reducible repeat (first | apply Kd.R_alloc | apply Kd.R_drewN | apply Kd.R_drew)); exact HO949.out))) (below_size (by repeat (first | (with_reducible first | exact HB.out | apply below_alloc | apply pw_below_drewN | apply below_drew1 | refine below_set ?_ GE916.out | refine below_set ?_ GE927.out | refine below_set ?_ GE938.out) | exact HB.out)))); have n4_ := Aside0.mk (blk_below (g := gb916) (o := .cells #[.int .i64 t907, .int .i64 t908, .int .i64 t909, .int .i64 t910, .int .i64 t911, .int .i64 t912, .int .i64 t913, .int .i64 t914, .int .i64 t915] 58 (0, 0)) (by (with_reducible repeat (first | refine blk_drewN ?_ _ | refine blk_drew ?_ | refine blk_alloc ?_ _)); exact BK916.out) hb); have n5_ := Aside0.mk (blk_below (g := gb927) (o := .cells #[.int .i64 t917, .int .i64 t918, .int .i64 t919, .int .i64 t920, .int .i64 t921, .int .i64 t922, .int .i64 t923, .int .i64 t924, .int .i64 t925] 58 (0, 0)) (by (with_reducible repeat (first | refine blk_drewN ?_ _ | refine blk_drew ?_ | refine blk_alloc ?_ _)); exact BK927.out) hb); have n6_ := Aside0.mk (blk_below (g := gb938) (o := .cells #[.int .i64 t928, .int .i64 t929, .int .i64 t930, .int .i64 t931, .int .i64 t932, .int .i64 t933, .int .i64 t934, .int .i64 t935, .int .i64 t936] 58 (0, 0)) (by (with_reducible repeat (first | refine blk_drewN ?_ _ | refine blk_drew ?_ | refine blk_alloc ?_ _)); exact BK938.out) hb); have n7_ := Aside0.mk (below_step (by repeat (first | (with_reducible first | exact HB.out | apply below_alloc | apply pw_below_drewN | apply below_drew1 | refine below_set ?_ GE916.out | refine below_set ?_ GE927.out | refine below_set ?_ GE938.out) | exact HB.out)) hb); clear HO941; clear HO945; clear HO949; clear BK916; clear BK927; clear BK938; clear HB; have HO941 := n0_; have HO945 := n1_; have HO949 := n2_; have HO953 := n3_; have BK916 := n4_; have BK927 := n5_; have BK938 := n6_; have HB := n7_; clear n0_ n1_ n2_ n3_ n4_ n5_ n6_ n7_; (try clear hb); (try clear hb2); (try clear hk); (try clear hi); (try clear ho0))); go_upto_region 10 with (first | (go_at_call 33; (with_reducible refine (laws_r8Long.calls _ _ l0 _ _ l1 false _ ?side1 ?side2 ?side3 ?side4 A3.out).mono ?_); (case side1 => repeat (first | exact HR0.out | (with_reducible refine Kd.C_alloc ?_ _) | (with_reducible refine Kd.C_drewN ?_ _) | (with_reducible refine Kd.C_drew ?_))); (case side2 => exact HC0.out); (case side3 => repeat (first | exact HR1.out | (with_reducible refine Kd.C_alloc ?_ _) | (with_reducible refine Kd.C_drewN ?_ _) | (with_reducible refine Kd.C_drew ?_))); (case side4 => exact HC1.out); rintro e w' ⟨rfl, ⟨nd, rfl⟩⟩; (try first | exact ⟨rfl, _, World.drewN_drewN _ _ _⟩ | exact ⟨rfl, _, Eq.trans (World.drewN_drewN _ _ _) (congrArg (World.drewN _) (Nat.add_assoc _ _ _))⟩)) | (go_at_call 56; (with_reducible refine (spec_R8Machine.calls k _ _ l0 t907 t908 t909 t910 t911 t912 t913 t914 t915 _ ?side1 ?side2 A5.out).mono ?_); (case side1 => repeat (first | exact HR0.out | (with_reducible refine Kd.C_alloc ?_ _) | (with_reducible refine Kd.C_drewN ?_ _) | (with_reducible refine Kd.C_drew ?_))); (case side2 => exact HC0.out); rintro e w13 ⟨rfl, hb⟩; have n0_ := Aside0.mk (below_step (by repeat (first | (with_reducible first | exact HB.out | apply below_alloc | apply pw_below_drewN | apply below_drew1) | exact HB.out)) hb); clear HB; have HB := n0_; clear n0_; (try clear hb); (try clear hb2); (try clear hk); (try clear hi)) | ((with_reducible refine gate_dst (N := 5) rfl ?_); (try (refine gate_guard (by rfl) ?_; dsimp only)); refine box_event ?hg (N := 5) ?hd (cs := #[.int .i64 0, .int .i64 0, .int .i64 0, .int .i64 0, .int .i64 0, .int .i64 0, .int .i64 0, .int .i64 0, .int .i64 0]) (t := 58) ?hr ?_; (case hd => rfl); (case hg => rfl); (case hr => first | (go_simp; done) | (go_simp; rfl)); intro gb916 hg w14 hbox hb; have n0_ := Aside0.mk (below_step (by repeat (first | (with_reducible first | exact HB.out | apply below_alloc | apply pw_below_drewN | apply below_drew1) | exact HB.out)) hb); have n1_ := Aside0.mk (hbox); have n2_ := Aside0.mk ((by rw [hg]; exact (below_size (by repeat (first | (with_reducible first | exact HB.out | apply below_alloc | apply pw_below_drewN | apply below_drew1) | exact HB.out))) : w.heap.size ≤ gb916)); have n3_ := Aside0.mk ((by rw [hg]; exact (below_size (by repeat (first | (with_reducible first | exact HB.out | apply below_alloc | apply pw_below_drewN | apply below_drew1) | exact HB.out))) : w.heap.size ≤ gb916)); clear HB; have HB := n0_; have BK916 := n1_; have GW916 := n2_; have GE916 := n3_; clear n0_ n1_ n2_ n3_; clear hb hbox hg; have hcz15_0 : w14.cell? ⟨gb916, 0, none⟩ = some (.int .i64 0) := (blk_cell BK916.out 0).trans rfl; have hcz15_1 : w14.cell? ⟨gb916, 1, none⟩ = some (.int .i64 0) := (blk_cell BK916.out 1).trans rfl; have hcz15_2 : w14.cell? ⟨gb916, 2, none⟩ = some (.int .i64 0) := (blk_cell BK916.out 2).trans rfl; have hcz15_3 : w14.cell? ⟨gb916, 3, none⟩ = some (.int .i64 0) := (blk_cell BK916.out 3).trans rfl; have hcz15_4 : w14.cell? ⟨gb916, 4, none⟩ = some (.int .i64 0) := (blk_cell BK916.out 4).trans rfl; have hcz15_5 : w14.cell? ⟨gb916, 5, none⟩ = some (.int .i64 0) := (blk_cell BK916.out 5).trans rfl; have hcz15_6 : w14.cell? ⟨gb916, 6, none⟩ = some (.int .i64 0) := (blk_cell BK916.out 6).trans rfl; have hcz15_7 : w14.cell? ⟨gb916, 7, none⟩ = some (.int .i64 0) := (blk_cell BK916.out 7).trans rfl; have hcz15_8 : w14.cell? ⟨gb916, 8, none⟩ = some (.int .i64 0) := (blk_cell BK916.out 8).trans rfl; have hfz15_0 := blk_frozen BK916.out 0; have hfz15_1 := blk_frozen BK916.out 1; have hfz15_2 := blk_frozen BK916.out 2; have hfz15_3 := blk_frozen BK916.out 3; have hfz15_4 := blk_frozen BK916.out 4; have hfz15_5 := blk_frozen BK916.out 5; have hfz15_6 := blk_frozen BK916.out 6; have hfz15_7 := blk_frozen BK916.out 7; have hfz15_8 := blk_frozen BK916.out 8) | (go_at_call 50; (with_reducible refine (impl_MirrorMachine.calls t907 t908 t909 t910 t911 t912 t913 t914 t915 t917 t918 t919 t920 t921 t922 t923 t924 t925 t926 _ A6.out).mono ?_); rintro e w16 ⟨rfl, hb⟩; have n0_ := Aside0.mk (blk_below (g := gb916) (o := .cells #[.int .i64 t907, .int .i64 t908, .int .i64 t909, .int .i64 t910, .int .i64 t911, .int .i64 t912, .int .i64 t913, .int .i64 t914, .int .i64 t915] 58 (0, 0)) (by (with_reducible repeat (first | refine blk_drewN ?_ _ | refine blk_drew ?_ | refine blk_alloc ?_ _)); refine blk_put (cs := #[.int .i64 t907, .int .i64 t908, .int .i64 t909, .int .i64 t910, .int .i64 t911, .int .i64 t912, .int .i64 t913, .int .i64 t914, .int .i64 0]) ?_ 8 _ rfl; (with_reducible repeat (first | refine blk_drewN ?_ _ | refine blk_drew ?_ | refine blk_alloc ?_ _)); refine blk_put (cs := #[.int .i64 t907, .int .i64 t908, .int .i64 t909, .int .i64 t910, .int .i64 t911, .int .i64 t912, .int .i64 t913, .int .i64 0, .int .i64 0]) ?_ 7 _ rfl; (with_reducible repeat (first | refine blk_drewN ?_ _ | refine blk_drew ?_ | refine blk_alloc ?_ _)); refine blk_put (cs := #[.int .i64 t907, .int .i64 t908, .int .i64 t909, .int .i64 t910, .int .i64 t911, .int .i64 t912, .int .i64 0, .int .i64 0, .int .i64 0]) ?_ 6 _ rfl; (with_reducible repeat (first | refine blk_drewN ?_ _ | refine blk_drew ?_ | refine blk_alloc ?_ _)); refine blk_put (cs := #[.int .i64 t907, .int .i64 t908, .int .i64 t909, .int .i64 t910, .int .i64 t911, .int .i64 0, .int .i64 0, .int .i64 0, .int .i64 0]) ?_ 5 _ rfl; (with_reducible repeat (first | refine blk_drewN ?_ _ | refine blk_drew ?_ | refine blk_alloc ?_ _)); refine blk_put (cs := #[.int .i64 t907, .int .i64 t908, .int .i64 t909, .int .i64 t910, .int .i64 0, .int .i64 0, .int .i64 0, .int .i64 0, .int .i64 0]) ?_ 4 _ rfl; (with_reducible repeat (first | refine blk_drewN ?_ _ | refine blk_drew ?_ | refine blk_alloc ?_ _)); refine blk_put (cs := #[.int .i64 t907, .int .i64 t908, .int .i64 t909, .int .i64 0, .int .i64 0, .int .i64 0, .int .i64 0, .int .i64 0, .int .i64 0]) ?_ 3 _ rfl; (with_reducible repeat (first | refine blk_drewN ?_ _ | refine blk_drew ?_ | refine blk_alloc ?_ _)); refine blk_put (cs := #[.int .i64 t907, .int .i64 t908, .int .i64 0, .int .i64 0, .int .i64 0, .int .i64 0, .int .i64 0, .int .i64 0, .int .i64 0]) ?_ 2 _ rfl; (with_reducible repeat (first | refine blk_drewN ?_ _ | refine blk_drew ?_ | refine blk_alloc ?_ _)); refine blk_put (cs := #[.int .i64 t907, .int .i64 0, .int .i64 0, .int .i64 0, .int .i64 0, .int .i64 0, .int .i64 0, .int .i64 0, .int .i64 0]) ?_ 1 _ rfl; (with_reducible repeat (first | refine blk_drewN ?_ _ | refine blk_drew ?_ | refine blk_alloc ?_ _)); refine blk_put (cs := #[.int .i64 0, .int .i64 0, .int .i64 0, .int .i64 0, .int .i64 0, .int .i64 0, .int .i64 0, .int .i64 0, .int .i64 0]) ?_ 0 _ rfl; (with_reducible repeat (first | refine blk_drewN ?_ _ | refine blk_drew ?_ | refine blk_alloc ?_ _)); exact BK916.out) hb); have n1_ := Aside0.mk (below_step (by repeat (first | (with_reducible first | exact HB.out | apply below_alloc | apply pw_below_drewN | apply below_drew1 | refine below_set ?_ GE916.out) | exact HB.out)) hb); clear BK916; clear HB; have BK916 := n0_; have HB := n1_; clear n0_ n1_; (try clear hb); (try clear hb2); (try clear hk); (try clear hi)) | ((with_reducible refine gate_dst (N := 6) rfl ?_); (try (refine gate_guard (by rfl) ?_; dsimp only)); refine box_event ?hg (N := 6) ?hd (cs := #[.int .i64 0, .int .i64 0, .int .i64 0, .int .i64 0, .int .i64 0, .int .i64 0, .int .i64 0, .int .i64 0, .int .i64 0]) (t := 58) ?hr ?_; (case hd => rfl); (case hg => rfl); (case hr => first | (go_simp; done) | (go_simp; rfl)); intro gb927 hg w17 hbox hb; have n0_ := Aside0.mk (blk_below (g := gb916) (o := .cells #[.int .i64 t907, .int .i64 t908, .int .i64 t909, .int .i64 t910, .int .i64 t911, .int .i64 t912, .int .i64 t913, .int .i64 t914, .int .i64 t915] 58 (0, 0)) (by (with_reducible repeat (first | refine blk_drewN ?_ _ | refine blk_drew ?_ | refine blk_alloc ?_ _)); exact BK916.out) hb); have n1_ := Aside0.mk (below_step (by repeat (first | (with_reducible first | exact HB.out | apply below_alloc | apply pw_below_drewN | apply below_drew1 | refine below_set ?_ GE916.out) | exact HB.out)) hb); have n2_ := Aside0.mk (hbox); have n3_ := Aside0.mk ((by rw [hg]; exact (below_size (by repeat (first | (with_reducible first | exact HB.out | apply below_alloc | apply pw_below_drewN | apply below_drew1 | refine below_set ?_ GE916.out) | exact HB.out))) : w.heap.size ≤ gb927)); have n4_ := Aside0.mk ((by rw [hg]; exact (below_size (by repeat (first | (with_reducible first | exact HB.out | apply below_alloc | apply pw_below_drewN | apply below_drew1 | refine below_set ?_ GE916.out) | exact HB.out))) : w.heap.size ≤ gb927)); have n5_ := Aside0.mk ((by rw [hg]; exact Nat.ne_of_lt (blk_lt (g := gb916) (o := .cells #[.int .i64 t907, .int .i64 t908, .int .i64 t909, .int .i64 t910, .int .i64 t911, .int .i64 t912, .int .i64 t913, .int .i64 t914, .int .i64 t915] 58 (0, 0)) (by (with_reducible repeat (first | refine blk_drewN ?_ _ | refine blk_drew ?_ | refine blk_alloc ?_ _)); exact BK916.out)) : gb916 ≠ gb927)); have n6_ := Aside0.mk ((by rw [hg]; exact Nat.ne_of_gt (blk_lt (g := gb916) (o := .cells #[.int .i64 t907, .int .i64 t908, .int .i64 t909, .int .i64 t910, .int .i64 t911, .int .i64 t912, .int .i64 t913, .int .i64 t914, .int .i64 t915] 58 (0, 0)) (by (with_reducible repeat (first | refine blk_drewN ?_ _ | refine blk_drew ?_ | refine blk_alloc ?_ _)); exact BK916.out)) : gb927 ≠ gb916)); clear BK916; clear HB; have BK916 := n0_; have HB := n1_; have BK927 := n2_; have GW927 := n3_; have GE927 := n4_; have NB916_927 := n5_; have NB927_916 := n6_; clear n0_ n1_ n2_ n3_ n4_ n5_ n6_; clear hb hbox hg; have hnb18 := NB927_916.out; have hnc18 := NB916_927.out; have hcz19_0 : w17.cell? ⟨gb927, 0, none⟩ = some (.int .i64 0) := (blk_cell BK927.out 0).trans rfl; have hcz19_1 : w17.cell? ⟨gb927, 1, none⟩ = some (.int .i64 0) := (blk_cell BK927.out 1).trans rfl; have hcz19_2 : w17.cell? ⟨gb927, 2, none⟩ = some (.int .i64 0) := (blk_cell BK927.out 2).trans rfl; have hcz19_3 : w17.cell? ⟨gb927, 3, none⟩ = some (.int .i64 0) := (blk_cell BK927.out 3).trans rfl; have hcz19_4 : w17.cell? ⟨gb927, 4, none⟩ = some (.int .i64 0) := (blk_cell BK927.out 4).trans rfl; have hcz19_5 : w17.cell? ⟨gb927, 5, none⟩ = some (.int .i64 0) := (blk_cell BK927.out 5).trans rfl; have hcz19_6 : w17.cell? ⟨gb927, 6, none⟩ = some (.int .i64 0) := (blk_cell BK927.out 6).trans rfl; have hcz19_7 : w17.cell? ⟨gb927, 7, none⟩ = some (.int .i64 0) := (blk_cell BK927.out 7).trans rfl; have hcz19_8 : w17.cell? ⟨gb927, 8, none⟩ = some (.int .i64 0) := (blk_cell BK927.out 8).trans rfl; have hfz19_0 := blk_frozen BK927.out 0; have hfz19_1 := blk_frozen BK927.out 1; have hfz19_2 := blk_frozen BK927.out 2; have hfz19_3 := blk_frozen BK927.out 3; have hfz19_4 := blk_frozen BK927.out 4; have hfz19_5 := blk_frozen BK927.out 5; have hfz19_6 := blk_frozen BK927.out 6; have hfz19_7 := blk_frozen BK927.out 7; have hfz19_8 := blk_frozen BK927.out 8) | (go_at_call 50; (with_reducible refine (impl_MirrorMachine.calls t917 t918 t919 t920 t921 t922 t923 t924 t925 t928 t929 t930 t931 t932 t933 t934 t935 t936 t937 _ A7.out).mono ?_); rintro e w20 ⟨rfl, hb⟩; have n0_ := Aside0.mk (blk_below (g := gb916) (o := .cells #[.int .i64 t907, .int .i64 t908, .int .i64 t909, .int .i64 t910, .int .i64 t911, .int .i64 t912, .int .i64 t913, .int .i64 t914, .int .i64 t915] 58 (0, 0)) (by (with_reducible repeat (first | refine blk_drewN ?_ _ | refine blk_drew ?_ | refine blk_alloc ?_ _)); refine blk_far ?_ NB916_927.out _; (with_reducible repeat (first | refine blk_drewN ?_ _ | refine blk_drew ?_ | refine blk_alloc ?_ _)); refine blk_far ?_ NB916_927.out _; (with_reducible repeat (first | refine blk_drewN ?_ _ | refine blk_drew ?_ | refine blk_alloc ?_ _)); refine blk_far ?_ NB916_927.out _; (with_reducible repeat (first | refine blk_drewN ?_ _ | refine blk_drew ?_ | refine blk_alloc ?_ _)); refine blk_far ?_ NB916_927.out _; (with_reducible repeat (first | refine blk_drewN ?_ _ | refine blk_drew ?_ | refine blk_alloc ?_ _)); refine blk_far ?_ NB916_927.out _; (with_reducible repeat (first | refine blk_drewN ?_ _ | refine blk_drew ?_ | refine blk_alloc ?_ _)); refine blk_far ?_ NB916_927.out _; (with_reducible repeat (first | refine blk_drewN ?_ _ | refine blk_drew ?_ | refine blk_alloc ?_ _)); refine blk_far ?_ NB916_927.out _; (with_reducible repeat (first | refine blk_drewN ?_ _ | refine blk_drew ?_ | refine blk_alloc ?_ _)); refine blk_far ?_ NB916_927.out _; (with_reducible repeat (first | refine blk_drewN ?_ _ | refine blk_drew ?_ | refine blk_alloc ?_ _)); refine blk_far ?_ NB916_927.out _; (with_reducible repeat (first | refine blk_drewN ?_ _ | refine blk_drew ?_ | refine blk_alloc ?_ _)); exact BK916.out) hb); have n1_ := Aside0.mk (blk_below (g := gb927) (o := .cells #[.int .i64 t917, .int .i64 t918, .int .i64 t919, .int .i64 t920, .int .i64 t921, .int .i64 t922, .int .i64 t923, .int .i64 t924, .int .i64 t925] 58 (0, 0)) (by (with_reducible repeat (first | refine blk_drewN ?_ _ | refine blk_drew ?_ | refine blk_alloc ?_ _)); refine blk_put (cs := #[.int .i64 t917, .int .i64 t918, .int .i64 t919, .int .i64 t920, .int .i64 t921, .int .i64 t922, .int .i64 t923, .int .i64 t924, .int .i64 0]) ?_ 8 _ rfl; (with_reducible repeat (first | refine blk_drewN ?_ _ | refine blk_drew ?_ | refine blk_alloc ?_ _)); refine blk_put (cs := #[.int .i64 t917, .int .i64 t918, .int .i64 t919, .int .i64 t920, .int .i64 t921, .int .i64 t922, .int .i64 t923, .int .i64 0, .int .i64 0]) ?_ 7 _ rfl; (with_reducible repeat (first | refine blk_drewN ?_ _ | refine blk_drew ?_ | refine blk_alloc ?_ _)); refine blk_put (cs := #[.int .i64 t917, .int .i64 t918, .int .i64 t919, .int .i64 t920, .int .i64 t921, .int .i64 t922, .int .i64 0, .int .i64 0, .int .i64 0]) ?_ 6 _ rfl; (with_reducible repeat (first | refine blk_drewN ?_ _ | refine blk_drew ?_ | refine blk_alloc ?_ _)); refine blk_put (cs := #[.int .i64 t917, .int .i64 t918, .int .i64 t919, .int .i64 t920, .int .i64 t921, .int .i64 0, .int .i64 0, .int .i64 0, .int .i64 0]) ?_ 5 _ rfl; (with_reducible repeat (first | refine blk_drewN ?_ _ | refine blk_drew ?_ | refine blk_alloc ?_ _)); refine blk_put (cs := #[.int .i64 t917, .int .i64 t918, .int .i64 t919, .int .i64 t920, .int .i64 0, .int .i64 0, .int .i64 0, .int .i64 0, .int .i64 0]) ?_ 4 _ rfl; (with_reducible repeat (first | refine blk_drewN ?_ _ | refine blk_drew ?_ | refine blk_alloc ?_ _)); refine blk_put (cs := #[.int .i64 t917, .int .i64 t918, .int .i64 t919, .int .i64 0, .int .i64 0, .int .i64 0, .int .i64 0, .int .i64 0, .int .i64 0]) ?_ 3 _ rfl; (with_reducible repeat (first | refine blk_drewN ?_ _ | refine blk_drew ?_ | refine blk_alloc ?_ _)); refine blk_put (cs := #[.int .i64 t917, .int .i64 t918, .int .i64 0, .int .i64 0, .int .i64 0, .int .i64 0, .int .i64 0, .int .i64 0, .int .i64 0]) ?_ 2 _ rfl; (with_reducible repeat (first | refine blk_drewN ?_ _ | refine blk_drew ?_ | refine blk_alloc ?_ _)); refine blk_put (cs := #[.int .i64 t917, .int .i64 0, .int .i64 0, .int .i64 0, .int .i64 0, .int .i64 0, .int .i64 0, .int .i64 0, .int .i64 0]) ?_ 1 _ rfl; (with_reducible repeat (first | refine blk_drewN ?_ _ | refine blk_drew ?_ | refine blk_alloc ?_ _)); refine blk_put (cs := #[.int .i64 0, .int .i64 0, .int .i64 0, .int .i64 0, .int .i64 0, .int .i64 0, .int .i64 0, .int .i64 0, .int .i64 0]) ?_ 0 _ rfl; (with_reducible repeat (first | refine blk_drewN ?_ _ | refine blk_drew ?_ | refine blk_alloc ?_ _)); exact BK927.out) hb); have n2_ := Aside0.mk (below_step (by repeat (first | (with_reducible first | exact HB.out | apply below_alloc | apply pw_below_drewN | apply below_drew1 | refine below_set ?_ GE916.out | refine below_set ?_ GE927.out) | exact HB.out)) hb); clear BK916; clear BK927; clear HB; have BK916 := n0_; have BK927 := n1_; have HB := n2_; clear n0_ n1_ n2_; (try clear hb); (try clear hb2); (try clear hk); (try clear hi)) | ((with_reducible refine gate_dst (N := 8) rfl ?_); (try (refine gate_guard (by rfl) ?_; dsimp only)); refine box_event ?hg (N := 8) ?hd (cs := #[.int .i64 0, .int .i64 0, .int .i64 0, .int .i64 0, .int .i64 0, .int .i64 0, .int .i64 0, .int .i64 0, .int .i64 0]) (t := 58) ?hr ?_; (case hd => rfl); (case hg => rfl); (case hr => first | (go_simp; done) | (go_simp; rfl)); intro gb938 hg w21 hbox hb; have n0_ := Aside0.mk (blk_below (g := gb916) (o := .cells #[.int .i64 t907, .int .i64 t908, .int .i64 t909, .int .i64 t910, .int .i64 t911, .int .i64 t912, .int .i64 t913, .int .i64 t914, .int .i64 t915] 58 (0, 0)) (by (with_reducible repeat (first | refine blk_drewN ?_ _ | refine blk_drew ?_ | refine blk_alloc ?_ _)); exact BK916.out) hb); have n1_ := Aside0.mk (blk_below (g := gb927) (o := .cells #[.int .i64 t917, .int .i64 t918, .int .i64 t919, .int .i64 t920, .int .i64 t921, .int .i64 t922, .int .i64 t923, .int .i64 t924, .int .i64 t925] 58 (0, 0)) (by (with_reducible repeat (first | refine blk_drewN ?_ _ | refine blk_drew ?_ | refine blk_alloc ?_ _)); exact BK927.out) hb); have n2_ := Aside0.mk (below_step (by repeat (first | (with_reducible first | exact HB.out | apply below_alloc | apply pw_below_drewN | apply below_drew1 | refine below_set ?_ GE916.out | refine below_set ?_ GE927.out) | exact HB.out)) hb); have n3_ := Aside0.mk (hbox); have n4_ := Aside0.mk ((by rw [hg]; exact (below_size (by repeat (first | (with_reducible first | exact HB.out | apply below_alloc | apply pw_below_drewN | apply below_drew1 | refine below_set ?_ GE916.out | refine below_set ?_ GE927.out) | exact HB.out))) : w.heap.size ≤ gb938)); have n5_ := Aside0.mk ((by rw [hg]; exact (below_size (by repeat (first | (with_reducible first | exact HB.out | apply below_alloc | apply pw_below_drewN | apply below_drew1 | refine below_set ?_ GE916.out | refine below_set ?_ GE927.out) | exact HB.out))) : w.heap.size ≤ gb938)); have n6_ := Aside0.mk ((by rw [hg]; exact Nat.ne_of_lt (blk_lt (g := gb916) (o := .cells #[.int .i64 t907, .int .i64 t908, .int .i64 t909, .int .i64 t910, .int .i64 t911, .int .i64 t912, .int .i64 t913, .int .i64 t914, .int .i64 t915] 58 (0, 0)) (by (with_reducible repeat (first | refine blk_drewN ?_ _ | refine blk_drew ?_ | refine blk_alloc ?_ _)); exact BK916.out)) : gb916 ≠ gb938)); have n7_ := Aside0.mk ((by rw [hg]; exact Nat.ne_of_gt (blk_lt (g := gb916) (o := .cells #[.int .i64 t907, .int .i64 t908, .int .i64 t909, .int .i64 t910, .int .i64 t911, .int .i64 t912, .int .i64 t913, .int .i64 t914, .int .i64 t915] 58 (0, 0)) (by (with_reducible repeat (first | refine blk_drewN ?_ _ | refine blk_drew ?_ | refine blk_alloc ?_ _)); exact BK916.out)) : gb938 ≠ gb916)); have n8_ := Aside0.mk ((by rw [hg]; exact Nat.ne_of_lt (blk_lt (g := gb927) (o := .cells #[.int .i64 t917, .int .i64 t918, .int .i64 t919, .int .i64 t920, .int .i64 t921, .int .i64 t922, .int .i64 t923, .int .i64 t924, .int .i64 t925] 58 (0, 0)) (by (with_reducible repeat (first | refine blk_drewN ?_ _ | refine blk_drew ?_ | refine blk_alloc ?_ _)); exact BK927.out)) : gb927 ≠ gb938)); have n9_ := Aside0.mk ((by rw [hg]; exact Nat.ne_of_gt (blk_lt (g := gb927) (o := .cells #[.int .i64 t917, .int .i64 t918, .int .i64 t919, .int .i64 t920, .int .i64 t921, .int .i64 t922, .int .i64 t923, .int .i64 t924, .int .i64 t925] 58 (0, 0)) (by (with_reducible repeat (first | refine blk_drewN ?_ _ | refine blk_drew ?_ | refine blk_alloc ?_ _)); exact BK927.out)) : gb938 ≠ gb927)); clear BK916; clear BK927; clear HB; have BK916 := n0_; have BK927 := n1_; have HB := n2_; have BK938 := n3_; have GW938 := n4_; have GE938 := n5_; have NB916_938 := n6_; have NB938_916 := n7_; have NB927_938 := n8_; have NB938_927 := n9_; clear n0_ n1_ n2_ n3_ n4_ n5_ n6_ n7_ n8_ n9_; clear hb hbox hg; have hnb22 := NB938_916.out; have hnc22 := NB916_938.out; have hnb23 := NB938_927.out; have hnc23 := NB927_938.out; have hcz24_0 : w21.cell? ⟨gb938, 0, none⟩ = some (.int .i64 0) := (blk_cell BK938.out 0).trans rfl; have hcz24_1 : w21.cell? ⟨gb938, 1, none⟩ = some (.int .i64 0) := (blk_cell BK938.out 1).trans rfl; have hcz24_2 : w21.cell? ⟨gb938, 2, none⟩ = some (.int .i64 0) := (blk_cell BK938.out 2).trans rfl; have hcz24_3 : w21.cell? ⟨gb938, 3, none⟩ = some (.int .i64 0) := (blk_cell BK938.out 3).trans rfl; have hcz24_4 : w21.cell? ⟨gb938, 4, none⟩ = some (.int .i64 0) := (blk_cell BK938.out 4).trans rfl; have hcz24_5 : w21.cell? ⟨gb938, 5, none⟩ = some (.int .i64 0) := (blk_cell BK938.out 5).trans rfl; have hcz24_6 : w21.cell? ⟨gb938, 6, none⟩ = some (.int .i64 0) := (blk_cell BK938.out 6).trans rfl; have hcz24_7 : w21.cell? ⟨gb938, 7, none⟩ = some (.int .i64 0) := (blk_cell BK938.out 7).trans rfl; have hcz24_8 : w21.cell? ⟨gb938, 8, none⟩ = some (.int .i64 0) := (blk_cell BK938.out 8).trans rfl; have hfz24_0 := blk_frozen BK938.out 0; have hfz24_1 := blk_frozen BK938.out 1; have hfz24_2 := blk_frozen BK938.out 2; have hfz24_3 := blk_frozen BK938.out 3; have hfz24_4 := blk_frozen BK938.out 4; have hfz24_5 := blk_frozen BK938.out 5; have hfz24_6 := blk_frozen BK938.out 6; have hfz24_7 := blk_frozen BK938.out 7; have hfz24_8 := blk_frozen BK938.out 8; have hcz25_0 : w21.cell? ⟨gb916, 0, none⟩ = some (.int .i64 t907) := (blk_cell BK916.out 0).trans rfl; have hcz25_1 : w21.cell? ⟨gb916, 1, none⟩ = some (.int .i64 t908) := (blk_cell BK916.out 1).trans rfl; have hcz25_2 : w21.cell? ⟨gb916, 2, none⟩ = some (.int .i64 t909) := (blk_cell BK916.out 2).trans rfl; have hcz25_3 : w21.cell? ⟨gb916, 3, none⟩ = some (.int .i64 t910) := (blk_cell BK916.out 3).trans rfl; have hcz25_4 : w21.cell? ⟨gb916, 4, none⟩ = some (.int .i64 t911) := (blk_cell BK916.out 4).trans rfl; have hcz25_5 : w21.cell? ⟨gb916, 5, none⟩ = some (.int .i64 t912) := (blk_cell BK916.out 5).trans rfl; have hcz25_6 : w21.cell? ⟨gb916, 6, none⟩ = some (.int .i64 t913) := (blk_cell BK916.out 6).trans rfl; have hcz25_7 : w21.cell? ⟨gb916, 7, none⟩ = some (.int .i64 t914) := (blk_cell BK916.out 7).trans rfl; have hcz25_8 : w21.cell? ⟨gb916, 8, none⟩ = some (.int .i64 t915) := (blk_cell BK916.out 8).trans rfl; have hfz25_0 := blk_frozen BK916.out 0; have hfz25_1 := blk_frozen BK916.out 1; have hfz25_2 := blk_frozen BK916.out 2; have hfz25_3 := blk_frozen BK916.out 3; have hfz25_4 := blk_frozen BK916.out 4; have hfz25_5 := blk_frozen BK916.out 5; have hfz25_6 := blk_frozen BK916.out 6; have hfz25_7 := blk_frozen BK916.out 7; have hfz25_8 := blk_frozen BK916.out 8) | (go_at_call 43; (with_reducible refine (impl_GapsOf.calls t907 t908 t909 t910 t911 t912 t913 t914 t915 t939 t942 _ A8.out).mono ?_); rintro e w26 ⟨v940, rfl, ho0, hb⟩; have n0_ := Aside0.mk (Kd.R_lower ho0 (below_size (by repeat (first | (with_reducible first | exact HB.out | apply below_alloc | apply pw_below_drewN | apply below_drew1 | refine below_set ?_ GE916.out | refine below_set ?_ GE927.out | refine below_set ?_ GE938.out) | exact HB.out)))); have n1_ := Aside0.mk (blk_below (g := gb916) (o := .cells #[.int .i64 t907, .int .i64 t908, .int .i64 t909, .int .i64 t910, .int .i64 t911, .int .i64 t912, .int .i64 t913, .int .i64 t914, .int .i64 t915] 58 (0, 0)) (by (with_reducible repeat (first | refine blk_drewN ?_ _ | refine blk_drew ?_ | refine blk_alloc ?_ _)); refine blk_far ?_ NB916_938.out _; (with_reducible repeat (first | refine blk_drewN ?_ _ | refine blk_drew ?_ | refine blk_alloc ?_ _)); refine blk_far ?_ NB916_938.out _; (with_reducible repeat (first | refine blk_drewN ?_ _ | refine blk_drew ?_ | refine blk_alloc ?_ _)); refine blk_far ?_ NB916_938.out _; (with_reducible repeat (first | refine blk_drewN ?_ _ | refine blk_drew ?_ | refine blk_alloc ?_ _)); refine blk_far ?_ NB916_938.out _; (with_reducible repeat (first | refine blk_drewN ?_ _ | refine blk_drew ?_ | refine blk_alloc ?_ _)); refine blk_far ?_ NB916_938.out _; (with_reducible repeat (first | refine blk_drewN ?_ _ | refine blk_drew ?_ | refine blk_alloc ?_ _)); refine blk_far ?_ NB916_938.out _; (with_reducible repeat (first | refine blk_drewN ?_ _ | refine blk_drew ?_ | refine blk_alloc ?_ _)); refine blk_far ?_ NB916_938.out _; (with_reducible repeat (first | refine blk_drewN ?_ _ | refine blk_drew ?_ | refine blk_alloc ?_ _)); refine blk_far ?_ NB916_938.out _; (with_reducible repeat (first | refine blk_drewN ?_ _ | refine blk_drew ?_ | refine blk_alloc ?_ _)); refine blk_far ?_ NB916_938.out _; (with_reducible repeat (first | refine blk_drewN ?_ _ | refine blk_drew ?_ | refine blk_alloc ?_ _)); exact BK916.out) hb); have n2_ := Aside0.mk (blk_below (g := gb927) (o := .cells #[.int .i64 t917, .int .i64 t918, .int .i64 t919, .int .i64 t920, .int .i64 t921, .int .i64 t922, .int .i64 t923, .int .i64 t924, .int .i64 t925] 58 (0, 0)) (by (with_reducible repeat (first | refine blk_drewN ?_ _ | refine blk_drew ?_ | refine blk_alloc ?_ _)); refine blk_far ?_ NB927_938.out _; (with_reducible repeat (first | refine blk_drewN ?_ _ | refine blk_drew ?_ | refine blk_alloc ?_ _)); refine blk_far ?_ NB927_938.out _; (with_reducible repeat (first | refine blk_drewN ?_ _ | refine blk_drew ?_ | refine blk_alloc ?_ _)); refine blk_far ?_ NB927_938.out _; (with_reducible repeat (first | refine blk_drewN ?_ _ | refine blk_drew ?_ | refine blk_alloc ?_ _)); refine blk_far ?_ NB927_938.out _; (with_reducible repeat (first | refine blk_drewN ?_ _ | refine blk_drew ?_ | refine blk_alloc ?_ _)); refine blk_far ?_ NB927_938.out _; (with_reducible repeat (first | refine blk_drewN ?_ _ | refine blk_drew ?_ | refine blk_alloc ?_ _)); refine blk_far ?_ NB927_938.out _; (with_reducible repeat (first | refine blk_drewN ?_ _ | refine blk_drew ?_ | refine blk_alloc ?_ _)); refine blk_far ?_ NB927_938.out _; (with_reducible repeat (first | refine blk_drewN ?_ _ | refine blk_drew ?_ | refine blk_alloc ?_ _)); refine blk_far ?_ NB927_938.out _; (with_reducible repeat (first | refine blk_drewN ?_ _ | refine blk_drew ?_ | refine blk_alloc ?_ _)); refine blk_far ?_ NB927_938.out _; (with_reducible repeat (first | refine blk_drewN ?_ _ | refine blk_drew ?_ | refine blk_alloc ?_ _)); exact BK927.out) hb); have n3_ := Aside0.mk (blk_below (g := gb938) (o := .cells #[.int .i64 t928, .int .i64 t929, .int .i64 t930, .int .i64 t931, .int .i64 t932, .int .i64 t933, .int .i64 t934, .int .i64 t935, .int .i64 t936] 58 (0, 0)) (by (with_reducible repeat (first | refine blk_drewN ?_ _ | refine blk_drew ?_ | refine blk_alloc ?_ _)); refine blk_put (cs := #[.int .i64 t928, .int .i64 t929, .int .i64 t930, .int .i64 t931, .int .i64 t932, .int .i64 t933, .int .i64 t934, .int .i64 t935, .int .i64 0]) ?_ 8 _ rfl; (with_reducible repeat (first | refine blk_drewN ?_ _ | refine blk_drew ?_ | refine blk_alloc ?_ _)); refine blk_put (cs := #[.int .i64 t928, .int .i64 t929, .int .i64 t930, .int .i64 t931, .int .i64 t932, .int .i64 t933, .int .i64 t934, .int .i64 0, .int .i64 0]) ?_ 7 _ rfl; (with_reducible repeat (first | refine blk_drewN ?_ _ | refine blk_drew ?_ | refine blk_alloc ?_ _)); refine blk_put (cs := #[.int .i64 t928, .int .i64 t929, .int .i64 t930, .int .i64 t931, .int .i64 t932, .int .i64 t933, .int .i64 0, .int .i64 0, .int .i64 0]) ?_ 6 _ rfl; (with_reducible repeat (first | refine blk_drewN ?_ _ | refine blk_drew ?_ | refine blk_alloc ?_ _)); refine blk_put (cs := #[.int .i64 t928, .int .i64 t929, .int .i64 t930, .int .i64 t931, .int .i64 t932, .int .i64 0, .int .i64 0, .int .i64 0, .int .i64 0]) ?_ 5 _ rfl; (with_reducible repeat (first | refine blk_drewN ?_ _ | refine blk_drew ?_ | refine blk_alloc ?_ _)); refine blk_put (cs := #[.int .i64 t928, .int .i64 t929, .int .i64 t930, .int .i64 t931, .int .i64 0, .int .i64 0, .int .i64 0, .int .i64 0, .int .i64 0]) ?_ 4 _ rfl; (with_reducible repeat (first | refine blk_drewN ?_ _ | refine blk_drew ?_ | refine blk_alloc ?_ _)); refine blk_put (cs := #[.int .i64 t928, .int .i64 t929, .int .i64 t930, .int .i64 0, .int .i64 0, .int .i64 0, .int .i64 0, .int .i64 0, .int .i64 0]) ?_ 3 _ rfl; (with_reducible repeat (first | refine blk_drewN ?_ _ | refine blk_drew ?_ | refine blk_alloc ?_ _)); refine blk_put (cs := #[.int .i64 t928, .int .i64 t929, .int .i64 0, .int .i64 0, .int .i64 0, .int .i64 0, .int .i64 0, .int .i64 0, .int .i64 0]) ?_ 2 _ rfl; (with_reducible repeat (first | refine blk_drewN ?_ _ | refine blk_drew ?_ | refine blk_alloc ?_ _)); refine blk_put (cs := #[.int .i64 t928, .int .i64 0, .int .i64 0, .int .i64 0, .int .i64 0, .int .i64 0, .int .i64 0, .int .i64 0, .int .i64 0]) ?_ 1 _ rfl; (with_reducible repeat (first | refine blk_drewN ?_ _ | refine blk_drew ?_ | refine blk_alloc ?_ _)); refine blk_put (cs := #[.int .i64 0, .int .i64 0, .int .i64 0, .int .i64 0, .int .i64 0, .int .i64 0, .int .i64 0, .int .i64 0, .int .i64 0]) ?_ 0 _ rfl; (with_reducible repeat (first | refine blk_drewN ?_ _ | refine blk_drew ?_ | refine blk_alloc ?_ _)); exact BK938.out) hb); have n4_ := Aside0.mk (below_step (by repeat (first | (with_reducible first | exact HB.out | apply below_alloc | apply pw_below_drewN | apply below_drew1 | refine below_set ?_ GE916.out | refine below_set ?_ GE927.out | refine below_set ?_ GE938.out) | exact HB.out)) hb); clear BK916; clear BK927; clear BK938; clear HB; have HO941 := n0_; have BK916 := n1_; have BK927 := n2_; have BK938 := n3_; have HB := n4_; clear n0_ n1_ n2_ n3_ n4_; (try clear hb); (try clear hb2); (try clear hk); (try clear hi); (try clear ho0); have hcz27_0 : w26.cell? ⟨gb927, 0, none⟩ = some (.int .i64 t917) := (blk_cell BK927.out 0).trans rfl; have hcz27_1 : w26.cell? ⟨gb927, 1, none⟩ = some (.int .i64 t918) := (blk_cell BK927.out 1).trans rfl; have hcz27_2 : w26.cell? ⟨gb927, 2, none⟩ = some (.int .i64 t919) := (blk_cell BK927.out 2).trans rfl; have hcz27_3 : w26.cell? ⟨gb927, 3, none⟩ = some (.int .i64 t920) := (blk_cell BK927.out 3).trans rfl; have hcz27_4 : w26.cell? ⟨gb927, 4, none⟩ = some (.int .i64 t921) := (blk_cell BK927.out 4).trans rfl; have hcz27_5 : w26.cell? ⟨gb927, 5, none⟩ = some (.int .i64 t922) := (blk_cell BK927.out 5).trans rfl; have hcz27_6 : w26.cell? ⟨gb927, 6, none⟩ = some (.int .i64 t923) := (blk_cell BK927.out 6).trans rfl; have hcz27_7 : w26.cell? ⟨gb927, 7, none⟩ = some (.int .i64 t924) := (blk_cell BK927.out 7).trans rfl; have hcz27_8 : w26.cell? ⟨gb927, 8, none⟩ = some (.int .i64 t925) := (blk_cell BK927.out 8).trans rfl; have hfz27_0 := blk_frozen BK927.out 0; have hfz27_1 := blk_frozen BK927.out 1; have hfz27_2 := blk_frozen BK927.out 2; have hfz27_3 := blk_frozen BK927.out 3; have hfz27_4 := blk_frozen BK927.out 4; have hfz27_5 := blk_frozen BK927.out 5; have hfz27_6 := blk_frozen BK927.out 6; have hfz27_7 := blk_frozen BK927.out 7; have hfz27_8 := blk_frozen BK927.out 8) | (go_at_call 43; (with_reducible refine (impl_GapsOf.calls t917 t918 t919 t920 t921 t922 t923 t924 t925 t943 t946 _ A9.out).mono ?_); rintro e w28 ⟨v944, rfl, ho0, hb⟩; have n0_ := Aside0.mk (Kd.R_elder' (by (with_reducible repeat (first | apply Kd.R_alloc | apply Kd.R_drewN | apply Kd.R_drew)); exact HO941.out) (Kd.R_base ho0) hb); have n1_ := Aside0.mk (Kd.R_lower (Kd.R_new' ho0 (Kd.R_lt (by (with_reducible repeat (first | apply Kd.R_alloc | apply Kd.R_drewN | apply Kd.R_drew)); exact HO941.out))) (below_size (by repeat (first | (with_reducible first | exact HB.out | apply below_alloc | apply pw_below_drewN | apply below_drew1 | refine below_set ?_ GE916.out | refine below_set ?_ GE927.out | refine below_set ?_ GE938.out) | exact HB.out)))); have n2_ := Aside0.mk (blk_below (g := gb916) (o := .cells #[.int .i64 t907, .int .i64 t908, .int .i64 t909, .int .i64 t910, .int .i64 t911, .int .i64 t912, .int .i64 t913, .int .i64 t914, .int .i64 t915] 58 (0, 0)) (by (with_reducible repeat (first | refine blk_drewN ?_ _ | refine blk_drew ?_ | refine blk_alloc ?_ _)); exact BK916.out) hb); have n3_ := Aside0.mk (blk_below (g := gb927) (o := .cells #[.int .i64 t917, .int .i64 t918, .int .i64 t919, .int .i64 t920, .int .i64 t921, .int .i64 t922, .int .i64 t923, .int .i64 t924, .int .i64 t925] 58 (0, 0)) (by (with_reducible repeat (first | refine blk_drewN ?_ _ | refine blk_drew ?_ | refine blk_alloc ?_ _)); exact BK927.out) hb); have n4_ := Aside0.mk (blk_below (g := gb938) (o := .cells #[.int .i64 t928, .int .i64 t929, .int .i64 t930, .int .i64 t931, .int .i64 t932, .int .i64 t933, .int .i64 t934, .int .i64 t935, .int .i64 t936] 58 (0, 0)) (by (with_reducible repeat (first | refine blk_drewN ?_ _ | refine blk_drew ?_ | refine blk_alloc ?_ _)); exact BK938.out) hb); have n5_ := Aside0.mk (below_step (by repeat (first | (with_reducible first | exact HB.out | apply below_alloc | apply pw_below_drewN | apply below_drew1 | refine below_set ?_ GE916.out | refine below_set ?_ GE927.out | refine below_set ?_ GE938.out) | exact HB.out)) hb); clear HO941; clear BK916; clear BK927; clear BK938; clear HB; have HO941 := n0_; have HO945 := n1_; have BK916 := n2_; have BK927 := n3_; have BK938 := n4_; have HB := n5_; clear n0_ n1_ n2_ n3_ n4_ n5_; (try clear hb); (try clear hb2); (try clear hk); (try clear hi); (try clear ho0); have hcz29_0 : w28.cell? ⟨gb916, 0, none⟩ = some (.int .i64 t907) := (blk_cell BK916.out 0).trans rfl; have hcz29_1 : w28.cell? ⟨gb916, 1, none⟩ = some (.int .i64 t908) := (blk_cell BK916.out 1).trans rfl; have hcz29_2 : w28.cell? ⟨gb916, 2, none⟩ = some (.int .i64 t909) := (blk_cell BK916.out 2).trans rfl; have hcz29_3 : w28.cell? ⟨gb916, 3, none⟩ = some (.int .i64 t910) := (blk_cell BK916.out 3).trans rfl; have hcz29_4 : w28.cell? ⟨gb916, 4, none⟩ = some (.int .i64 t911) := (blk_cell BK916.out 4).trans rfl; have hcz29_5 : w28.cell? ⟨gb916, 5, none⟩ = some (.int .i64 t912) := (blk_cell BK916.out 5).trans rfl; have hcz29_6 : w28.cell? ⟨gb916, 6, none⟩ = some (.int .i64 t913) := (blk_cell BK916.out 6).trans rfl; have hcz29_7 : w28.cell? ⟨gb916, 7, none⟩ = some (.int .i64 t914) := (blk_cell BK916.out 7).trans rfl; have hcz29_8 : w28.cell? ⟨gb916, 8, none⟩ = some (.int .i64 t915) := (blk_cell BK916.out 8).trans rfl; have hfz29_0 := blk_frozen BK916.out 0; have hfz29_1 := blk_frozen BK916.out 1; have hfz29_2 := blk_frozen BK916.out 2; have hfz29_3 := blk_frozen BK916.out 3; have hfz29_4 := blk_frozen BK916.out 4; have hfz29_5 := blk_frozen BK916.out 5; have hfz29_6 := blk_frozen BK916.out 6; have hfz29_7 := blk_frozen BK916.out 7; have hfz29_8 := blk_frozen BK916.out 8) | (go_at_call 48; (with_reducible refine (impl_StrokesOf.calls t907 t908 t909 t910 t911 t912 t913 t914 t915 t947 t950 _ A10.out).mono ?_); rintro e w30 ⟨v948, rfl, ho0, hb⟩; have n0_ := Aside0.mk (Kd.R_elder' (by (with_reducible repeat (first | apply Kd.R_alloc | apply Kd.R_drewN | apply Kd.R_drew)); exact HO941.out) (Kd.R_base ho0) hb); have n1_ := Aside0.mk (Kd.R_elder' (by (with_reducible repeat (first | apply Kd.R_alloc | apply Kd.R_drewN | apply Kd.R_drew)); exact HO945.out) (Kd.R_base ho0) hb); have n2_ := Aside0.mk (Kd.R_lower (Kd.R_new' (Kd.R_new' ho0 (Kd.R_lt (by (with_reducible repeat (first | apply Kd.R_alloc | apply Kd.R_drewN | apply Kd.R_drew)); exact HO941.out))) (Kd.R_lt (by (with_reducible repeat (first | apply Kd.R_alloc | apply Kd.R_drewN | apply Kd.R_drew)); exact HO945.out))) (below_size (by repeat (first | (with_reducible first | exact HB.out | apply below_alloc | apply pw_below_drewN | apply below_drew1 | refine below_set ?_ GE916.out | refine below_set ?_ GE927.out | refine below_set ?_ GE938.out) | exact HB.out)))); have n3_ := Aside0.mk (blk_below (g := gb916) (o := .cells #[.int .i64 t907, .int .i64 t908, .int .i64 t909, .int .i64 t910, .int .i64 t911, .int .i64 t912, .int .i64 t913, .int .i64 t914, .int .i64 t915] 58 (0, 0)) (by (with_reducible repeat (first | refine blk_drewN ?_ _ | refine blk_drew ?_ | refine blk_alloc ?_ _)); exact BK916.out) hb); have n4_ := Aside0.mk (blk_below (g := gb927) (o := .cells #[.int .i64 t917, .int .i64 t918, .int .i64 t919, .int .i64 t920, .int .i64 t921, .int .i64 t922, .int .i64 t923, .int .i64 t924, .int .i64 t925] 58 (0, 0)) (by (with_reducible repeat (first | refine blk_drewN ?_ _ | refine blk_drew ?_ | refine blk_alloc ?_ _)); exact BK927.out) hb); have n5_ := Aside0.mk (blk_below (g := gb938) (o := .cells #[.int .i64 t928, .int .i64 t929, .int .i64 t930, .int .i64 t931, .int .i64 t932, .int .i64 t933, .int .i64 t934, .int .i64 t935, .int .i64 t936] 58 (0, 0)) (by (with_reducible repeat (first | refine blk_drewN ?_ _ | refine blk_drew ?_ | refine blk_alloc ?_ _)); exact BK938.out) hb); have n6_ := Aside0.mk (below_step (by repeat (first | (with_reducible first | exact HB.out | apply below_alloc | apply pw_below_drewN | apply below_drew1 | refine below_set ?_ GE916.out | refine below_set ?_ GE927.out | refine below_set ?_ GE938.out) | exact HB.out)) hb); clear HO941; clear HO945; clear BK916; clear BK927; clear BK938; clear HB; have HO941 := n0_; have HO945 := n1_; have HO949 := n2_; have BK916 := n3_; have BK927 := n4_; have BK938 := n5_; have HB := n6_; clear n0_ n1_ n2_ n3_ n4_ n5_ n6_; (try clear hb); (try clear hb2); (try clear hk); (try clear hi); (try clear ho0); have hcz31_0 : w30.cell? ⟨gb927, 0, none⟩ = some (.int .i64 t917) := (blk_cell BK927.out 0).trans rfl; have hcz31_1 : w30.cell? ⟨gb927, 1, none⟩ = some (.int .i64 t918) := (blk_cell BK927.out 1).trans rfl; have hcz31_2 : w30.cell? ⟨gb927, 2, none⟩ = some (.int .i64 t919) := (blk_cell BK927.out 2).trans rfl; have hcz31_3 : w30.cell? ⟨gb927, 3, none⟩ = some (.int .i64 t920) := (blk_cell BK927.out 3).trans rfl; have hcz31_4 : w30.cell? ⟨gb927, 4, none⟩ = some (.int .i64 t921) := (blk_cell BK927.out 4).trans rfl; have hcz31_5 : w30.cell? ⟨gb927, 5, none⟩ = some (.int .i64 t922) := (blk_cell BK927.out 5).trans rfl; have hcz31_6 : w30.cell? ⟨gb927, 6, none⟩ = some (.int .i64 t923) := (blk_cell BK927.out 6).trans rfl; have hcz31_7 : w30.cell? ⟨gb927, 7, none⟩ = some (.int .i64 t924) := (blk_cell BK927.out 7).trans rfl; have hcz31_8 : w30.cell? ⟨gb927, 8, none⟩ = some (.int .i64 t925) := (blk_cell BK927.out 8).trans rfl; have hfz31_0 := blk_frozen BK927.out 0; have hfz31_1 := blk_frozen BK927.out 1; have hfz31_2 := blk_frozen BK927.out 2; have hfz31_3 := blk_frozen BK927.out 3; have hfz31_4 := blk_frozen BK927.out 4; have hfz31_5 := blk_frozen BK927.out 5; have hfz31_6 := blk_frozen BK927.out 6; have hfz31_7 := blk_frozen BK927.out 7; have hfz31_8 := blk_frozen BK927.out 8) | (go_at_call 48; (with_reducible refine (impl_StrokesOf.calls t917 t918 t919 t920 t921 t922 t923 t924 t925 t951 t954 _ A11.out).mono ?_); rintro e w32 ⟨v952, rfl, ho0, hb⟩; have n0_ := Aside0.mk (Kd.R_elder' (by (with_reducible repeat (first | apply Kd.R_alloc | apply Kd.R_drewN | apply Kd.R_drew)); exact HO941.out) (Kd.R_base ho0) hb); have n1_ := Aside0.mk (Kd.R_elder' (by (with_reducible repeat (first | apply Kd.R_alloc | apply Kd.R_drewN | apply Kd.R_drew)); exact HO945.out) (Kd.R_base ho0) hb); have n2_ := Aside0.mk (Kd.R_elder' (by (with_reducible repeat (first | apply Kd.R_alloc | apply Kd.R_drewN | apply Kd.R_drew)); exact HO949.out) (Kd.R_base ho0) hb); have n3_ := Aside0.mk (Kd.R_lower (Kd.R_new' (Kd.R_new' (Kd.R_new' ho0 (Kd.R_lt (by (with_reducible repeat (first | apply Kd.R_alloc | apply Kd.R_drewN | apply Kd.R_drew)); exact HO941.out))) (Kd.R_lt (by (with_reducible repeat (first | apply Kd.R_alloc | apply Kd.R_drewN | apply Kd.R_drew)); exact HO945.out))) (Kd.R_lt (by (with_reducible repeat (first | apply Kd.R_alloc | apply Kd.R_drewN | apply Kd.R_drew)); exact HO949.out))) (below_size (by repeat (first | (with_reducible first | exact HB.out | apply below_alloc | apply pw_below_drewN | apply below_drew1 | refine below_set ?_ GE916.out | refine below_set ?_ GE927.out | refine below_set ?_ GE938.out) | exact HB.out)))); have n4_ := Aside0.mk (blk_below (g := gb916) (o := .cells #[.int .i64 t907, .int .i64 t908, .int .i64 t909, .int .i64 t910, .int .i64 t911, .int .i64 t912, .int .i64 t913, .int .i64 t914, .int .i64 t915] 58 (0, 0)) (by (with_reducible repeat (first | refine blk_drewN ?_ _ | refine blk_drew ?_ | refine blk_alloc ?_ _)); exact BK916.out) hb); have n5_ := Aside0.mk (blk_below (g := gb927) (o := .cells #[.int .i64 t917, .int .i64 t918, .int .i64 t919, .int .i64 t920, .int .i64 t921, .int .i64 t922, .int .i64 t923, .int .i64 t924, .int .i64 t925] 58 (0, 0)) (by (with_reducible repeat (first | refine blk_drewN ?_ _ | refine blk_drew ?_ | refine blk_alloc ?_ _)); exact BK927.out) hb); have n6_ := Aside0.mk (blk_below (g := gb938) (o := .cells #[.int .i64 t928, .int .i64 t929, .int .i64 t930, .int .i64 t931, .int .i64 t932, .int .i64 t933, .int .i64 t934, .int .i64 t935, .int .i64 t936] 58 (0, 0)) (by (with_reducible repeat (first | refine blk_drewN ?_ _ | refine blk_drew ?_ | refine blk_alloc ?_ _)); exact BK938.out) hb); have n7_ := Aside0.mk (below_step (by repeat (first | (with_reducible first | exact HB.out | apply below_alloc | apply pw_below_drewN | apply below_drew1 | refine below_set ?_ GE916.out | refine below_set ?_ GE927.out | refine below_set ?_ GE938.out) | exact HB.out)) hb); clear HO941; clear HO945; clear HO949; clear BK916; clear BK927; clear BK938; clear HB; have HO941 := n0_; have HO945 := n1_; have HO949 := n2_; have HO953 := n3_; have BK916 := n4_; have BK927 := n5_; have BK938 := n6_; have HB := n7_; clear n0_ n1_ n2_ n3_ n4_ n5_ n6_ n7_; (try clear hb); (try clear hb2); (try clear hk); (try clear hi); (try clear ho0))))
    (try simp only [Act.put, List.setIfInBounds_toArray, List.set_cons_zero, List.set_cons_succ])
    go_cut [101] (fun v101 wc => ∃ (kq : Nat) (x101_11 : Bool), v101 = .bool x101_11 ∧ Aside0 (laws_FnMirrored.j0 kq t939 t943 t947 t951 x101_11 = some r) ∧ Aside0 (kq ≤ k) ∧ Aside0 (Kd.R (Kd.int .i64) 2 wc w.heap.size (fun k_ => some k_ ≠ (v944 : Value).ownBlock ∧ some k_ ≠ (v948 : Value).ownBlock ∧ some k_ ≠ (v952 : Value).ownBlock) v940 t939) ∧ Aside0 (Kd.R (Kd.int .i64) 2 wc w.heap.size (fun k_ => some k_ ≠ (v940 : Value).ownBlock ∧ some k_ ≠ (v948 : Value).ownBlock ∧ some k_ ≠ (v952 : Value).ownBlock) v944 t943) ∧ Aside0 (Kd.R (Kd.int .i64) 2 wc w.heap.size (fun k_ => some k_ ≠ (v940 : Value).ownBlock ∧ some k_ ≠ (v944 : Value).ownBlock ∧ some k_ ≠ (v952 : Value).ownBlock) v948 t947) ∧ Aside0 (Kd.R (Kd.int .i64) 2 wc w.heap.size (fun k_ => some k_ ≠ (v940 : Value).ownBlock ∧ some k_ ≠ (v944 : Value).ownBlock ∧ some k_ ≠ (v948 : Value).ownBlock) v952 t951) ∧ Aside0 (wc.heap[gb916]? = some (.cells #[.int .i64 t907, .int .i64 t908, .int .i64 t909, .int .i64 t910, .int .i64 t911, .int .i64 t912, .int .i64 t913, .int .i64 t914, .int .i64 t915] 58 (0, 0))) ∧ Aside0 (wc.heap[gb927]? = some (.cells #[.int .i64 t917, .int .i64 t918, .int .i64 t919, .int .i64 t920, .int .i64 t921, .int .i64 t922, .int .i64 t923, .int .i64 t924, .int .i64 t925] 58 (0, 0))) ∧ Aside0 (wc.heap[gb938]? = some (.cells #[.int .i64 t928, .int .i64 t929, .int .i64 t930, .int .i64 t931, .int .i64 t932, .int .i64 t933, .int .i64 t934, .int .i64 t935, .int .i64 t936] 58 (0, 0))) ∧ Aside0 (Below w.heap.size w wc))
    case first =>
      have H := HC12.out
      clear HC12
      by_cases c33 : t926 = true
      · subst c33
        have H1 : (if t937 = true then (if t942 = true then (if t946 = true then (if t950 = true then (if t954 = true then (if ((!(t928 == t907) || (!(t929 == t908) || (!(t930 == t909) || (!(t931 == t910))))) || ((!(t932 == t911) || (!(t933 == t912) || (!(t934 == t913) || (!(t935 == t914))))) || (!(t936 == t915)))) = true then (laws_FnMirrored.j0 k t939 t943 t947 t951 true) else (if (t939.length : Int) = 4 then (if (t943.length : Int) = 4 then (if (t947.length : Int) = 4 then (laws_FnMirrored.j0 k t939 t943 t947 t951 ((t951.length : Int) != 4)) else (laws_FnMirrored.j0 k t939 t943 t947 t951 true)) else (laws_FnMirrored.j0 k t939 t943 t947 t951 true)) else (laws_FnMirrored.j0 k t939 t943 t947 t951 true))) else (laws_FnMirrored.j0 k t939 t943 t947 t951 true)) else (laws_FnMirrored.j0 k t939 t943 t947 t951 true)) else (laws_FnMirrored.j0 k t939 t943 t947 t951 true)) else (laws_FnMirrored.j0 k t939 t943 t947 t951 true)) else (laws_FnMirrored.j0 k t939 t943 t947 t951 true)) = some r := by rw [if_pos rfl] at H; exact H
        clear H
        have H := H1
        clear H1
        by_cases c34 : t937 = true
        · subst c34
          have H1 : (if t942 = true then (if t946 = true then (if t950 = true then (if t954 = true then (if ((!(t928 == t907) || (!(t929 == t908) || (!(t930 == t909) || (!(t931 == t910))))) || ((!(t932 == t911) || (!(t933 == t912) || (!(t934 == t913) || (!(t935 == t914))))) || (!(t936 == t915)))) = true then (laws_FnMirrored.j0 k t939 t943 t947 t951 true) else (if (t939.length : Int) = 4 then (if (t943.length : Int) = 4 then (if (t947.length : Int) = 4 then (laws_FnMirrored.j0 k t939 t943 t947 t951 ((t951.length : Int) != 4)) else (laws_FnMirrored.j0 k t939 t943 t947 t951 true)) else (laws_FnMirrored.j0 k t939 t943 t947 t951 true)) else (laws_FnMirrored.j0 k t939 t943 t947 t951 true))) else (laws_FnMirrored.j0 k t939 t943 t947 t951 true)) else (laws_FnMirrored.j0 k t939 t943 t947 t951 true)) else (laws_FnMirrored.j0 k t939 t943 t947 t951 true)) else (laws_FnMirrored.j0 k t939 t943 t947 t951 true)) = some r := by rw [if_pos rfl] at H; exact H
          clear H
          have H := H1
          clear H1
          by_cases c35 : t942 = true
          · subst c35
            have H1 : (if t946 = true then (if t950 = true then (if t954 = true then (if ((!(t928 == t907) || (!(t929 == t908) || (!(t930 == t909) || (!(t931 == t910))))) || ((!(t932 == t911) || (!(t933 == t912) || (!(t934 == t913) || (!(t935 == t914))))) || (!(t936 == t915)))) = true then (laws_FnMirrored.j0 k t939 t943 t947 t951 true) else (if (t939.length : Int) = 4 then (if (t943.length : Int) = 4 then (if (t947.length : Int) = 4 then (laws_FnMirrored.j0 k t939 t943 t947 t951 ((t951.length : Int) != 4)) else (laws_FnMirrored.j0 k t939 t943 t947 t951 true)) else (laws_FnMirrored.j0 k t939 t943 t947 t951 true)) else (laws_FnMirrored.j0 k t939 t943 t947 t951 true))) else (laws_FnMirrored.j0 k t939 t943 t947 t951 true)) else (laws_FnMirrored.j0 k t939 t943 t947 t951 true)) else (laws_FnMirrored.j0 k t939 t943 t947 t951 true)) = some r := by rw [if_pos rfl] at H; exact H
            clear H
            have H := H1
            clear H1
            by_cases c36 : t946 = true
            · subst c36
              have H1 : (if t950 = true then (if t954 = true then (if ((!(t928 == t907) || (!(t929 == t908) || (!(t930 == t909) || (!(t931 == t910))))) || ((!(t932 == t911) || (!(t933 == t912) || (!(t934 == t913) || (!(t935 == t914))))) || (!(t936 == t915)))) = true then (laws_FnMirrored.j0 k t939 t943 t947 t951 true) else (if (t939.length : Int) = 4 then (if (t943.length : Int) = 4 then (if (t947.length : Int) = 4 then (laws_FnMirrored.j0 k t939 t943 t947 t951 ((t951.length : Int) != 4)) else (laws_FnMirrored.j0 k t939 t943 t947 t951 true)) else (laws_FnMirrored.j0 k t939 t943 t947 t951 true)) else (laws_FnMirrored.j0 k t939 t943 t947 t951 true))) else (laws_FnMirrored.j0 k t939 t943 t947 t951 true)) else (laws_FnMirrored.j0 k t939 t943 t947 t951 true)) = some r := by rw [if_pos rfl] at H; exact H
              clear H
              have H := H1
              clear H1
              by_cases c37 : t950 = true
              · subst c37
                have H1 : (if t954 = true then (if ((!(t928 == t907) || (!(t929 == t908) || (!(t930 == t909) || (!(t931 == t910))))) || ((!(t932 == t911) || (!(t933 == t912) || (!(t934 == t913) || (!(t935 == t914))))) || (!(t936 == t915)))) = true then (laws_FnMirrored.j0 k t939 t943 t947 t951 true) else (if (t939.length : Int) = 4 then (if (t943.length : Int) = 4 then (if (t947.length : Int) = 4 then (laws_FnMirrored.j0 k t939 t943 t947 t951 ((t951.length : Int) != 4)) else (laws_FnMirrored.j0 k t939 t943 t947 t951 true)) else (laws_FnMirrored.j0 k t939 t943 t947 t951 true)) else (laws_FnMirrored.j0 k t939 t943 t947 t951 true))) else (laws_FnMirrored.j0 k t939 t943 t947 t951 true)) = some r := by rw [if_pos rfl] at H; exact H
                clear H
                have H := H1
                clear H1
                by_cases c38 : t954 = true
                · subst c38
                  have H1 : (if ((!(t928 == t907) || (!(t929 == t908) || (!(t930 == t909) || (!(t931 == t910))))) || ((!(t932 == t911) || (!(t933 == t912) || (!(t934 == t913) || (!(t935 == t914))))) || (!(t936 == t915)))) = true then (laws_FnMirrored.j0 k t939 t943 t947 t951 true) else (if (t939.length : Int) = 4 then (if (t943.length : Int) = 4 then (if (t947.length : Int) = 4 then (laws_FnMirrored.j0 k t939 t943 t947 t951 ((t951.length : Int) != 4)) else (laws_FnMirrored.j0 k t939 t943 t947 t951 true)) else (laws_FnMirrored.j0 k t939 t943 t947 t951 true)) else (laws_FnMirrored.j0 k t939 t943 t947 t951 true))) = some r := by rw [if_pos rfl] at H; exact H
                  clear H
                  have H := H1
                  clear H1
                  by_cases c39 : ((!(t928 == t907) || (!(t929 == t908) || (!(t930 == t909) || (!(t931 == t910))))) || ((!(t932 == t911) || (!(t933 == t912) || (!(t934 == t913) || (!(t935 == t914))))) || (!(t936 == t915)))) = true
                  · rw [if_pos c39] at H
                    have c39b0 : ((!(t928 == t907) || (!(t929 == t908) || (!(t930 == t909) || (!(t931 == t910))))) || ((!(t932 == t911) || (!(t933 == t912) || (!(t934 == t913) || (!(t935 == t914))))) || (!(t936 == t915)))) = true := c39
                    clear c39
                    (first | rw [c39b0] | (simp only [i64_w, i32_w]; rw [c39b0]) | skip)
                    have H' := Aside0.mk H
                    clear H
                    have hnb40 := NB938_916.out
                    have hnc40 := NB916_938.out
                    have hnb41 := NB938_927.out
                    have hnc41 := NB927_938.out
                    have hcz42_0 : w32.cell? ⟨gb938, 0, none⟩ = some (.int .i64 t928) := (blk_cell BK938.out 0).trans rfl
                    have hcz42_1 : w32.cell? ⟨gb938, 1, none⟩ = some (.int .i64 t929) := (blk_cell BK938.out 1).trans rfl
                    have hcz42_2 : w32.cell? ⟨gb938, 2, none⟩ = some (.int .i64 t930) := (blk_cell BK938.out 2).trans rfl
                    have hcz42_3 : w32.cell? ⟨gb938, 3, none⟩ = some (.int .i64 t931) := (blk_cell BK938.out 3).trans rfl
                    have hcz42_4 : w32.cell? ⟨gb938, 4, none⟩ = some (.int .i64 t932) := (blk_cell BK938.out 4).trans rfl
                    have hcz42_5 : w32.cell? ⟨gb938, 5, none⟩ = some (.int .i64 t933) := (blk_cell BK938.out 5).trans rfl
                    have hcz42_6 : w32.cell? ⟨gb938, 6, none⟩ = some (.int .i64 t934) := (blk_cell BK938.out 6).trans rfl
                    have hcz42_7 : w32.cell? ⟨gb938, 7, none⟩ = some (.int .i64 t935) := (blk_cell BK938.out 7).trans rfl
                    have hcz42_8 : w32.cell? ⟨gb938, 8, none⟩ = some (.int .i64 t936) := (blk_cell BK938.out 8).trans rfl
                    have hfz42_0 := blk_frozen BK938.out 0
                    have hfz42_1 := blk_frozen BK938.out 1
                    have hfz42_2 := blk_frozen BK938.out 2
                    have hfz42_3 := blk_frozen BK938.out 3
                    have hfz42_4 := blk_frozen BK938.out 4
                    have hfz42_5 := blk_frozen BK938.out 5
                    have hfz42_6 := blk_frozen BK938.out 6
                    have hfz42_7 := blk_frozen BK938.out 7
                    have hfz42_8 := blk_frozen BK938.out 8
                    have hnb43 := NB916_927.out
                    have hnc43 := NB927_916.out
                    have hcz44_0 : w32.cell? ⟨gb916, 0, none⟩ = some (.int .i64 t907) := (blk_cell BK916.out 0).trans rfl
                    have hcz44_1 : w32.cell? ⟨gb916, 1, none⟩ = some (.int .i64 t908) := (blk_cell BK916.out 1).trans rfl
                    have hcz44_2 : w32.cell? ⟨gb916, 2, none⟩ = some (.int .i64 t909) := (blk_cell BK916.out 2).trans rfl
                    have hcz44_3 : w32.cell? ⟨gb916, 3, none⟩ = some (.int .i64 t910) := (blk_cell BK916.out 3).trans rfl
                    have hcz44_4 : w32.cell? ⟨gb916, 4, none⟩ = some (.int .i64 t911) := (blk_cell BK916.out 4).trans rfl
                    have hcz44_5 : w32.cell? ⟨gb916, 5, none⟩ = some (.int .i64 t912) := (blk_cell BK916.out 5).trans rfl
                    have hcz44_6 : w32.cell? ⟨gb916, 6, none⟩ = some (.int .i64 t913) := (blk_cell BK916.out 6).trans rfl
                    have hcz44_7 : w32.cell? ⟨gb916, 7, none⟩ = some (.int .i64 t914) := (blk_cell BK916.out 7).trans rfl
                    have hcz44_8 : w32.cell? ⟨gb916, 8, none⟩ = some (.int .i64 t915) := (blk_cell BK916.out 8).trans rfl
                    have hfz44_0 := blk_frozen BK916.out 0
                    have hfz44_1 := blk_frozen BK916.out 1
                    have hfz44_2 := blk_frozen BK916.out 2
                    have hfz44_3 := blk_frozen BK916.out 3
                    have hfz44_4 := blk_frozen BK916.out 4
                    have hfz44_5 := blk_frozen BK916.out 5
                    have hfz44_6 := blk_frozen BK916.out 6
                    have hfz44_7 := blk_frozen BK916.out 7
                    have hfz44_8 := blk_frozen BK916.out 8
                    go_wp2
                    repeat (go_quiet (fail); try go_wp2)
                    go_meet
                    case rel => exact ⟨_, (true), (by first | rfl | (simp; done) | (simp [*]; done)), H', ⟨by first | omega | exact Nat.le_refl _⟩, ⟨by (with_reducible repeat (first | apply Kd.R_alloc | apply Kd.R_drewN | apply Kd.R_drew)); exact Kd.R_mono HO941.out (fun _ hk => ⟨hk.1.1.2, ⟨hk.1.2, hk.2⟩⟩)⟩, ⟨by (with_reducible repeat (first | apply Kd.R_alloc | apply Kd.R_drewN | apply Kd.R_drew)); exact Kd.R_mono HO945.out (fun _ hk => ⟨hk.1.1.2, ⟨hk.1.2, hk.2⟩⟩)⟩, ⟨by (with_reducible repeat (first | apply Kd.R_alloc | apply Kd.R_drewN | apply Kd.R_drew)); exact Kd.R_mono HO949.out (fun _ hk => ⟨hk.1.1.2, ⟨hk.1.2, hk.2⟩⟩)⟩, ⟨by (with_reducible repeat (first | apply Kd.R_alloc | apply Kd.R_drewN | apply Kd.R_drew)); exact Kd.R_mono HO953.out (fun _ hk => ⟨hk.1.1.2, ⟨hk.1.2, hk.2⟩⟩)⟩, ⟨by (with_reducible repeat (first | refine blk_drewN ?_ _ | refine blk_drew ?_ | refine blk_alloc ?_ _)); exact BK916.out⟩, ⟨by (with_reducible repeat (first | refine blk_drewN ?_ _ | refine blk_drew ?_ | refine blk_alloc ?_ _)); exact BK927.out⟩, ⟨by (with_reducible repeat (first | refine blk_drewN ?_ _ | refine blk_drew ?_ | refine blk_alloc ?_ _)); exact BK938.out⟩, ⟨by repeat (first | (with_reducible first | exact HB.out | apply below_alloc | apply pw_below_drewN | apply below_drew1 | refine below_set ?_ GE916.out | refine below_set ?_ GE927.out | refine below_set ?_ GE938.out) | exact HB.out)⟩⟩
                  · rw [if_neg c39] at H
                    have c39b0 : ((!(t928 == t907) || (!(t929 == t908) || (!(t930 == t909) || (!(t931 == t910))))) || ((!(t932 == t911) || (!(t933 == t912) || (!(t934 == t913) || (!(t935 == t914))))) || (!(t936 == t915)))) = false := by simpa using c39
                    clear c39
                    (first | rw [c39b0] | (simp only [i64_w, i32_w]; rw [c39b0]) | skip)
                    by_cases c45 : (t939.length : Int) = 4
                    · rw [if_pos c45] at H
                      have c45b0 : ((t939.length : Int) == 4) = true := beq_iff_eq.mpr c45
                      have c45b1 : ((t939.length : Int) != 4) = false := bne_eq_false_iff_eq.mpr c45
                      clear c45
                      by_cases c46 : (t943.length : Int) = 4
                      · rw [if_pos c46] at H
                        have c46b0 : ((t943.length : Int) == 4) = true := beq_iff_eq.mpr c46
                        have c46b1 : ((t943.length : Int) != 4) = false := bne_eq_false_iff_eq.mpr c46
                        clear c46
                        by_cases c47 : (t947.length : Int) = 4
                        · rw [if_pos c47] at H
                          have c47b0 : ((t947.length : Int) == 4) = true := beq_iff_eq.mpr c47
                          have c47b1 : ((t947.length : Int) != 4) = false := bne_eq_false_iff_eq.mpr c47
                          clear c47
                          have H' := Aside0.mk H
                          clear H
                          have hnb48 := NB938_916.out
                          have hnc48 := NB916_938.out
                          have hnb49 := NB938_927.out
                          have hnc49 := NB927_938.out
                          have hcz50_0 : w32.cell? ⟨gb938, 0, none⟩ = some (.int .i64 t928) := (blk_cell BK938.out 0).trans rfl
                          have hcz50_1 : w32.cell? ⟨gb938, 1, none⟩ = some (.int .i64 t929) := (blk_cell BK938.out 1).trans rfl
                          have hcz50_2 : w32.cell? ⟨gb938, 2, none⟩ = some (.int .i64 t930) := (blk_cell BK938.out 2).trans rfl
                          have hcz50_3 : w32.cell? ⟨gb938, 3, none⟩ = some (.int .i64 t931) := (blk_cell BK938.out 3).trans rfl
                          have hcz50_4 : w32.cell? ⟨gb938, 4, none⟩ = some (.int .i64 t932) := (blk_cell BK938.out 4).trans rfl
                          have hcz50_5 : w32.cell? ⟨gb938, 5, none⟩ = some (.int .i64 t933) := (blk_cell BK938.out 5).trans rfl
                          have hcz50_6 : w32.cell? ⟨gb938, 6, none⟩ = some (.int .i64 t934) := (blk_cell BK938.out 6).trans rfl
                          have hcz50_7 : w32.cell? ⟨gb938, 7, none⟩ = some (.int .i64 t935) := (blk_cell BK938.out 7).trans rfl
                          have hcz50_8 : w32.cell? ⟨gb938, 8, none⟩ = some (.int .i64 t936) := (blk_cell BK938.out 8).trans rfl
                          have hfz50_0 := blk_frozen BK938.out 0
                          have hfz50_1 := blk_frozen BK938.out 1
                          have hfz50_2 := blk_frozen BK938.out 2
                          have hfz50_3 := blk_frozen BK938.out 3
                          have hfz50_4 := blk_frozen BK938.out 4
                          have hfz50_5 := blk_frozen BK938.out 5
                          have hfz50_6 := blk_frozen BK938.out 6
                          have hfz50_7 := blk_frozen BK938.out 7
                          have hfz50_8 := blk_frozen BK938.out 8
                          have hnb51 := NB916_927.out
                          have hnc51 := NB927_916.out
                          have hcz52_0 : w32.cell? ⟨gb916, 0, none⟩ = some (.int .i64 t907) := (blk_cell BK916.out 0).trans rfl
                          have hcz52_1 : w32.cell? ⟨gb916, 1, none⟩ = some (.int .i64 t908) := (blk_cell BK916.out 1).trans rfl
                          have hcz52_2 : w32.cell? ⟨gb916, 2, none⟩ = some (.int .i64 t909) := (blk_cell BK916.out 2).trans rfl
                          have hcz52_3 : w32.cell? ⟨gb916, 3, none⟩ = some (.int .i64 t910) := (blk_cell BK916.out 3).trans rfl
                          have hcz52_4 : w32.cell? ⟨gb916, 4, none⟩ = some (.int .i64 t911) := (blk_cell BK916.out 4).trans rfl
                          have hcz52_5 : w32.cell? ⟨gb916, 5, none⟩ = some (.int .i64 t912) := (blk_cell BK916.out 5).trans rfl
                          have hcz52_6 : w32.cell? ⟨gb916, 6, none⟩ = some (.int .i64 t913) := (blk_cell BK916.out 6).trans rfl
                          have hcz52_7 : w32.cell? ⟨gb916, 7, none⟩ = some (.int .i64 t914) := (blk_cell BK916.out 7).trans rfl
                          have hcz52_8 : w32.cell? ⟨gb916, 8, none⟩ = some (.int .i64 t915) := (blk_cell BK916.out 8).trans rfl
                          have hfz52_0 := blk_frozen BK916.out 0
                          have hfz52_1 := blk_frozen BK916.out 1
                          have hfz52_2 := blk_frozen BK916.out 2
                          have hfz52_3 := blk_frozen BK916.out 3
                          have hfz52_4 := blk_frozen BK916.out 4
                          have hfz52_5 := blk_frozen BK916.out 5
                          have hfz52_6 := blk_frozen BK916.out 6
                          have hfz52_7 := blk_frozen BK916.out 7
                          have hfz52_8 := blk_frozen BK916.out 8
                          obtain ⟨Ao53, co53, eo53⟩ := Kd.R_slice HO941.out
                          subst eo53
                          obtain ⟨Ao54, co54, eo54⟩ := Kd.R_slice HO945.out
                          subst eo54
                          obtain ⟨Ao55, co55, eo55⟩ := Kd.R_slice HO949.out
                          subst eo55
                          obtain ⟨Ao56, co56, eo56⟩ := Kd.R_slice HO953.out
                          subst eo56
                          go_wp2
                          repeat (go_quiet (fail); try go_wp2)
                          go_meet
                          case rel => exact ⟨_, (((t951.length : Int) != 4)), (by first | rfl | (simp; done) | (simp [*]; done)), H', ⟨by first | omega | exact Nat.le_refl _⟩, ⟨by (with_reducible repeat (first | apply Kd.R_alloc | apply Kd.R_drewN | apply Kd.R_drew)); exact Kd.R_mono HO941.out (fun _ hk => ⟨hk.1.1.2, ⟨hk.1.2, hk.2⟩⟩)⟩, ⟨by (with_reducible repeat (first | apply Kd.R_alloc | apply Kd.R_drewN | apply Kd.R_drew)); exact Kd.R_mono HO945.out (fun _ hk => ⟨hk.1.1.2, ⟨hk.1.2, hk.2⟩⟩)⟩, ⟨by (with_reducible repeat (first | apply Kd.R_alloc | apply Kd.R_drewN | apply Kd.R_drew)); exact Kd.R_mono HO949.out (fun _ hk => ⟨hk.1.1.2, ⟨hk.1.2, hk.2⟩⟩)⟩, ⟨by (with_reducible repeat (first | apply Kd.R_alloc | apply Kd.R_drewN | apply Kd.R_drew)); exact Kd.R_mono HO953.out (fun _ hk => ⟨hk.1.1.2, ⟨hk.1.2, hk.2⟩⟩)⟩, ⟨by (with_reducible repeat (first | refine blk_drewN ?_ _ | refine blk_drew ?_ | refine blk_alloc ?_ _)); exact BK916.out⟩, ⟨by (with_reducible repeat (first | refine blk_drewN ?_ _ | refine blk_drew ?_ | refine blk_alloc ?_ _)); exact BK927.out⟩, ⟨by (with_reducible repeat (first | refine blk_drewN ?_ _ | refine blk_drew ?_ | refine blk_alloc ?_ _)); exact BK938.out⟩, ⟨by repeat (first | (with_reducible first | exact HB.out | apply below_alloc | apply pw_below_drewN | apply below_drew1 | refine below_set ?_ GE916.out | refine below_set ?_ GE927.out | refine below_set ?_ GE938.out) | exact HB.out)⟩⟩
                        · rw [if_neg c47] at H
                          have c47b0 : ((t947.length : Int) == 4) = false := beq_eq_false_iff_ne.mpr c47
                          have c47b1 : ((t947.length : Int) != 4) = true := bne_iff_ne.mpr c47
                          have H' := Aside0.mk H
                          clear H
                          have hnb57 := NB938_916.out
                          have hnc57 := NB916_938.out
                          have hnb58 := NB938_927.out
                          have hnc58 := NB927_938.out
                          have hcz59_0 : w32.cell? ⟨gb938, 0, none⟩ = some (.int .i64 t928) := (blk_cell BK938.out 0).trans rfl
                          have hcz59_1 : w32.cell? ⟨gb938, 1, none⟩ = some (.int .i64 t929) := (blk_cell BK938.out 1).trans rfl
                          have hcz59_2 : w32.cell? ⟨gb938, 2, none⟩ = some (.int .i64 t930) := (blk_cell BK938.out 2).trans rfl
                          have hcz59_3 : w32.cell? ⟨gb938, 3, none⟩ = some (.int .i64 t931) := (blk_cell BK938.out 3).trans rfl
                          have hcz59_4 : w32.cell? ⟨gb938, 4, none⟩ = some (.int .i64 t932) := (blk_cell BK938.out 4).trans rfl
                          have hcz59_5 : w32.cell? ⟨gb938, 5, none⟩ = some (.int .i64 t933) := (blk_cell BK938.out 5).trans rfl
                          have hcz59_6 : w32.cell? ⟨gb938, 6, none⟩ = some (.int .i64 t934) := (blk_cell BK938.out 6).trans rfl
                          have hcz59_7 : w32.cell? ⟨gb938, 7, none⟩ = some (.int .i64 t935) := (blk_cell BK938.out 7).trans rfl
                          have hcz59_8 : w32.cell? ⟨gb938, 8, none⟩ = some (.int .i64 t936) := (blk_cell BK938.out 8).trans rfl
                          have hfz59_0 := blk_frozen BK938.out 0
                          have hfz59_1 := blk_frozen BK938.out 1
                          have hfz59_2 := blk_frozen BK938.out 2
                          have hfz59_3 := blk_frozen BK938.out 3
                          have hfz59_4 := blk_frozen BK938.out 4
                          have hfz59_5 := blk_frozen BK938.out 5
                          have hfz59_6 := blk_frozen BK938.out 6
                          have hfz59_7 := blk_frozen BK938.out 7
                          have hfz59_8 := blk_frozen BK938.out 8
                          have hnb60 := NB916_927.out
                          have hnc60 := NB927_916.out
                          have hcz61_0 : w32.cell? ⟨gb916, 0, none⟩ = some (.int .i64 t907) := (blk_cell BK916.out 0).trans rfl
                          have hcz61_1 : w32.cell? ⟨gb916, 1, none⟩ = some (.int .i64 t908) := (blk_cell BK916.out 1).trans rfl
                          have hcz61_2 : w32.cell? ⟨gb916, 2, none⟩ = some (.int .i64 t909) := (blk_cell BK916.out 2).trans rfl
                          have hcz61_3 : w32.cell? ⟨gb916, 3, none⟩ = some (.int .i64 t910) := (blk_cell BK916.out 3).trans rfl
                          have hcz61_4 : w32.cell? ⟨gb916, 4, none⟩ = some (.int .i64 t911) := (blk_cell BK916.out 4).trans rfl
                          have hcz61_5 : w32.cell? ⟨gb916, 5, none⟩ = some (.int .i64 t912) := (blk_cell BK916.out 5).trans rfl
                          have hcz61_6 : w32.cell? ⟨gb916, 6, none⟩ = some (.int .i64 t913) := (blk_cell BK916.out 6).trans rfl
                          have hcz61_7 : w32.cell? ⟨gb916, 7, none⟩ = some (.int .i64 t914) := (blk_cell BK916.out 7).trans rfl
                          have hcz61_8 : w32.cell? ⟨gb916, 8, none⟩ = some (.int .i64 t915) := (blk_cell BK916.out 8).trans rfl
                          have hfz61_0 := blk_frozen BK916.out 0
                          have hfz61_1 := blk_frozen BK916.out 1
                          have hfz61_2 := blk_frozen BK916.out 2
                          have hfz61_3 := blk_frozen BK916.out 3
                          have hfz61_4 := blk_frozen BK916.out 4
                          have hfz61_5 := blk_frozen BK916.out 5
                          have hfz61_6 := blk_frozen BK916.out 6
                          have hfz61_7 := blk_frozen BK916.out 7
                          have hfz61_8 := blk_frozen BK916.out 8
                          obtain ⟨Ao62, co62, eo62⟩ := Kd.R_slice HO941.out
                          subst eo62
                          obtain ⟨Ao63, co63, eo63⟩ := Kd.R_slice HO945.out
                          subst eo63
                          obtain ⟨Ao64, co64, eo64⟩ := Kd.R_slice HO949.out
                          subst eo64
                          go_wp2
                          repeat (go_quiet (fail); try go_wp2)
                          go_meet
                          case rel => exact ⟨_, (true), (by first | rfl | (simp; done) | (simp [*]; done)), H', ⟨by first | omega | exact Nat.le_refl _⟩, ⟨by (with_reducible repeat (first | apply Kd.R_alloc | apply Kd.R_drewN | apply Kd.R_drew)); exact Kd.R_mono HO941.out (fun _ hk => ⟨hk.1.1.2, ⟨hk.1.2, hk.2⟩⟩)⟩, ⟨by (with_reducible repeat (first | apply Kd.R_alloc | apply Kd.R_drewN | apply Kd.R_drew)); exact Kd.R_mono HO945.out (fun _ hk => ⟨hk.1.1.2, ⟨hk.1.2, hk.2⟩⟩)⟩, ⟨by (with_reducible repeat (first | apply Kd.R_alloc | apply Kd.R_drewN | apply Kd.R_drew)); exact Kd.R_mono HO949.out (fun _ hk => ⟨hk.1.1.2, ⟨hk.1.2, hk.2⟩⟩)⟩, ⟨by (with_reducible repeat (first | apply Kd.R_alloc | apply Kd.R_drewN | apply Kd.R_drew)); exact Kd.R_mono HO953.out (fun _ hk => ⟨hk.1.1.2, ⟨hk.1.2, hk.2⟩⟩)⟩, ⟨by (with_reducible repeat (first | refine blk_drewN ?_ _ | refine blk_drew ?_ | refine blk_alloc ?_ _)); exact BK916.out⟩, ⟨by (with_reducible repeat (first | refine blk_drewN ?_ _ | refine blk_drew ?_ | refine blk_alloc ?_ _)); exact BK927.out⟩, ⟨by (with_reducible repeat (first | refine blk_drewN ?_ _ | refine blk_drew ?_ | refine blk_alloc ?_ _)); exact BK938.out⟩, ⟨by repeat (first | (with_reducible first | exact HB.out | apply below_alloc | apply pw_below_drewN | apply below_drew1 | refine below_set ?_ GE916.out | refine below_set ?_ GE927.out | refine below_set ?_ GE938.out) | exact HB.out)⟩⟩
                      · rw [if_neg c46] at H
                        have c46b0 : ((t943.length : Int) == 4) = false := beq_eq_false_iff_ne.mpr c46
                        have c46b1 : ((t943.length : Int) != 4) = true := bne_iff_ne.mpr c46
                        have H' := Aside0.mk H
                        clear H
                        have hnb65 := NB938_916.out
                        have hnc65 := NB916_938.out
                        have hnb66 := NB938_927.out
                        have hnc66 := NB927_938.out
                        have hcz67_0 : w32.cell? ⟨gb938, 0, none⟩ = some (.int .i64 t928) := (blk_cell BK938.out 0).trans rfl
                        have hcz67_1 : w32.cell? ⟨gb938, 1, none⟩ = some (.int .i64 t929) := (blk_cell BK938.out 1).trans rfl
                        have hcz67_2 : w32.cell? ⟨gb938, 2, none⟩ = some (.int .i64 t930) := (blk_cell BK938.out 2).trans rfl
                        have hcz67_3 : w32.cell? ⟨gb938, 3, none⟩ = some (.int .i64 t931) := (blk_cell BK938.out 3).trans rfl
                        have hcz67_4 : w32.cell? ⟨gb938, 4, none⟩ = some (.int .i64 t932) := (blk_cell BK938.out 4).trans rfl
                        have hcz67_5 : w32.cell? ⟨gb938, 5, none⟩ = some (.int .i64 t933) := (blk_cell BK938.out 5).trans rfl
                        have hcz67_6 : w32.cell? ⟨gb938, 6, none⟩ = some (.int .i64 t934) := (blk_cell BK938.out 6).trans rfl
                        have hcz67_7 : w32.cell? ⟨gb938, 7, none⟩ = some (.int .i64 t935) := (blk_cell BK938.out 7).trans rfl
                        have hcz67_8 : w32.cell? ⟨gb938, 8, none⟩ = some (.int .i64 t936) := (blk_cell BK938.out 8).trans rfl
                        have hfz67_0 := blk_frozen BK938.out 0
                        have hfz67_1 := blk_frozen BK938.out 1
                        have hfz67_2 := blk_frozen BK938.out 2
                        have hfz67_3 := blk_frozen BK938.out 3
                        have hfz67_4 := blk_frozen BK938.out 4
                        have hfz67_5 := blk_frozen BK938.out 5
                        have hfz67_6 := blk_frozen BK938.out 6
                        have hfz67_7 := blk_frozen BK938.out 7
                        have hfz67_8 := blk_frozen BK938.out 8
                        have hnb68 := NB916_927.out
                        have hnc68 := NB927_916.out
                        have hcz69_0 : w32.cell? ⟨gb916, 0, none⟩ = some (.int .i64 t907) := (blk_cell BK916.out 0).trans rfl
                        have hcz69_1 : w32.cell? ⟨gb916, 1, none⟩ = some (.int .i64 t908) := (blk_cell BK916.out 1).trans rfl
                        have hcz69_2 : w32.cell? ⟨gb916, 2, none⟩ = some (.int .i64 t909) := (blk_cell BK916.out 2).trans rfl
                        have hcz69_3 : w32.cell? ⟨gb916, 3, none⟩ = some (.int .i64 t910) := (blk_cell BK916.out 3).trans rfl
                        have hcz69_4 : w32.cell? ⟨gb916, 4, none⟩ = some (.int .i64 t911) := (blk_cell BK916.out 4).trans rfl
                        have hcz69_5 : w32.cell? ⟨gb916, 5, none⟩ = some (.int .i64 t912) := (blk_cell BK916.out 5).trans rfl
                        have hcz69_6 : w32.cell? ⟨gb916, 6, none⟩ = some (.int .i64 t913) := (blk_cell BK916.out 6).trans rfl
                        have hcz69_7 : w32.cell? ⟨gb916, 7, none⟩ = some (.int .i64 t914) := (blk_cell BK916.out 7).trans rfl
                        have hcz69_8 : w32.cell? ⟨gb916, 8, none⟩ = some (.int .i64 t915) := (blk_cell BK916.out 8).trans rfl
                        have hfz69_0 := blk_frozen BK916.out 0
                        have hfz69_1 := blk_frozen BK916.out 1
                        have hfz69_2 := blk_frozen BK916.out 2
                        have hfz69_3 := blk_frozen BK916.out 3
                        have hfz69_4 := blk_frozen BK916.out 4
                        have hfz69_5 := blk_frozen BK916.out 5
                        have hfz69_6 := blk_frozen BK916.out 6
                        have hfz69_7 := blk_frozen BK916.out 7
                        have hfz69_8 := blk_frozen BK916.out 8
                        obtain ⟨Ao70, co70, eo70⟩ := Kd.R_slice HO941.out
                        subst eo70
                        obtain ⟨Ao71, co71, eo71⟩ := Kd.R_slice HO945.out
                        subst eo71
                        go_wp2
                        repeat (go_quiet (fail); try go_wp2)
                        go_meet
                        case rel => exact ⟨_, (true), (by first | rfl | (simp; done) | (simp [*]; done)), H', ⟨by first | omega | exact Nat.le_refl _⟩, ⟨by (with_reducible repeat (first | apply Kd.R_alloc | apply Kd.R_drewN | apply Kd.R_drew)); exact Kd.R_mono HO941.out (fun _ hk => ⟨hk.1.1.2, ⟨hk.1.2, hk.2⟩⟩)⟩, ⟨by (with_reducible repeat (first | apply Kd.R_alloc | apply Kd.R_drewN | apply Kd.R_drew)); exact Kd.R_mono HO945.out (fun _ hk => ⟨hk.1.1.2, ⟨hk.1.2, hk.2⟩⟩)⟩, ⟨by (with_reducible repeat (first | apply Kd.R_alloc | apply Kd.R_drewN | apply Kd.R_drew)); exact Kd.R_mono HO949.out (fun _ hk => ⟨hk.1.1.2, ⟨hk.1.2, hk.2⟩⟩)⟩, ⟨by (with_reducible repeat (first | apply Kd.R_alloc | apply Kd.R_drewN | apply Kd.R_drew)); exact Kd.R_mono HO953.out (fun _ hk => ⟨hk.1.1.2, ⟨hk.1.2, hk.2⟩⟩)⟩, ⟨by (with_reducible repeat (first | refine blk_drewN ?_ _ | refine blk_drew ?_ | refine blk_alloc ?_ _)); exact BK916.out⟩, ⟨by (with_reducible repeat (first | refine blk_drewN ?_ _ | refine blk_drew ?_ | refine blk_alloc ?_ _)); exact BK927.out⟩, ⟨by (with_reducible repeat (first | refine blk_drewN ?_ _ | refine blk_drew ?_ | refine blk_alloc ?_ _)); exact BK938.out⟩, ⟨by repeat (first | (with_reducible first | exact HB.out | apply below_alloc | apply pw_below_drewN | apply below_drew1 | refine below_set ?_ GE916.out | refine below_set ?_ GE927.out | refine below_set ?_ GE938.out) | exact HB.out)⟩⟩
                    · rw [if_neg c45] at H
                      have c45b0 : ((t939.length : Int) == 4) = false := beq_eq_false_iff_ne.mpr c45
                      have c45b1 : ((t939.length : Int) != 4) = true := bne_iff_ne.mpr c45
                      have H' := Aside0.mk H
                      clear H
                      have hnb72 := NB938_916.out
                      have hnc72 := NB916_938.out
                      have hnb73 := NB938_927.out
                      have hnc73 := NB927_938.out
                      have hcz74_0 : w32.cell? ⟨gb938, 0, none⟩ = some (.int .i64 t928) := (blk_cell BK938.out 0).trans rfl
                      have hcz74_1 : w32.cell? ⟨gb938, 1, none⟩ = some (.int .i64 t929) := (blk_cell BK938.out 1).trans rfl
                      have hcz74_2 : w32.cell? ⟨gb938, 2, none⟩ = some (.int .i64 t930) := (blk_cell BK938.out 2).trans rfl
                      have hcz74_3 : w32.cell? ⟨gb938, 3, none⟩ = some (.int .i64 t931) := (blk_cell BK938.out 3).trans rfl
                      have hcz74_4 : w32.cell? ⟨gb938, 4, none⟩ = some (.int .i64 t932) := (blk_cell BK938.out 4).trans rfl
                      have hcz74_5 : w32.cell? ⟨gb938, 5, none⟩ = some (.int .i64 t933) := (blk_cell BK938.out 5).trans rfl
                      have hcz74_6 : w32.cell? ⟨gb938, 6, none⟩ = some (.int .i64 t934) := (blk_cell BK938.out 6).trans rfl
                      have hcz74_7 : w32.cell? ⟨gb938, 7, none⟩ = some (.int .i64 t935) := (blk_cell BK938.out 7).trans rfl
                      have hcz74_8 : w32.cell? ⟨gb938, 8, none⟩ = some (.int .i64 t936) := (blk_cell BK938.out 8).trans rfl
                      have hfz74_0 := blk_frozen BK938.out 0
                      have hfz74_1 := blk_frozen BK938.out 1
                      have hfz74_2 := blk_frozen BK938.out 2
                      have hfz74_3 := blk_frozen BK938.out 3
                      have hfz74_4 := blk_frozen BK938.out 4
                      have hfz74_5 := blk_frozen BK938.out 5
                      have hfz74_6 := blk_frozen BK938.out 6
                      have hfz74_7 := blk_frozen BK938.out 7
                      have hfz74_8 := blk_frozen BK938.out 8
                      have hnb75 := NB916_927.out
                      have hnc75 := NB927_916.out
                      have hcz76_0 : w32.cell? ⟨gb916, 0, none⟩ = some (.int .i64 t907) := (blk_cell BK916.out 0).trans rfl
                      have hcz76_1 : w32.cell? ⟨gb916, 1, none⟩ = some (.int .i64 t908) := (blk_cell BK916.out 1).trans rfl
                      have hcz76_2 : w32.cell? ⟨gb916, 2, none⟩ = some (.int .i64 t909) := (blk_cell BK916.out 2).trans rfl
                      have hcz76_3 : w32.cell? ⟨gb916, 3, none⟩ = some (.int .i64 t910) := (blk_cell BK916.out 3).trans rfl
                      have hcz76_4 : w32.cell? ⟨gb916, 4, none⟩ = some (.int .i64 t911) := (blk_cell BK916.out 4).trans rfl
                      have hcz76_5 : w32.cell? ⟨gb916, 5, none⟩ = some (.int .i64 t912) := (blk_cell BK916.out 5).trans rfl
                      have hcz76_6 : w32.cell? ⟨gb916, 6, none⟩ = some (.int .i64 t913) := (blk_cell BK916.out 6).trans rfl
                      have hcz76_7 : w32.cell? ⟨gb916, 7, none⟩ = some (.int .i64 t914) := (blk_cell BK916.out 7).trans rfl
                      have hcz76_8 : w32.cell? ⟨gb916, 8, none⟩ = some (.int .i64 t915) := (blk_cell BK916.out 8).trans rfl
                      have hfz76_0 := blk_frozen BK916.out 0
                      have hfz76_1 := blk_frozen BK916.out 1
                      have hfz76_2 := blk_frozen BK916.out 2
                      have hfz76_3 := blk_frozen BK916.out 3
                      have hfz76_4 := blk_frozen BK916.out 4
                      have hfz76_5 := blk_frozen BK916.out 5
                      have hfz76_6 := blk_frozen BK916.out 6
                      have hfz76_7 := blk_frozen BK916.out 7
                      have hfz76_8 := blk_frozen BK916.out 8
                      obtain ⟨Ao77, co77, eo77⟩ := Kd.R_slice HO941.out
                      subst eo77
                      go_wp2
                      repeat (go_quiet (fail); try go_wp2)
                      go_meet
                      case rel => exact ⟨_, (true), (by first | rfl | (simp; done) | (simp [*]; done)), H', ⟨by first | omega | exact Nat.le_refl _⟩, ⟨by (with_reducible repeat (first | apply Kd.R_alloc | apply Kd.R_drewN | apply Kd.R_drew)); exact Kd.R_mono HO941.out (fun _ hk => ⟨hk.1.1.2, ⟨hk.1.2, hk.2⟩⟩)⟩, ⟨by (with_reducible repeat (first | apply Kd.R_alloc | apply Kd.R_drewN | apply Kd.R_drew)); exact Kd.R_mono HO945.out (fun _ hk => ⟨hk.1.1.2, ⟨hk.1.2, hk.2⟩⟩)⟩, ⟨by (with_reducible repeat (first | apply Kd.R_alloc | apply Kd.R_drewN | apply Kd.R_drew)); exact Kd.R_mono HO949.out (fun _ hk => ⟨hk.1.1.2, ⟨hk.1.2, hk.2⟩⟩)⟩, ⟨by (with_reducible repeat (first | apply Kd.R_alloc | apply Kd.R_drewN | apply Kd.R_drew)); exact Kd.R_mono HO953.out (fun _ hk => ⟨hk.1.1.2, ⟨hk.1.2, hk.2⟩⟩)⟩, ⟨by (with_reducible repeat (first | refine blk_drewN ?_ _ | refine blk_drew ?_ | refine blk_alloc ?_ _)); exact BK916.out⟩, ⟨by (with_reducible repeat (first | refine blk_drewN ?_ _ | refine blk_drew ?_ | refine blk_alloc ?_ _)); exact BK927.out⟩, ⟨by (with_reducible repeat (first | refine blk_drewN ?_ _ | refine blk_drew ?_ | refine blk_alloc ?_ _)); exact BK938.out⟩, ⟨by repeat (first | (with_reducible first | exact HB.out | apply below_alloc | apply pw_below_drewN | apply below_drew1 | refine below_set ?_ GE916.out | refine below_set ?_ GE927.out | refine below_set ?_ GE938.out) | exact HB.out)⟩⟩
                · replace c38 := Bool.eq_false_iff.mpr c38
                  subst c38
                  have H1 : (laws_FnMirrored.j0 k t939 t943 t947 t951 true) = some r := by rw [if_neg (show ¬ (false = true) by decide)] at H; exact H
                  clear H
                  have H := H1
                  clear H1
                  have H' := Aside0.mk H
                  clear H
                  go_wp2
                  repeat (go_quiet (fail); try go_wp2)
                  go_meet
                  case rel => exact ⟨_, (true), (by first | rfl | (simp; done) | (simp [*]; done)), H', ⟨by first | omega | exact Nat.le_refl _⟩, ⟨by (with_reducible repeat (first | apply Kd.R_alloc | apply Kd.R_drewN | apply Kd.R_drew)); exact Kd.R_mono HO941.out (fun _ hk => ⟨hk.1.1.2, ⟨hk.1.2, hk.2⟩⟩)⟩, ⟨by (with_reducible repeat (first | apply Kd.R_alloc | apply Kd.R_drewN | apply Kd.R_drew)); exact Kd.R_mono HO945.out (fun _ hk => ⟨hk.1.1.2, ⟨hk.1.2, hk.2⟩⟩)⟩, ⟨by (with_reducible repeat (first | apply Kd.R_alloc | apply Kd.R_drewN | apply Kd.R_drew)); exact Kd.R_mono HO949.out (fun _ hk => ⟨hk.1.1.2, ⟨hk.1.2, hk.2⟩⟩)⟩, ⟨by (with_reducible repeat (first | apply Kd.R_alloc | apply Kd.R_drewN | apply Kd.R_drew)); exact Kd.R_mono HO953.out (fun _ hk => ⟨hk.1.1.2, ⟨hk.1.2, hk.2⟩⟩)⟩, ⟨by (with_reducible repeat (first | refine blk_drewN ?_ _ | refine blk_drew ?_ | refine blk_alloc ?_ _)); exact BK916.out⟩, ⟨by (with_reducible repeat (first | refine blk_drewN ?_ _ | refine blk_drew ?_ | refine blk_alloc ?_ _)); exact BK927.out⟩, ⟨by (with_reducible repeat (first | refine blk_drewN ?_ _ | refine blk_drew ?_ | refine blk_alloc ?_ _)); exact BK938.out⟩, ⟨by repeat (first | (with_reducible first | exact HB.out | apply below_alloc | apply pw_below_drewN | apply below_drew1 | refine below_set ?_ GE916.out | refine below_set ?_ GE927.out | refine below_set ?_ GE938.out) | exact HB.out)⟩⟩
              · replace c37 := Bool.eq_false_iff.mpr c37
                subst c37
                have H1 : (laws_FnMirrored.j0 k t939 t943 t947 t951 true) = some r := by rw [if_neg (show ¬ (false = true) by decide)] at H; exact H
                clear H
                have H := H1
                clear H1
                have H' := Aside0.mk H
                clear H
                go_wp2
                repeat (go_quiet (fail); try go_wp2)
                go_meet
                case rel => exact ⟨_, (true), (by first | rfl | (simp; done) | (simp [*]; done)), H', ⟨by first | omega | exact Nat.le_refl _⟩, ⟨by (with_reducible repeat (first | apply Kd.R_alloc | apply Kd.R_drewN | apply Kd.R_drew)); exact Kd.R_mono HO941.out (fun _ hk => ⟨hk.1.1.2, ⟨hk.1.2, hk.2⟩⟩)⟩, ⟨by (with_reducible repeat (first | apply Kd.R_alloc | apply Kd.R_drewN | apply Kd.R_drew)); exact Kd.R_mono HO945.out (fun _ hk => ⟨hk.1.1.2, ⟨hk.1.2, hk.2⟩⟩)⟩, ⟨by (with_reducible repeat (first | apply Kd.R_alloc | apply Kd.R_drewN | apply Kd.R_drew)); exact Kd.R_mono HO949.out (fun _ hk => ⟨hk.1.1.2, ⟨hk.1.2, hk.2⟩⟩)⟩, ⟨by (with_reducible repeat (first | apply Kd.R_alloc | apply Kd.R_drewN | apply Kd.R_drew)); exact Kd.R_mono HO953.out (fun _ hk => ⟨hk.1.1.2, ⟨hk.1.2, hk.2⟩⟩)⟩, ⟨by (with_reducible repeat (first | refine blk_drewN ?_ _ | refine blk_drew ?_ | refine blk_alloc ?_ _)); exact BK916.out⟩, ⟨by (with_reducible repeat (first | refine blk_drewN ?_ _ | refine blk_drew ?_ | refine blk_alloc ?_ _)); exact BK927.out⟩, ⟨by (with_reducible repeat (first | refine blk_drewN ?_ _ | refine blk_drew ?_ | refine blk_alloc ?_ _)); exact BK938.out⟩, ⟨by repeat (first | (with_reducible first | exact HB.out | apply below_alloc | apply pw_below_drewN | apply below_drew1 | refine below_set ?_ GE916.out | refine below_set ?_ GE927.out | refine below_set ?_ GE938.out) | exact HB.out)⟩⟩
            · replace c36 := Bool.eq_false_iff.mpr c36
              subst c36
              have H1 : (laws_FnMirrored.j0 k t939 t943 t947 t951 true) = some r := by rw [if_neg (show ¬ (false = true) by decide)] at H; exact H
              clear H
              have H := H1
              clear H1
              have H' := Aside0.mk H
              clear H
              go_wp2
              repeat (go_quiet (fail); try go_wp2)
              go_meet
              case rel => exact ⟨_, (true), (by first | rfl | (simp; done) | (simp [*]; done)), H', ⟨by first | omega | exact Nat.le_refl _⟩, ⟨by (with_reducible repeat (first | apply Kd.R_alloc | apply Kd.R_drewN | apply Kd.R_drew)); exact Kd.R_mono HO941.out (fun _ hk => ⟨hk.1.1.2, ⟨hk.1.2, hk.2⟩⟩)⟩, ⟨by (with_reducible repeat (first | apply Kd.R_alloc | apply Kd.R_drewN | apply Kd.R_drew)); exact Kd.R_mono HO945.out (fun _ hk => ⟨hk.1.1.2, ⟨hk.1.2, hk.2⟩⟩)⟩, ⟨by (with_reducible repeat (first | apply Kd.R_alloc | apply Kd.R_drewN | apply Kd.R_drew)); exact Kd.R_mono HO949.out (fun _ hk => ⟨hk.1.1.2, ⟨hk.1.2, hk.2⟩⟩)⟩, ⟨by (with_reducible repeat (first | apply Kd.R_alloc | apply Kd.R_drewN | apply Kd.R_drew)); exact Kd.R_mono HO953.out (fun _ hk => ⟨hk.1.1.2, ⟨hk.1.2, hk.2⟩⟩)⟩, ⟨by (with_reducible repeat (first | refine blk_drewN ?_ _ | refine blk_drew ?_ | refine blk_alloc ?_ _)); exact BK916.out⟩, ⟨by (with_reducible repeat (first | refine blk_drewN ?_ _ | refine blk_drew ?_ | refine blk_alloc ?_ _)); exact BK927.out⟩, ⟨by (with_reducible repeat (first | refine blk_drewN ?_ _ | refine blk_drew ?_ | refine blk_alloc ?_ _)); exact BK938.out⟩, ⟨by repeat (first | (with_reducible first | exact HB.out | apply below_alloc | apply pw_below_drewN | apply below_drew1 | refine below_set ?_ GE916.out | refine below_set ?_ GE927.out | refine below_set ?_ GE938.out) | exact HB.out)⟩⟩
          · replace c35 := Bool.eq_false_iff.mpr c35
            subst c35
            have H1 : (laws_FnMirrored.j0 k t939 t943 t947 t951 true) = some r := by rw [if_neg (show ¬ (false = true) by decide)] at H; exact H
            clear H
            have H := H1
            clear H1
            have H' := Aside0.mk H
            clear H
            go_wp2
            repeat (go_quiet (fail); try go_wp2)
            go_meet
            case rel => exact ⟨_, (true), (by first | rfl | (simp; done) | (simp [*]; done)), H', ⟨by first | omega | exact Nat.le_refl _⟩, ⟨by (with_reducible repeat (first | apply Kd.R_alloc | apply Kd.R_drewN | apply Kd.R_drew)); exact Kd.R_mono HO941.out (fun _ hk => ⟨hk.1.1.2, ⟨hk.1.2, hk.2⟩⟩)⟩, ⟨by (with_reducible repeat (first | apply Kd.R_alloc | apply Kd.R_drewN | apply Kd.R_drew)); exact Kd.R_mono HO945.out (fun _ hk => ⟨hk.1.1.2, ⟨hk.1.2, hk.2⟩⟩)⟩, ⟨by (with_reducible repeat (first | apply Kd.R_alloc | apply Kd.R_drewN | apply Kd.R_drew)); exact Kd.R_mono HO949.out (fun _ hk => ⟨hk.1.1.2, ⟨hk.1.2, hk.2⟩⟩)⟩, ⟨by (with_reducible repeat (first | apply Kd.R_alloc | apply Kd.R_drewN | apply Kd.R_drew)); exact Kd.R_mono HO953.out (fun _ hk => ⟨hk.1.1.2, ⟨hk.1.2, hk.2⟩⟩)⟩, ⟨by (with_reducible repeat (first | refine blk_drewN ?_ _ | refine blk_drew ?_ | refine blk_alloc ?_ _)); exact BK916.out⟩, ⟨by (with_reducible repeat (first | refine blk_drewN ?_ _ | refine blk_drew ?_ | refine blk_alloc ?_ _)); exact BK927.out⟩, ⟨by (with_reducible repeat (first | refine blk_drewN ?_ _ | refine blk_drew ?_ | refine blk_alloc ?_ _)); exact BK938.out⟩, ⟨by repeat (first | (with_reducible first | exact HB.out | apply below_alloc | apply pw_below_drewN | apply below_drew1 | refine below_set ?_ GE916.out | refine below_set ?_ GE927.out | refine below_set ?_ GE938.out) | exact HB.out)⟩⟩
        · replace c34 := Bool.eq_false_iff.mpr c34
          subst c34
          have H1 : (laws_FnMirrored.j0 k t939 t943 t947 t951 true) = some r := by rw [if_neg (show ¬ (false = true) by decide)] at H; exact H
          clear H
          have H := H1
          clear H1
          have H' := Aside0.mk H
          clear H
          go_wp2
          repeat (go_quiet (fail); try go_wp2)
          go_meet
          case rel => exact ⟨_, (true), (by first | rfl | (simp; done) | (simp [*]; done)), H', ⟨by first | omega | exact Nat.le_refl _⟩, ⟨by (with_reducible repeat (first | apply Kd.R_alloc | apply Kd.R_drewN | apply Kd.R_drew)); exact Kd.R_mono HO941.out (fun _ hk => ⟨hk.1.1.2, ⟨hk.1.2, hk.2⟩⟩)⟩, ⟨by (with_reducible repeat (first | apply Kd.R_alloc | apply Kd.R_drewN | apply Kd.R_drew)); exact Kd.R_mono HO945.out (fun _ hk => ⟨hk.1.1.2, ⟨hk.1.2, hk.2⟩⟩)⟩, ⟨by (with_reducible repeat (first | apply Kd.R_alloc | apply Kd.R_drewN | apply Kd.R_drew)); exact Kd.R_mono HO949.out (fun _ hk => ⟨hk.1.1.2, ⟨hk.1.2, hk.2⟩⟩)⟩, ⟨by (with_reducible repeat (first | apply Kd.R_alloc | apply Kd.R_drewN | apply Kd.R_drew)); exact Kd.R_mono HO953.out (fun _ hk => ⟨hk.1.1.2, ⟨hk.1.2, hk.2⟩⟩)⟩, ⟨by (with_reducible repeat (first | refine blk_drewN ?_ _ | refine blk_drew ?_ | refine blk_alloc ?_ _)); exact BK916.out⟩, ⟨by (with_reducible repeat (first | refine blk_drewN ?_ _ | refine blk_drew ?_ | refine blk_alloc ?_ _)); exact BK927.out⟩, ⟨by (with_reducible repeat (first | refine blk_drewN ?_ _ | refine blk_drew ?_ | refine blk_alloc ?_ _)); exact BK938.out⟩, ⟨by repeat (first | (with_reducible first | exact HB.out | apply below_alloc | apply pw_below_drewN | apply below_drew1 | refine below_set ?_ GE916.out | refine below_set ?_ GE927.out | refine below_set ?_ GE938.out) | exact HB.out)⟩⟩
      · replace c33 := Bool.eq_false_iff.mpr c33
        subst c33
        have H1 : (laws_FnMirrored.j0 k t939 t943 t947 t951 true) = some r := by rw [if_neg (show ¬ (false = true) by decide)] at H; exact H
        clear H
        have H := H1
        clear H1
        have H' := Aside0.mk H
        clear H
        go_wp2
        repeat (go_quiet (fail); try go_wp2)
        go_meet
        case rel => exact ⟨_, (true), (by first | rfl | (simp; done) | (simp [*]; done)), H', ⟨by first | omega | exact Nat.le_refl _⟩, ⟨by (with_reducible repeat (first | apply Kd.R_alloc | apply Kd.R_drewN | apply Kd.R_drew)); exact Kd.R_mono HO941.out (fun _ hk => ⟨hk.1.1.2, ⟨hk.1.2, hk.2⟩⟩)⟩, ⟨by (with_reducible repeat (first | apply Kd.R_alloc | apply Kd.R_drewN | apply Kd.R_drew)); exact Kd.R_mono HO945.out (fun _ hk => ⟨hk.1.1.2, ⟨hk.1.2, hk.2⟩⟩)⟩, ⟨by (with_reducible repeat (first | apply Kd.R_alloc | apply Kd.R_drewN | apply Kd.R_drew)); exact Kd.R_mono HO949.out (fun _ hk => ⟨hk.1.1.2, ⟨hk.1.2, hk.2⟩⟩)⟩, ⟨by (with_reducible repeat (first | apply Kd.R_alloc | apply Kd.R_drewN | apply Kd.R_drew)); exact Kd.R_mono HO953.out (fun _ hk => ⟨hk.1.1.2, ⟨hk.1.2, hk.2⟩⟩)⟩, ⟨by (with_reducible repeat (first | refine blk_drewN ?_ _ | refine blk_drew ?_ | refine blk_alloc ?_ _)); exact BK916.out⟩, ⟨by (with_reducible repeat (first | refine blk_drewN ?_ _ | refine blk_drew ?_ | refine blk_alloc ?_ _)); exact BK927.out⟩, ⟨by (with_reducible repeat (first | refine blk_drewN ?_ _ | refine blk_drew ?_ | refine blk_alloc ?_ _)); exact BK938.out⟩, ⟨by repeat (first | (with_reducible first | exact HB.out | apply below_alloc | apply pw_below_drewN | apply below_drew1 | refine below_set ?_ GE916.out | refine below_set ?_ GE927.out | refine below_set ?_ GE938.out) | exact HB.out)⟩⟩
    case rest =>
      clear HC12
      try clear c1
      try clear c2
      try clear p2
      try clear c3
      try clear c4
      try clear c5
      try clear c6
      try clear c7
      try clear c15
      try clear c18
      try clear c22
      try clear c23
      try clear c33
      try clear c34
      try clear c35
      try clear c36
      try clear c37
      try clear c38
      try clear c39
      try clear c39b0
      try clear c40
      try clear c41
      try clear c43
      try clear c45
      try clear c45b0
      try clear c45b1
      try clear c46
      try clear c46b0
      try clear c46b1
      try clear c47
      try clear c47b0
      try clear c47b1
      try clear c48
      try clear c49
      try clear c51
      try clear c57
      try clear c58
      try clear c60
      try clear c65
      try clear c66
      try clear c68
      try clear c72
      try clear c73
      try clear c75
      try clear hcz15_0
      try clear hcz15_1
      try clear hcz15_2
      try clear hcz15_3
      try clear hcz15_4
      try clear hcz15_5
      try clear hcz15_6
      try clear hcz15_7
      try clear hcz15_8
      try clear hcz19_0
      try clear hcz19_1
      try clear hcz19_2
      try clear hcz19_3
      try clear hcz19_4
      try clear hcz19_5
      try clear hcz19_6
      try clear hcz19_7
      try clear hcz19_8
      try clear hcz24_0
      try clear hcz24_1
      try clear hcz24_2
      try clear hcz24_3
      try clear hcz24_4
      try clear hcz24_5
      try clear hcz24_6
      try clear hcz24_7
      try clear hcz24_8
      try clear hcz25_0
      try clear hcz25_1
      try clear hcz25_2
      try clear hcz25_3
      try clear hcz25_4
      try clear hcz25_5
      try clear hcz25_6
      try clear hcz25_7
      try clear hcz25_8
      try clear hcz27_0
      try clear hcz27_1
      try clear hcz27_2
      try clear hcz27_3
      try clear hcz27_4
      try clear hcz27_5
      try clear hcz27_6
      try clear hcz27_7
      try clear hcz27_8
      try clear hcz29_0
      try clear hcz29_1
      try clear hcz29_2
      try clear hcz29_3
      try clear hcz29_4
      try clear hcz29_5
      try clear hcz29_6
      try clear hcz29_7
      try clear hcz29_8
      try clear hcz31_0
      try clear hcz31_1
      try clear hcz31_2
      try clear hcz31_3
      try clear hcz31_4
      try clear hcz31_5
      try clear hcz31_6
      try clear hcz31_7
      try clear hcz31_8
      try clear hcz42_0
      try clear hcz42_1
      try clear hcz42_2
      try clear hcz42_3
      try clear hcz42_4
      try clear hcz42_5
      try clear hcz42_6
      try clear hcz42_7
      try clear hcz42_8
      try clear hcz44_0
      try clear hcz44_1
      try clear hcz44_2
      try clear hcz44_3
      try clear hcz44_4
      try clear hcz44_5
      try clear hcz44_6
      try clear hcz44_7
      try clear hcz44_8
      try clear hcz50_0
      try clear hcz50_1
      try clear hcz50_2
      try clear hcz50_3
      try clear hcz50_4
      try clear hcz50_5
      try clear hcz50_6
      try clear hcz50_7
      try clear hcz50_8
      try clear hcz52_0
      try clear hcz52_1
      try clear hcz52_2
      try clear hcz52_3
      try clear hcz52_4
      try clear hcz52_5
      try clear hcz52_6
      try clear hcz52_7
      try clear hcz52_8
      try clear hcz59_0
      try clear hcz59_1
      try clear hcz59_2
      try clear hcz59_3
      try clear hcz59_4
      try clear hcz59_5
      try clear hcz59_6
      try clear hcz59_7
      try clear hcz59_8
      try clear hcz61_0
      try clear hcz61_1
      try clear hcz61_2
      try clear hcz61_3
      try clear hcz61_4
      try clear hcz61_5
      try clear hcz61_6
      try clear hcz61_7
      try clear hcz61_8
      try clear hcz67_0
      try clear hcz67_1
      try clear hcz67_2
      try clear hcz67_3
      try clear hcz67_4
      try clear hcz67_5
      try clear hcz67_6
      try clear hcz67_7
      try clear hcz67_8
      try clear hcz69_0
      try clear hcz69_1
      try clear hcz69_2
      try clear hcz69_3
      try clear hcz69_4
      try clear hcz69_5
      try clear hcz69_6
      try clear hcz69_7
      try clear hcz69_8
      try clear hcz74_0
      try clear hcz74_1
      try clear hcz74_2
      try clear hcz74_3
      try clear hcz74_4
      try clear hcz74_5
      try clear hcz74_6
      try clear hcz74_7
      try clear hcz74_8
      try clear hcz76_0
      try clear hcz76_1
      try clear hcz76_2
      try clear hcz76_3
      try clear hcz76_4
      try clear hcz76_5
      try clear hcz76_6
      try clear hcz76_7
      try clear hcz76_8
      try clear hfz15_0
      try clear hfz15_1
      try clear hfz15_2
      try clear hfz15_3
      try clear hfz15_4
      try clear hfz15_5
      try clear hfz15_6
      try clear hfz15_7
      try clear hfz15_8
      try clear hfz19_0
      try clear hfz19_1
      try clear hfz19_2
      try clear hfz19_3
      try clear hfz19_4
      try clear hfz19_5
      try clear hfz19_6
      try clear hfz19_7
      try clear hfz19_8
      try clear hfz24_0
      try clear hfz24_1
      try clear hfz24_2
      try clear hfz24_3
      try clear hfz24_4
      try clear hfz24_5
      try clear hfz24_6
      try clear hfz24_7
      try clear hfz24_8
      try clear hfz25_0
      try clear hfz25_1
      try clear hfz25_2
      try clear hfz25_3
      try clear hfz25_4
      try clear hfz25_5
      try clear hfz25_6
      try clear hfz25_7
      try clear hfz25_8
      try clear hfz27_0
      try clear hfz27_1
      try clear hfz27_2
      try clear hfz27_3
      try clear hfz27_4
      try clear hfz27_5
      try clear hfz27_6
      try clear hfz27_7
      try clear hfz27_8
      try clear hfz29_0
      try clear hfz29_1
      try clear hfz29_2
      try clear hfz29_3
      try clear hfz29_4
      try clear hfz29_5
      try clear hfz29_6
      try clear hfz29_7
      try clear hfz29_8
      try clear hfz31_0
      try clear hfz31_1
      try clear hfz31_2
      try clear hfz31_3
      try clear hfz31_4
      try clear hfz31_5
      try clear hfz31_6
      try clear hfz31_7
      try clear hfz31_8
      try clear hfz42_0
      try clear hfz42_1
      try clear hfz42_2
      try clear hfz42_3
      try clear hfz42_4
      try clear hfz42_5
      try clear hfz42_6
      try clear hfz42_7
      try clear hfz42_8
      try clear hfz44_0
      try clear hfz44_1
      try clear hfz44_2
      try clear hfz44_3
      try clear hfz44_4
      try clear hfz44_5
      try clear hfz44_6
      try clear hfz44_7
      try clear hfz44_8
      try clear hfz50_0
      try clear hfz50_1
      try clear hfz50_2
      try clear hfz50_3
      try clear hfz50_4
      try clear hfz50_5
      try clear hfz50_6
      try clear hfz50_7
      try clear hfz50_8
      try clear hfz52_0
      try clear hfz52_1
      try clear hfz52_2
      try clear hfz52_3
      try clear hfz52_4
      try clear hfz52_5
      try clear hfz52_6
      try clear hfz52_7
      try clear hfz52_8
      try clear hfz59_0
      try clear hfz59_1
      try clear hfz59_2
      try clear hfz59_3
      try clear hfz59_4
      try clear hfz59_5
      try clear hfz59_6
      try clear hfz59_7
      try clear hfz59_8
      try clear hfz61_0
      try clear hfz61_1
      try clear hfz61_2
      try clear hfz61_3
      try clear hfz61_4
      try clear hfz61_5
      try clear hfz61_6
      try clear hfz61_7
      try clear hfz61_8
      try clear hfz67_0
      try clear hfz67_1
      try clear hfz67_2
      try clear hfz67_3
      try clear hfz67_4
      try clear hfz67_5
      try clear hfz67_6
      try clear hfz67_7
      try clear hfz67_8
      try clear hfz69_0
      try clear hfz69_1
      try clear hfz69_2
      try clear hfz69_3
      try clear hfz69_4
      try clear hfz69_5
      try clear hfz69_6
      try clear hfz69_7
      try clear hfz69_8
      try clear hfz74_0
      try clear hfz74_1
      try clear hfz74_2
      try clear hfz74_3
      try clear hfz74_4
      try clear hfz74_5
      try clear hfz74_6
      try clear hfz74_7
      try clear hfz74_8
      try clear hfz76_0
      try clear hfz76_1
      try clear hfz76_2
      try clear hfz76_3
      try clear hfz76_4
      try clear hfz76_5
      try clear hfz76_6
      try clear hfz76_7
      try clear hfz76_8
      obtain ⟨kq, x101_11, rfl, HA, HJ11, HO_10, HO_12, HO_14, HO_16, BK916, BK927, BK938, HB⟩ := hcut
      cases kq with
      | zero => exact absurd HA.out (by simp [laws_FnMirrored.j0])
      | succ kj11 =>
        have H := HA.out
        clear HA
        simp only [laws_FnMirrored.j0] at H
        by_cases c78 : x101_11 = true
        · subst c78
          have H1 : (some false) = some r := by rw [if_pos rfl] at H; exact H
          clear H
          have H := H1
          clear H1
          obtain rfl := Option.some.inj H
          go_wp2
          repeat (go_quiet (fail); try go_wp2)
          go_ret
          exact ⟨by first | rfl | (simp [errW_none, errW_some] <;> rfl) | (simp [*, errW_none, errW_some] <;> rfl), by repeat (first | (with_reducible first | exact HB.out | apply below_alloc | apply pw_below_drewN | apply below_drew1 | refine below_set ?_ GE916.out | refine below_set ?_ GE927.out | refine below_set ?_ GE938.out) | exact HB.out)⟩
        · replace c78 := Bool.eq_false_iff.mpr c78
          subst c78
          have H1 : (laws_FnMirrored.l0 kj11 t939 t943 t947 t951 0) = some r := by rw [if_neg (show ¬ (false = true) by decide)] at H; exact H
          clear H
          have H := H1
          clear H1
          have H' := Aside0.mk H
          clear H
          go_wp2
          repeat (go_quiet (fail); try go_wp2)
          go_loopg [18] kj11 (fun kq v18 w' => ∃ (x18_2 : Int), v18 = .int .i64 x18_2 ∧ Aside0 (laws_FnMirrored.l0 kq t939 t943 t947 t951 x18_2 = some r) ∧ Aside0 (kq ≤ kj11) ∧ Aside0 (Kd.R (Kd.int .i64) 2 w' w.heap.size (fun k_ => some k_ ≠ (v944 : Value).ownBlock ∧ some k_ ≠ (v948 : Value).ownBlock ∧ some k_ ≠ (v952 : Value).ownBlock) v940 t939) ∧ Aside0 (Kd.R (Kd.int .i64) 2 w' w.heap.size (fun k_ => some k_ ≠ (v940 : Value).ownBlock ∧ some k_ ≠ (v948 : Value).ownBlock ∧ some k_ ≠ (v952 : Value).ownBlock) v944 t943) ∧ Aside0 (Kd.R (Kd.int .i64) 2 w' w.heap.size (fun k_ => some k_ ≠ (v940 : Value).ownBlock ∧ some k_ ≠ (v944 : Value).ownBlock ∧ some k_ ≠ (v952 : Value).ownBlock) v948 t947) ∧ Aside0 (Kd.R (Kd.int .i64) 2 w' w.heap.size (fun k_ => some k_ ≠ (v940 : Value).ownBlock ∧ some k_ ≠ (v944 : Value).ownBlock ∧ some k_ ≠ (v948 : Value).ownBlock) v952 t951) ∧ Aside0 (w'.heap[gb916]? = some (.cells #[.int .i64 t907, .int .i64 t908, .int .i64 t909, .int .i64 t910, .int .i64 t911, .int .i64 t912, .int .i64 t913, .int .i64 t914, .int .i64 t915] 58 (0, 0))) ∧ Aside0 (w'.heap[gb927]? = some (.cells #[.int .i64 t917, .int .i64 t918, .int .i64 t919, .int .i64 t920, .int .i64 t921, .int .i64 t922, .int .i64 t923, .int .i64 t924, .int .i64 t925] 58 (0, 0))) ∧ Aside0 (w'.heap[gb938]? = some (.cells #[.int .i64 t928, .int .i64 t929, .int .i64 t930, .int .i64 t931, .int .i64 t932, .int .i64 t933, .int .i64 t934, .int .i64 t935, .int .i64 t936] 58 (0, 0))) ∧ Aside0 (Below w.heap.size w w'))
          case atStart => exact ⟨(0), (by first | rfl | (simp; done) | (simp [*]; done)), H', ⟨Nat.le_refl _⟩, ⟨by (with_reducible repeat (first | apply Kd.R_alloc | apply Kd.R_drewN | apply Kd.R_drew)); exact HO_10.out⟩, ⟨by (with_reducible repeat (first | apply Kd.R_alloc | apply Kd.R_drewN | apply Kd.R_drew)); exact HO_12.out⟩, ⟨by (with_reducible repeat (first | apply Kd.R_alloc | apply Kd.R_drewN | apply Kd.R_drew)); exact HO_14.out⟩, ⟨by (with_reducible repeat (first | apply Kd.R_alloc | apply Kd.R_drewN | apply Kd.R_drew)); exact HO_16.out⟩, ⟨by (with_reducible repeat (first | refine blk_drewN ?_ _ | refine blk_drew ?_ | refine blk_alloc ?_ _)); exact BK916.out⟩, ⟨by (with_reducible repeat (first | refine blk_drewN ?_ _ | refine blk_drew ?_ | refine blk_alloc ?_ _)); exact BK927.out⟩, ⟨by (with_reducible repeat (first | refine blk_drewN ?_ _ | refine blk_drew ?_ | refine blk_alloc ?_ _)); exact BK938.out⟩, ⟨by repeat (first | (with_reducible first | exact HB.out | apply below_alloc | apply pw_below_drewN | apply below_drew1 | refine below_set ?_ GE916.out | refine below_set ?_ GE927.out | refine below_set ?_ GE938.out) | exact HB.out)⟩⟩
          case round =>
            clear H'
            try clear c1
            try clear c2
            try clear p2
            try clear c3
            try clear c4
            try clear c5
            try clear c6
            try clear c7
            try clear c15
            try clear c18
            try clear c22
            try clear c23
            try clear c33
            try clear c34
            try clear c35
            try clear c36
            try clear c37
            try clear c38
            try clear c39
            try clear c39b0
            try clear c40
            try clear c41
            try clear c43
            try clear c45
            try clear c45b0
            try clear c45b1
            try clear c46
            try clear c46b0
            try clear c46b1
            try clear c47
            try clear c47b0
            try clear c47b1
            try clear c48
            try clear c49
            try clear c51
            try clear c57
            try clear c58
            try clear c60
            try clear c65
            try clear c66
            try clear c68
            try clear c72
            try clear c73
            try clear c75
            try clear c78
            try clear hcz15_0
            try clear hcz15_1
            try clear hcz15_2
            try clear hcz15_3
            try clear hcz15_4
            try clear hcz15_5
            try clear hcz15_6
            try clear hcz15_7
            try clear hcz15_8
            try clear hcz19_0
            try clear hcz19_1
            try clear hcz19_2
            try clear hcz19_3
            try clear hcz19_4
            try clear hcz19_5
            try clear hcz19_6
            try clear hcz19_7
            try clear hcz19_8
            try clear hcz24_0
            try clear hcz24_1
            try clear hcz24_2
            try clear hcz24_3
            try clear hcz24_4
            try clear hcz24_5
            try clear hcz24_6
            try clear hcz24_7
            try clear hcz24_8
            try clear hcz25_0
            try clear hcz25_1
            try clear hcz25_2
            try clear hcz25_3
            try clear hcz25_4
            try clear hcz25_5
            try clear hcz25_6
            try clear hcz25_7
            try clear hcz25_8
            try clear hcz27_0
            try clear hcz27_1
            try clear hcz27_2
            try clear hcz27_3
            try clear hcz27_4
            try clear hcz27_5
            try clear hcz27_6
            try clear hcz27_7
            try clear hcz27_8
            try clear hcz29_0
            try clear hcz29_1
            try clear hcz29_2
            try clear hcz29_3
            try clear hcz29_4
            try clear hcz29_5
            try clear hcz29_6
            try clear hcz29_7
            try clear hcz29_8
            try clear hcz31_0
            try clear hcz31_1
            try clear hcz31_2
            try clear hcz31_3
            try clear hcz31_4
            try clear hcz31_5
            try clear hcz31_6
            try clear hcz31_7
            try clear hcz31_8
            try clear hcz42_0
            try clear hcz42_1
            try clear hcz42_2
            try clear hcz42_3
            try clear hcz42_4
            try clear hcz42_5
            try clear hcz42_6
            try clear hcz42_7
            try clear hcz42_8
            try clear hcz44_0
            try clear hcz44_1
            try clear hcz44_2
            try clear hcz44_3
            try clear hcz44_4
            try clear hcz44_5
            try clear hcz44_6
            try clear hcz44_7
            try clear hcz44_8
            try clear hcz50_0
            try clear hcz50_1
            try clear hcz50_2
            try clear hcz50_3
            try clear hcz50_4
            try clear hcz50_5
            try clear hcz50_6
            try clear hcz50_7
            try clear hcz50_8
            try clear hcz52_0
            try clear hcz52_1
            try clear hcz52_2
            try clear hcz52_3
            try clear hcz52_4
            try clear hcz52_5
            try clear hcz52_6
            try clear hcz52_7
            try clear hcz52_8
            try clear hcz59_0
            try clear hcz59_1
            try clear hcz59_2
            try clear hcz59_3
            try clear hcz59_4
            try clear hcz59_5
            try clear hcz59_6
            try clear hcz59_7
            try clear hcz59_8
            try clear hcz61_0
            try clear hcz61_1
            try clear hcz61_2
            try clear hcz61_3
            try clear hcz61_4
            try clear hcz61_5
            try clear hcz61_6
            try clear hcz61_7
            try clear hcz61_8
            try clear hcz67_0
            try clear hcz67_1
            try clear hcz67_2
            try clear hcz67_3
            try clear hcz67_4
            try clear hcz67_5
            try clear hcz67_6
            try clear hcz67_7
            try clear hcz67_8
            try clear hcz69_0
            try clear hcz69_1
            try clear hcz69_2
            try clear hcz69_3
            try clear hcz69_4
            try clear hcz69_5
            try clear hcz69_6
            try clear hcz69_7
            try clear hcz69_8
            try clear hcz74_0
            try clear hcz74_1
            try clear hcz74_2
            try clear hcz74_3
            try clear hcz74_4
            try clear hcz74_5
            try clear hcz74_6
            try clear hcz74_7
            try clear hcz74_8
            try clear hcz76_0
            try clear hcz76_1
            try clear hcz76_2
            try clear hcz76_3
            try clear hcz76_4
            try clear hcz76_5
            try clear hcz76_6
            try clear hcz76_7
            try clear hcz76_8
            try clear hfz15_0
            try clear hfz15_1
            try clear hfz15_2
            try clear hfz15_3
            try clear hfz15_4
            try clear hfz15_5
            try clear hfz15_6
            try clear hfz15_7
            try clear hfz15_8
            try clear hfz19_0
            try clear hfz19_1
            try clear hfz19_2
            try clear hfz19_3
            try clear hfz19_4
            try clear hfz19_5
            try clear hfz19_6
            try clear hfz19_7
            try clear hfz19_8
            try clear hfz24_0
            try clear hfz24_1
            try clear hfz24_2
            try clear hfz24_3
            try clear hfz24_4
            try clear hfz24_5
            try clear hfz24_6
            try clear hfz24_7
            try clear hfz24_8
            try clear hfz25_0
            try clear hfz25_1
            try clear hfz25_2
            try clear hfz25_3
            try clear hfz25_4
            try clear hfz25_5
            try clear hfz25_6
            try clear hfz25_7
            try clear hfz25_8
            try clear hfz27_0
            try clear hfz27_1
            try clear hfz27_2
            try clear hfz27_3
            try clear hfz27_4
            try clear hfz27_5
            try clear hfz27_6
            try clear hfz27_7
            try clear hfz27_8
            try clear hfz29_0
            try clear hfz29_1
            try clear hfz29_2
            try clear hfz29_3
            try clear hfz29_4
            try clear hfz29_5
            try clear hfz29_6
            try clear hfz29_7
            try clear hfz29_8
            try clear hfz31_0
            try clear hfz31_1
            try clear hfz31_2
            try clear hfz31_3
            try clear hfz31_4
            try clear hfz31_5
            try clear hfz31_6
            try clear hfz31_7
            try clear hfz31_8
            try clear hfz42_0
            try clear hfz42_1
            try clear hfz42_2
            try clear hfz42_3
            try clear hfz42_4
            try clear hfz42_5
            try clear hfz42_6
            try clear hfz42_7
            try clear hfz42_8
            try clear hfz44_0
            try clear hfz44_1
            try clear hfz44_2
            try clear hfz44_3
            try clear hfz44_4
            try clear hfz44_5
            try clear hfz44_6
            try clear hfz44_7
            try clear hfz44_8
            try clear hfz50_0
            try clear hfz50_1
            try clear hfz50_2
            try clear hfz50_3
            try clear hfz50_4
            try clear hfz50_5
            try clear hfz50_6
            try clear hfz50_7
            try clear hfz50_8
            try clear hfz52_0
            try clear hfz52_1
            try clear hfz52_2
            try clear hfz52_3
            try clear hfz52_4
            try clear hfz52_5
            try clear hfz52_6
            try clear hfz52_7
            try clear hfz52_8
            try clear hfz59_0
            try clear hfz59_1
            try clear hfz59_2
            try clear hfz59_3
            try clear hfz59_4
            try clear hfz59_5
            try clear hfz59_6
            try clear hfz59_7
            try clear hfz59_8
            try clear hfz61_0
            try clear hfz61_1
            try clear hfz61_2
            try clear hfz61_3
            try clear hfz61_4
            try clear hfz61_5
            try clear hfz61_6
            try clear hfz61_7
            try clear hfz61_8
            try clear hfz67_0
            try clear hfz67_1
            try clear hfz67_2
            try clear hfz67_3
            try clear hfz67_4
            try clear hfz67_5
            try clear hfz67_6
            try clear hfz67_7
            try clear hfz67_8
            try clear hfz69_0
            try clear hfz69_1
            try clear hfz69_2
            try clear hfz69_3
            try clear hfz69_4
            try clear hfz69_5
            try clear hfz69_6
            try clear hfz69_7
            try clear hfz69_8
            try clear hfz74_0
            try clear hfz74_1
            try clear hfz74_2
            try clear hfz74_3
            try clear hfz74_4
            try clear hfz74_5
            try clear hfz74_6
            try clear hfz74_7
            try clear hfz74_8
            try clear hfz76_0
            try clear hfz76_1
            try clear hfz76_2
            try clear hfz76_3
            try clear hfz76_4
            try clear hfz76_5
            try clear hfz76_6
            try clear hfz76_7
            try clear hfz76_8
            try clear p2
            obtain ⟨x18_2, rfl, HA, HK2, HO_10, HO_12, HO_14, HO_16, BK916, BK927, BK938, HB⟩ := hrel
            cases gk with
            | zero => exact absurd HA.out (by simp [laws_FnMirrored.l0])
            | succ k2 =>
              have H := HA.out
              clear HA
              simp only [laws_FnMirrored.l0] at H
              by_cases c79 : x18_2 < 4
              · rw [if_pos c79] at H
                have c79b0 : decide (x18_2 < 4) = true := decide_eq_true c79
                clear c79
                by_cases c80 : (Int.tmod x18_2 2) = 0
                · rw [if_pos c80] at H
                  have c80b0 : ((Int.tmod x18_2 2) == 0) = true := beq_iff_eq.mpr c80
                  have c80b1 : ((Int.tmod x18_2 2) != 0) = false := bne_eq_false_iff_eq.mpr c80
                  clear c80
                  by_cases c81 : 0 ≤ x18_2
                  · rw [if_pos c81] at H
                    have c81b0 : decide (0 ≤ x18_2) = true := decide_eq_true c81
                    clear c81
                    by_cases c82 : x18_2 < (t939.length : Int)
                    · rw [if_pos c82] at H
                      have c82b0 : decide (x18_2 < (t939.length : Int)) = true := decide_eq_true c82
                      clear c82
                      obtain ⟨ji83, hji83⟩ : ∃ j_ : Int, (wrap64 (2 - x18_2)) = j_ := ⟨_, rfl⟩
                      replace H : (if 0 ≤ (ji83) then (if (ji83) < (t943.length : Int) then (if (rd t939 x18_2) = (rd t943 (ji83)) then (if x18_2 < (t947.length : Int) then (if (ji83) < (t951.length : Int) then (if (rd t947 x18_2) = (rd t951 (ji83)) then (laws_FnMirrored.l0 k2 t939 t943 t947 t951 (wrap64 (x18_2 + 1))) else (some false)) else (none)) else (none)) else (some false)) else (none)) else (none)) = some r := by first | (rw [hji83] at H; exact H) | (simp only [hji83] at H ⊢; exact H)
                      have hji83w : (IntKind.i64.wrap (2 - x18_2)) = ji83 := (i64_w _).trans hji83
                      by_cases c84 : 0 ≤ (ji83)
                      · rw [if_pos c84] at H
                        have c84b0 : decide (0 ≤ (ji83)) = true := decide_eq_true c84
                        clear c84
                        by_cases c85 : (ji83) < (t943.length : Int)
                        · rw [if_pos c85] at H
                          have c85b0 : decide ((ji83) < (t943.length : Int)) = true := decide_eq_true c85
                          clear c85
                          by_cases c86 : (rd t939 x18_2) = (rd t943 (ji83))
                          · rw [if_pos c86] at H
                            have c86b0 : ((rd t939 x18_2) == (rd t943 (ji83))) = true := beq_iff_eq.mpr c86
                            have c86b1 : ((rd t939 x18_2) != (rd t943 (ji83))) = false := bne_eq_false_iff_eq.mpr c86
                            clear c86
                            by_cases c87 : x18_2 < (t947.length : Int)
                            · rw [if_pos c87] at H
                              have c87b0 : decide (x18_2 < (t947.length : Int)) = true := decide_eq_true c87
                              clear c87
                              by_cases c88 : (ji83) < (t951.length : Int)
                              · rw [if_pos c88] at H
                                have c88b0 : decide ((ji83) < (t951.length : Int)) = true := decide_eq_true c88
                                clear c88
                                by_cases c89 : (rd t947 x18_2) = (rd t951 (ji83))
                                · rw [if_pos c89] at H
                                  have c89b0 : ((rd t947 x18_2) == (rd t951 (ji83))) = true := beq_iff_eq.mpr c89
                                  have c89b1 : ((rd t947 x18_2) != (rd t951 (ji83))) = false := bne_eq_false_iff_eq.mpr c89
                                  clear c89
                                  have H' := Aside0.mk H
                                  clear H
                                  obtain ⟨Ao90, co90, eo90⟩ := Kd.R_slice HO_10.out
                                  subst eo90
                                  have p955 : 0 ≤ (x18_2 : Int) := of_decide_eq_true (by first | (with_reducible assumption) | assumption)
                                  have q955 : x18_2 < (t939.length : Int) := of_decide_eq_true (by first | (with_reducible assumption) | assumption)
                                  obtain ⟨ad955, e955, hx955_0⟩ := Kd.at_int (Kd.R_reads' HO_10.out).2.2 x18_2 p955 q955
                                  cases e955
                                  replace p955 := eq_true p955
                                  replace q955 := eq_true q955
                                  obtain ⟨Ao91, co91, eo91⟩ := Kd.R_slice HO_12.out
                                  subst eo91
                                  have p956 : 0 ≤ ((ji83) : Int) := of_decide_eq_true (by first | (with_reducible assumption) | assumption)
                                  have q956 : (ji83) < (t943.length : Int) := of_decide_eq_true (by first | (with_reducible assumption) | assumption)
                                  obtain ⟨ad956, e956, hx956_0⟩ := Kd.at_int (Kd.R_reads' HO_12.out).2.2 (ji83) p956 q956
                                  cases e956
                                  replace p956 := eq_true p956
                                  replace q956 := eq_true q956
                                  obtain ⟨Ao92, co92, eo92⟩ := Kd.R_slice HO_14.out
                                  subst eo92
                                  have p957 : 0 ≤ (x18_2 : Int) := of_decide_eq_true (by first | (with_reducible assumption) | assumption)
                                  have q957 : x18_2 < (t947.length : Int) := of_decide_eq_true (by first | (with_reducible assumption) | assumption)
                                  obtain ⟨ad957, e957, hx957_0⟩ := Kd.at_int (Kd.R_reads' HO_14.out).2.2 x18_2 p957 q957
                                  cases e957
                                  replace p957 := eq_true p957
                                  replace q957 := eq_true q957
                                  obtain ⟨Ao93, co93, eo93⟩ := Kd.R_slice HO_16.out
                                  subst eo93
                                  have p958 : 0 ≤ ((ji83) : Int) := of_decide_eq_true (by first | (with_reducible assumption) | assumption)
                                  have q958 : (ji83) < (t951.length : Int) := of_decide_eq_true (by first | (with_reducible assumption) | assumption)
                                  obtain ⟨ad958, e958, hx958_0⟩ := Kd.at_int (Kd.R_reads' HO_16.out).2.2 (ji83) p958 q958
                                  cases e958
                                  replace p958 := eq_true p958
                                  replace q958 := eq_true q958
                                  go_wp2
                                  repeat (go_quiet (fail); try go_wp2)
                                  go_roundg k2
                                  case measure => have := HJ11.out; have := HK2.out; omega
                                  case rel => exact ⟨(wrap64 (x18_2 + 1)), (by first | rfl | (simp; done) | (simp [*]; done)), H', ⟨by have := HJ11.out; have := HK2.out; omega⟩, ⟨by (with_reducible repeat (first | apply Kd.R_alloc | apply Kd.R_drewN | apply Kd.R_drew)); exact HO_10.out⟩, ⟨by (with_reducible repeat (first | apply Kd.R_alloc | apply Kd.R_drewN | apply Kd.R_drew)); exact HO_12.out⟩, ⟨by (with_reducible repeat (first | apply Kd.R_alloc | apply Kd.R_drewN | apply Kd.R_drew)); exact HO_14.out⟩, ⟨by (with_reducible repeat (first | apply Kd.R_alloc | apply Kd.R_drewN | apply Kd.R_drew)); exact HO_16.out⟩, ⟨by (with_reducible repeat (first | refine blk_drewN ?_ _ | refine blk_drew ?_ | refine blk_alloc ?_ _)); exact BK916.out⟩, ⟨by (with_reducible repeat (first | refine blk_drewN ?_ _ | refine blk_drew ?_ | refine blk_alloc ?_ _)); exact BK927.out⟩, ⟨by (with_reducible repeat (first | refine blk_drewN ?_ _ | refine blk_drew ?_ | refine blk_alloc ?_ _)); exact BK938.out⟩, ⟨by repeat (first | (with_reducible first | exact HB.out | apply below_alloc | apply pw_below_drewN | apply below_drew1 | refine below_set ?_ GE916.out | refine below_set ?_ GE927.out | refine below_set ?_ GE938.out) | exact HB.out)⟩⟩
                                · rw [if_neg c89] at H
                                  have c89b0 : ((rd t947 x18_2) == (rd t951 (ji83))) = false := beq_eq_false_iff_ne.mpr c89
                                  have c89b1 : ((rd t947 x18_2) != (rd t951 (ji83))) = true := bne_iff_ne.mpr c89
                                  obtain rfl := Option.some.inj H
                                  obtain ⟨Ao94, co94, eo94⟩ := Kd.R_slice HO_10.out
                                  subst eo94
                                  have p955 : 0 ≤ (x18_2 : Int) := of_decide_eq_true (by first | (with_reducible assumption) | assumption)
                                  have q955 : x18_2 < (t939.length : Int) := of_decide_eq_true (by first | (with_reducible assumption) | assumption)
                                  obtain ⟨ad955, e955, hx955_0⟩ := Kd.at_int (Kd.R_reads' HO_10.out).2.2 x18_2 p955 q955
                                  cases e955
                                  replace p955 := eq_true p955
                                  replace q955 := eq_true q955
                                  obtain ⟨Ao95, co95, eo95⟩ := Kd.R_slice HO_12.out
                                  subst eo95
                                  have p956 : 0 ≤ ((ji83) : Int) := of_decide_eq_true (by first | (with_reducible assumption) | assumption)
                                  have q956 : (ji83) < (t943.length : Int) := of_decide_eq_true (by first | (with_reducible assumption) | assumption)
                                  obtain ⟨ad956, e956, hx956_0⟩ := Kd.at_int (Kd.R_reads' HO_12.out).2.2 (ji83) p956 q956
                                  cases e956
                                  replace p956 := eq_true p956
                                  replace q956 := eq_true q956
                                  obtain ⟨Ao96, co96, eo96⟩ := Kd.R_slice HO_14.out
                                  subst eo96
                                  have p957 : 0 ≤ (x18_2 : Int) := of_decide_eq_true (by first | (with_reducible assumption) | assumption)
                                  have q957 : x18_2 < (t947.length : Int) := of_decide_eq_true (by first | (with_reducible assumption) | assumption)
                                  obtain ⟨ad957, e957, hx957_0⟩ := Kd.at_int (Kd.R_reads' HO_14.out).2.2 x18_2 p957 q957
                                  cases e957
                                  replace p957 := eq_true p957
                                  replace q957 := eq_true q957
                                  obtain ⟨Ao97, co97, eo97⟩ := Kd.R_slice HO_16.out
                                  subst eo97
                                  have p958 : 0 ≤ ((ji83) : Int) := of_decide_eq_true (by first | (with_reducible assumption) | assumption)
                                  have q958 : (ji83) < (t951.length : Int) := of_decide_eq_true (by first | (with_reducible assumption) | assumption)
                                  obtain ⟨ad958, e958, hx958_0⟩ := Kd.at_int (Kd.R_reads' HO_16.out).2.2 (ji83) p958 q958
                                  cases e958
                                  replace p958 := eq_true p958
                                  replace q958 := eq_true q958
                                  go_wp2
                                  repeat (go_quiet (fail); try go_wp2)
                                  go_ret
                                  exact ⟨by first | rfl | (simp [errW_none, errW_some] <;> rfl) | (simp only [← hji83]; first | rfl | (simp [errW_none, errW_some] <;> rfl)) | (simp [*, errW_none, errW_some] <;> rfl), by repeat (first | (with_reducible first | exact HB.out | apply below_alloc | apply pw_below_drewN | apply below_drew1 | refine below_set ?_ GE916.out | refine below_set ?_ GE927.out | refine below_set ?_ GE938.out) | exact HB.out)⟩
                              · rw [if_neg c88] at H
                                exact absurd H (by simp)
                            · rw [if_neg c87] at H
                              exact absurd H (by simp)
                          · rw [if_neg c86] at H
                            have c86b0 : ((rd t939 x18_2) == (rd t943 (ji83))) = false := beq_eq_false_iff_ne.mpr c86
                            have c86b1 : ((rd t939 x18_2) != (rd t943 (ji83))) = true := bne_iff_ne.mpr c86
                            obtain rfl := Option.some.inj H
                            obtain ⟨Ao98, co98, eo98⟩ := Kd.R_slice HO_10.out
                            subst eo98
                            have p955 : 0 ≤ (x18_2 : Int) := of_decide_eq_true (by first | (with_reducible assumption) | assumption)
                            have q955 : x18_2 < (t939.length : Int) := of_decide_eq_true (by first | (with_reducible assumption) | assumption)
                            obtain ⟨ad955, e955, hx955_0⟩ := Kd.at_int (Kd.R_reads' HO_10.out).2.2 x18_2 p955 q955
                            cases e955
                            replace p955 := eq_true p955
                            replace q955 := eq_true q955
                            obtain ⟨Ao99, co99, eo99⟩ := Kd.R_slice HO_12.out
                            subst eo99
                            have p956 : 0 ≤ ((ji83) : Int) := of_decide_eq_true (by first | (with_reducible assumption) | assumption)
                            have q956 : (ji83) < (t943.length : Int) := of_decide_eq_true (by first | (with_reducible assumption) | assumption)
                            obtain ⟨ad956, e956, hx956_0⟩ := Kd.at_int (Kd.R_reads' HO_12.out).2.2 (ji83) p956 q956
                            cases e956
                            replace p956 := eq_true p956
                            replace q956 := eq_true q956
                            go_wp2
                            repeat (go_quiet (fail); try go_wp2)
                            go_ret
                            exact ⟨by first | rfl | (simp [errW_none, errW_some] <;> rfl) | (simp only [← hji83]; first | rfl | (simp [errW_none, errW_some] <;> rfl)) | (simp [*, errW_none, errW_some] <;> rfl), by repeat (first | (with_reducible first | exact HB.out | apply below_alloc | apply pw_below_drewN | apply below_drew1 | refine below_set ?_ GE916.out | refine below_set ?_ GE927.out | refine below_set ?_ GE938.out) | exact HB.out)⟩
                        · rw [if_neg c85] at H
                          exact absurd H (by simp)
                      · rw [if_neg c84] at H
                        exact absurd H (by simp)
                    · rw [if_neg c82] at H
                      exact absurd H (by simp)
                  · rw [if_neg c81] at H
                    exact absurd H (by simp)
                · rw [if_neg c80] at H
                  have c80b0 : ((Int.tmod x18_2 2) == 0) = false := beq_eq_false_iff_ne.mpr c80
                  have c80b1 : ((Int.tmod x18_2 2) != 0) = true := bne_iff_ne.mpr c80
                  by_cases c100 : 0 ≤ x18_2
                  · rw [if_pos c100] at H
                    have c100b0 : decide (0 ≤ x18_2) = true := decide_eq_true c100
                    clear c100
                    by_cases c101 : x18_2 < (t939.length : Int)
                    · rw [if_pos c101] at H
                      have c101b0 : decide (x18_2 < (t939.length : Int)) = true := decide_eq_true c101
                      clear c101
                      by_cases c102 : x18_2 < (t943.length : Int)
                      · rw [if_pos c102] at H
                        have c102b0 : decide (x18_2 < (t943.length : Int)) = true := decide_eq_true c102
                        clear c102
                        by_cases c103 : (rd t939 x18_2) = (rd t943 x18_2)
                        · rw [if_pos c103] at H
                          have c103b0 : ((rd t939 x18_2) == (rd t943 x18_2)) = true := beq_iff_eq.mpr c103
                          have c103b1 : ((rd t939 x18_2) != (rd t943 x18_2)) = false := bne_eq_false_iff_eq.mpr c103
                          clear c103
                          by_cases c104 : x18_2 < (t947.length : Int)
                          · rw [if_pos c104] at H
                            have c104b0 : decide (x18_2 < (t947.length : Int)) = true := decide_eq_true c104
                            clear c104
                            by_cases c105 : x18_2 < (t951.length : Int)
                            · rw [if_pos c105] at H
                              have c105b0 : decide (x18_2 < (t951.length : Int)) = true := decide_eq_true c105
                              clear c105
                              by_cases c106 : (rd t947 x18_2) = (rd t951 x18_2)
                              · rw [if_pos c106] at H
                                have c106b0 : ((rd t947 x18_2) == (rd t951 x18_2)) = true := beq_iff_eq.mpr c106
                                have c106b1 : ((rd t947 x18_2) != (rd t951 x18_2)) = false := bne_eq_false_iff_eq.mpr c106
                                clear c106
                                have H' := Aside0.mk H
                                clear H
                                obtain ⟨Ao107, co107, eo107⟩ := Kd.R_slice HO_10.out
                                subst eo107
                                have p959 : 0 ≤ (x18_2 : Int) := of_decide_eq_true (by first | (with_reducible assumption) | assumption)
                                have q959 : x18_2 < (t939.length : Int) := of_decide_eq_true (by first | (with_reducible assumption) | assumption)
                                obtain ⟨ad959, e959, hx959_0⟩ := Kd.at_int (Kd.R_reads' HO_10.out).2.2 x18_2 p959 q959
                                cases e959
                                replace p959 := eq_true p959
                                replace q959 := eq_true q959
                                obtain ⟨Ao108, co108, eo108⟩ := Kd.R_slice HO_12.out
                                subst eo108
                                have p960 : 0 ≤ (x18_2 : Int) := of_decide_eq_true (by first | (with_reducible assumption) | assumption)
                                have q960 : x18_2 < (t943.length : Int) := of_decide_eq_true (by first | (with_reducible assumption) | assumption)
                                obtain ⟨ad960, e960, hx960_0⟩ := Kd.at_int (Kd.R_reads' HO_12.out).2.2 x18_2 p960 q960
                                cases e960
                                replace p960 := eq_true p960
                                replace q960 := eq_true q960
                                obtain ⟨Ao109, co109, eo109⟩ := Kd.R_slice HO_14.out
                                subst eo109
                                have p961 : 0 ≤ (x18_2 : Int) := of_decide_eq_true (by first | (with_reducible assumption) | assumption)
                                have q961 : x18_2 < (t947.length : Int) := of_decide_eq_true (by first | (with_reducible assumption) | assumption)
                                obtain ⟨ad961, e961, hx961_0⟩ := Kd.at_int (Kd.R_reads' HO_14.out).2.2 x18_2 p961 q961
                                cases e961
                                replace p961 := eq_true p961
                                replace q961 := eq_true q961
                                obtain ⟨Ao110, co110, eo110⟩ := Kd.R_slice HO_16.out
                                subst eo110
                                have p962 : 0 ≤ (x18_2 : Int) := of_decide_eq_true (by first | (with_reducible assumption) | assumption)
                                have q962 : x18_2 < (t951.length : Int) := of_decide_eq_true (by first | (with_reducible assumption) | assumption)
                                obtain ⟨ad962, e962, hx962_0⟩ := Kd.at_int (Kd.R_reads' HO_16.out).2.2 x18_2 p962 q962
                                cases e962
                                replace p962 := eq_true p962
                                replace q962 := eq_true q962
                                go_wp2
                                repeat (go_quiet (fail); try go_wp2)
                                go_roundg k2
                                case measure => have := HJ11.out; have := HK2.out; omega
                                case rel => exact ⟨(wrap64 (x18_2 + 1)), (by first | rfl | (simp; done) | (simp [*]; done)), H', ⟨by have := HJ11.out; have := HK2.out; omega⟩, ⟨by (with_reducible repeat (first | apply Kd.R_alloc | apply Kd.R_drewN | apply Kd.R_drew)); exact HO_10.out⟩, ⟨by (with_reducible repeat (first | apply Kd.R_alloc | apply Kd.R_drewN | apply Kd.R_drew)); exact HO_12.out⟩, ⟨by (with_reducible repeat (first | apply Kd.R_alloc | apply Kd.R_drewN | apply Kd.R_drew)); exact HO_14.out⟩, ⟨by (with_reducible repeat (first | apply Kd.R_alloc | apply Kd.R_drewN | apply Kd.R_drew)); exact HO_16.out⟩, ⟨by (with_reducible repeat (first | refine blk_drewN ?_ _ | refine blk_drew ?_ | refine blk_alloc ?_ _)); exact BK916.out⟩, ⟨by (with_reducible repeat (first | refine blk_drewN ?_ _ | refine blk_drew ?_ | refine blk_alloc ?_ _)); exact BK927.out⟩, ⟨by (with_reducible repeat (first | refine blk_drewN ?_ _ | refine blk_drew ?_ | refine blk_alloc ?_ _)); exact BK938.out⟩, ⟨by repeat (first | (with_reducible first | exact HB.out | apply below_alloc | apply pw_below_drewN | apply below_drew1 | refine below_set ?_ GE916.out | refine below_set ?_ GE927.out | refine below_set ?_ GE938.out) | exact HB.out)⟩⟩
                              · rw [if_neg c106] at H
                                have c106b0 : ((rd t947 x18_2) == (rd t951 x18_2)) = false := beq_eq_false_iff_ne.mpr c106
                                have c106b1 : ((rd t947 x18_2) != (rd t951 x18_2)) = true := bne_iff_ne.mpr c106
                                obtain rfl := Option.some.inj H
                                obtain ⟨Ao111, co111, eo111⟩ := Kd.R_slice HO_10.out
                                subst eo111
                                have p959 : 0 ≤ (x18_2 : Int) := of_decide_eq_true (by first | (with_reducible assumption) | assumption)
                                have q959 : x18_2 < (t939.length : Int) := of_decide_eq_true (by first | (with_reducible assumption) | assumption)
                                obtain ⟨ad959, e959, hx959_0⟩ := Kd.at_int (Kd.R_reads' HO_10.out).2.2 x18_2 p959 q959
                                cases e959
                                replace p959 := eq_true p959
                                replace q959 := eq_true q959
                                obtain ⟨Ao112, co112, eo112⟩ := Kd.R_slice HO_12.out
                                subst eo112
                                have p960 : 0 ≤ (x18_2 : Int) := of_decide_eq_true (by first | (with_reducible assumption) | assumption)
                                have q960 : x18_2 < (t943.length : Int) := of_decide_eq_true (by first | (with_reducible assumption) | assumption)
                                obtain ⟨ad960, e960, hx960_0⟩ := Kd.at_int (Kd.R_reads' HO_12.out).2.2 x18_2 p960 q960
                                cases e960
                                replace p960 := eq_true p960
                                replace q960 := eq_true q960
                                obtain ⟨Ao113, co113, eo113⟩ := Kd.R_slice HO_14.out
                                subst eo113
                                have p961 : 0 ≤ (x18_2 : Int) := of_decide_eq_true (by first | (with_reducible assumption) | assumption)
                                have q961 : x18_2 < (t947.length : Int) := of_decide_eq_true (by first | (with_reducible assumption) | assumption)
                                obtain ⟨ad961, e961, hx961_0⟩ := Kd.at_int (Kd.R_reads' HO_14.out).2.2 x18_2 p961 q961
                                cases e961
                                replace p961 := eq_true p961
                                replace q961 := eq_true q961
                                obtain ⟨Ao114, co114, eo114⟩ := Kd.R_slice HO_16.out
                                subst eo114
                                have p962 : 0 ≤ (x18_2 : Int) := of_decide_eq_true (by first | (with_reducible assumption) | assumption)
                                have q962 : x18_2 < (t951.length : Int) := of_decide_eq_true (by first | (with_reducible assumption) | assumption)
                                obtain ⟨ad962, e962, hx962_0⟩ := Kd.at_int (Kd.R_reads' HO_16.out).2.2 x18_2 p962 q962
                                cases e962
                                replace p962 := eq_true p962
                                replace q962 := eq_true q962
                                go_wp2
                                repeat (go_quiet (fail); try go_wp2)
                                go_ret
                                exact ⟨by first | rfl | (simp [errW_none, errW_some] <;> rfl) | (simp [*, errW_none, errW_some] <;> rfl), by repeat (first | (with_reducible first | exact HB.out | apply below_alloc | apply pw_below_drewN | apply below_drew1 | refine below_set ?_ GE916.out | refine below_set ?_ GE927.out | refine below_set ?_ GE938.out) | exact HB.out)⟩
                            · rw [if_neg c105] at H
                              exact absurd H (by simp)
                          · rw [if_neg c104] at H
                            exact absurd H (by simp)
                        · rw [if_neg c103] at H
                          have c103b0 : ((rd t939 x18_2) == (rd t943 x18_2)) = false := beq_eq_false_iff_ne.mpr c103
                          have c103b1 : ((rd t939 x18_2) != (rd t943 x18_2)) = true := bne_iff_ne.mpr c103
                          obtain rfl := Option.some.inj H
                          obtain ⟨Ao115, co115, eo115⟩ := Kd.R_slice HO_10.out
                          subst eo115
                          have p959 : 0 ≤ (x18_2 : Int) := of_decide_eq_true (by first | (with_reducible assumption) | assumption)
                          have q959 : x18_2 < (t939.length : Int) := of_decide_eq_true (by first | (with_reducible assumption) | assumption)
                          obtain ⟨ad959, e959, hx959_0⟩ := Kd.at_int (Kd.R_reads' HO_10.out).2.2 x18_2 p959 q959
                          cases e959
                          replace p959 := eq_true p959
                          replace q959 := eq_true q959
                          obtain ⟨Ao116, co116, eo116⟩ := Kd.R_slice HO_12.out
                          subst eo116
                          have p960 : 0 ≤ (x18_2 : Int) := of_decide_eq_true (by first | (with_reducible assumption) | assumption)
                          have q960 : x18_2 < (t943.length : Int) := of_decide_eq_true (by first | (with_reducible assumption) | assumption)
                          obtain ⟨ad960, e960, hx960_0⟩ := Kd.at_int (Kd.R_reads' HO_12.out).2.2 x18_2 p960 q960
                          cases e960
                          replace p960 := eq_true p960
                          replace q960 := eq_true q960
                          go_wp2
                          repeat (go_quiet (fail); try go_wp2)
                          go_ret
                          exact ⟨by first | rfl | (simp [errW_none, errW_some] <;> rfl) | (simp [*, errW_none, errW_some] <;> rfl), by repeat (first | (with_reducible first | exact HB.out | apply below_alloc | apply pw_below_drewN | apply below_drew1 | refine below_set ?_ GE916.out | refine below_set ?_ GE927.out | refine below_set ?_ GE938.out) | exact HB.out)⟩
                      · rw [if_neg c102] at H
                        exact absurd H (by simp)
                    · rw [if_neg c101] at H
                      exact absurd H (by simp)
                  · rw [if_neg c100] at H
                    exact absurd H (by simp)
              · rw [if_neg c79] at H
                have c79b0 : decide (x18_2 < 4) = false := decide_eq_false c79
                clear c79
                obtain rfl := Option.some.inj H
                go_wp2
                repeat (go_quiet (fail); try go_wp2)
                go_ret
                exact ⟨by first | rfl | (simp [errW_none, errW_some] <;> rfl) | (simp [*, errW_none, errW_some] <;> rfl), by repeat (first | (with_reducible first | exact HB.out | apply below_alloc | apply pw_below_drewN | apply below_drew1 | refine below_set ?_ GE916.out | refine below_set ?_ GE927.out | refine below_set ?_ GE938.out) | exact HB.out)⟩

/-- THE ONE PURE STATEMENT of laws_FnMirrored: yours. -/
def laws_FnMirrored.Pure : Prop := ∀ (l0 : List Int) (l1 : List Int), l0.length ≤ maxLen → l0.length * 1 ≤ 140737488351232 → (∀ x ∈ l0, (Lit.int .u8 x).wf = true) → l1.length ≤ maxLen → l1.length * 1 ≤ 140737488351232 → (∀ x ∈ l1, (Lit.int .u8 x).wf = true) → ∃ k, laws_FnMirrored.f k l0 l1 = some true
theorem laws_FnMirrored.walk (P : laws_FnMirrored.Pure) (a0 : Option Addr) (len0 cap0 : Nat) (z0 : List Int) (a1 : Option Addr) (len1 cap1 : Nat) (z1 : List Int) (w : World) (w0 : (a0 = none ∧ len0 = 0 ∧ cap0 = 0 ∧ z0 = []) ∨ ∃ x, a0 = some x ∧ len0 ≤ cap0 ∧ cap0 ≤ maxLen ∧ z0.length = cap0 ∧ (∀ i, i < z0.length → w.cell? (x.add i) = some (.int .u8 (z0.getD i 0))) ∧ ∀ n ∈ z0, (Lit.int .u8 n).wf = true) (y0 : len0 * 1 ≤ 140737488351232) (w1 : (a1 = none ∧ len1 = 0 ∧ cap1 = 0 ∧ z1 = []) ∨ ∃ x, a1 = some x ∧ len1 ≤ cap1 ∧ cap1 ≤ maxLen ∧ z1.length = cap1 ∧ (∀ i, i < z1.length → w.cell? (x.add i) = some (.int .u8 (z1.getD i 0))) ∧ ∀ n ∈ z1, (Lit.int .u8 n).wf = true) (y1 : len1 * 1 ≤ 140737488351232) :
    Calls Try.prog 15 #[.slice a0 len0 cap0, .slice a1 len1 cap1] w fun e w' => e = .returned (.bool true) ∧ Below w.heap.size w w' := by
  obtain ⟨l0, rfl, hr0, hm0, hw0, hc0⟩ := ReadsInt.ofRowC w0
  obtain ⟨l1, rfl, hr1, hm1, hw1, hc1⟩ := ReadsInt.ofRowC w1
  obtain ⟨k, h⟩ := P l0 l1 hm0 y0 hw0 hm1 y1 hw1
  refine (laws_FnMirrored.calls k _ _ l0 _ _ l1 true w (Kd.C_of_reads (d := (0 : Int)) (h1 := fun _ => rfl) hr0) hc0 (Kd.C_of_reads (d := (0 : Int)) (h1 := fun _ => rfl) hr1) hc1 h).mono ?_
  rintro e w' ⟨rfl, hd⟩
  exact ⟨rfl, hd⟩

end Go.Proofs.Ythlbcjoogcanmaa.Q
