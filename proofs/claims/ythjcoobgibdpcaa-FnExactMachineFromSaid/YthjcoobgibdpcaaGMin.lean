/- A contract by hand for slices.Min over numbers: of a list that is not empty it tells the least number, and changes nothing that was there. -/
import Derived.Test.YthjcoobgibdpcaaQ0
namespace Go.Proofs.Ythjcoobgibdpcaa.Q
open Go.RowKit Go.Proofs.YthjcoobgibdpcaaW.PrintWords Go.Proofs.YthjcoobgibdpcaaW.PrintLast Go.Proofs.YthjcoobgibdpcaaW.PrintMore
attribute [local go_sem] max2_int min2_int max_two min_two
set_option linter.unusedVariables false
set_option linter.unusedSimpArgs false

def minFrom : List Int → Int → Int
  | [], m => m
  | x :: xs, m => minFrom xs (mn m x)

theorem minFrom_at (l : List Int) (x : Int) (h0 : 0 ≤ x) (h1 : x < l.length) (m : Int) : minFrom (l.drop x.toNat) m = minFrom (l.drop (x + 1).toNat) (mn m (rd l x)) := by
  have hl : x.toNat < l.length := by omega
  rw [List.drop_eq_getElem_cons hl]
  have e1 : (x + 1).toNat = x.toNat + 1 := by omega
  have e2 : rd l x = l[x.toNat] := by simp [rd, hl]
  rw [e1, e2]
  rfl

def slices_Min_int64_int64.f (l0 : List Int) : Option (Int) := match l0 with
  | [] => none
  | x :: xs => some (minFrom xs x)

theorem min_starts (l : List Int) (r : Int) (h : slices_Min_int64_int64.f l = some r) : 0 < l.length ∧ minFrom (l.drop 1) (rd l 0) = r := by
  cases l with
  | nil => simp [slices_Min_int64_int64.f] at h
  | cons x xs => exact ⟨by simp, by simpa [slices_Min_int64_int64.f, rd] using h⟩

set_option maxHeartbeats 2000000 in
theorem slices_Min_int64_int64.calls (A0 : Option Addr) (c0 : Nat) (l0 : List Int) (r : Int) (w : World) (hr0 : Kd.C (Kd.int .i64) w A0 l0.length l0) (hc0 : l0.length ≤ c0) (h : slices_Min_int64_int64.f l0 = some r) :
    Calls Try.prog 42 #[.slice A0 l0.length c0] w fun e w' => e = .returned (.int .i64 r) ∧ Drawn0 w w' := by
  obtain ⟨hpos, hmin⟩ := min_starts l0 r h
  clear h
  have HM := Aside0.mk hmin
  have HR0 := Aside0.mk hr0
  have HL : l0.length ≤ 9223372036854775807 := hr0.2.1
  have q0 : (0 : Int) < (l0.length : Int) := by omega
  have hb1 : decide ((l0.length : Int) < 1) = false := decide_eq_false (by omega)
  obtain ⟨ad, e1, hc⟩ := Kd.at_int HR0.out 0 (by omega) q0
  cases e1
  have hc1 : w.cell? ad = some (.int .i64 (rd l0 0)) := by (have e : ad.add (0 : Int).toNat = ad := (by simp [Addr.add])); rwa [e] at hc
  clear hmin hr0 hc
  generalize hm : rd l0 0 = m0 at hc1
  have HM0 := Aside0.mk hm
  clear hm
  go_enter Try.func42, Try.ntmps42
  go_wp2
  go_loopg [3, 4] l0.length (fun gg v3 v4 w' => ∃ m x : Int, v3 = .int .i64 m ∧ v4 = .int .i64 x ∧ Aside0 (0 ≤ x ∧ x ≤ l0.length ∧ l0.length - x.toNat ≤ gg) ∧ Aside0 (minFrom (l0.drop x.toNat) m = r) ∧ Drawn0 w w')
  case atStart => exact ⟨m0, 1, rfl, rfl, ⟨by omega, by omega, by omega⟩, ⟨by rw [← HM0.out]; exact HM.out⟩, by repeat (first | exact Drawn0.refl _ | apply Drawn0.step)⟩
  case round =>
    obtain ⟨m, x, rfl, rfl, HX, HF, ⟨m1, rfl⟩⟩ := hrel
    obtain ⟨hx0, hx1, hxg⟩ := HX.out
    by_cases hlt : x < (l0.length : Int)
    · obtain ⟨ad', e1, hc⟩ := Kd.at_int HR0.out x hx0 hlt
      cases e1
      have hstep := minFrom_at l0 x hx0 hlt m
      rw [HF.out] at hstep
      generalize hy : rd l0 x = y at hc hstep
      clear hy hc1
      by_cases hym : y < m
      · have hmn : mn m y = y := by simp [mn, hym]
        rw [hmn] at hstep
        have HS := Aside0.mk hstep
        clear hmn hstep hxg hx1
        go_wp2
        go_roundg (l0.length - (x + 1).toNat)
        case measure => have := HX.out; omega
        case rel => exact ⟨y, x + 1, rfl, by go_num, ⟨by omega, by omega, by omega⟩, ⟨HS.out.symm⟩, by repeat (first | exact Drawn0.refl _ | apply Drawn0.step)⟩
      · have hmn : mn m y = m := by simp [mn, hym]
        rw [hmn] at hstep
        have HS := Aside0.mk hstep
        clear hmn hstep hxg hx1
        go_wp2
        go_roundg (l0.length - (x + 1).toNat)
        case measure => have := HX.out; omega
        case rel => exact ⟨m, x + 1, rfl, by go_num, ⟨by omega, by omega, by omega⟩, ⟨HS.out.symm⟩, by repeat (first | exact Drawn0.refl _ | apply Drawn0.step)⟩
    · have hR1 : m = r := by rw [← HF.out, List.drop_eq_nil_of_le (by omega)]; rfl
      subst hR1
      go_wp2
      go_ret
      exact ⟨rfl, by repeat (first | exact Drawn0.refl _ | apply Drawn0.step)⟩

end Go.Proofs.Ythjcoobgibdpcaa.Q
