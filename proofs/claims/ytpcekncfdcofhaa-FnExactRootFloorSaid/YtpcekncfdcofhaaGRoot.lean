/- A contract by hand for impl.rootOf: of a number from 0 to 10^18 it tells the greatest whole number whose square is not above it, and changes nothing that was there. -/
import Derived.Test.YtpcekncfdcofhaaQ0
import Derived.Test.YtpcekncfdcofhaaPSqrt
import Derived.Laws.Externs
import Derived.Shelf.Abstract
namespace Go.Proofs.Ytpcekncfdcofhaa.Q
open Go.RowKit Go.Proofs.YtpcekncfdcofhaaW.PrintWords Go.Proofs.YtpcekncfdcofhaaW.PrintLast Go.Proofs.YtpcekncfdcofhaaW.PrintMore
set_option linter.unusedVariables false
set_option linter.unusedSimpArgs false

/-- The greatest number whose square is not above n. -/
def isq : Nat → Nat
  | 0 => 0
  | n + 1 => if (isq n + 1) * (isq n + 1) ≤ n + 1 then isq n + 1 else isq n

theorem isq_ok : ∀ n, isq n * isq n ≤ n ∧ n < (isq n + 1) * (isq n + 1)
  | 0 => by decide
  | n + 1 => by
    have ih := isq_ok n
    unfold isq
    generalize isq n = q at ih ⊢
    by_cases h : (q + 1) * (q + 1) ≤ n + 1
    · rw [if_pos h]
      refine ⟨h, ?_⟩
      have e : (q + 1 + 1) * (q + 1 + 1) = (q + 1) * (q + 1) + 2 * (q + 1) + 1 := by
        simp only [Nat.add_mul, Nat.mul_add]; omega
      omega
    · rw [if_neg h]
      omega

theorem sq_mono {a b : Int} (h0 : 0 ≤ a) (h : a ≤ b) : a * a ≤ b * b := Int.mul_le_mul h h h0 (by omega)

theorem isq_only (n x : Int) (hx : 0 ≤ x) (h0 : 0 ≤ n) (h1 : x * x ≤ n) (h2 : n < (x + 1) * (x + 1)) : x = (isq n.toNat : Int) := by
  obtain ⟨a, b⟩ := isq_ok n.toNat
  generalize isq n.toNat = q at a b ⊢
  have a' : ((q : Int)) * q ≤ n := by
    have : ((q * q : Nat) : Int) ≤ ((n.toNat : Nat) : Int) := Int.ofNat_le.2 a
    rw [Int.natCast_mul] at this
    omega
  have b' : n < ((q : Int) + 1) * ((q : Int) + 1) := by
    have : ((n.toNat : Nat) : Int) < (((q + 1) * (q + 1) : Nat) : Int) := Int.ofNat_lt.2 b
    rw [Int.natCast_mul, Int.natCast_add] at this
    have e : ((n.toNat : Nat) : Int) = n := by omega
    rw [e] at this
    exact this
  by_cases c : x < q
  · have := sq_mono (a := x + 1) (b := q) (by omega) (by omega)
    omega
  · by_cases d : (q : Int) < x
    · have := sq_mono (a := (q : Int) + 1) (b := x) (by omega) (by omega)
      omega
    · omega

def impl_rootOf.f (a0 : Int) : Option (Int) := if 0 ≤ a0 ∧ a0 ≤ 1000000000000000000 then some (isq a0.toNat : Int) else none

theorem sqrt_run (x r : Nat) (w : World) (h : FloatKind.f64.format.sqrt x = some r) :
    (callFunc 32 #[.float .f64 x]).run Try.prog w = .ok (.value (.float .f64 r)) w := by
  rw [run_callFunc_extern Try.func32 (by kernel_rfl) (by kernel_rfl) (by kernel_rfl) (e := Extern.MathSqrt.sqrt) (by kernel_rfl)]
  have e : (Extern.MathSqrt.sqrt #[.float .f64 x]).run Try.prog w = .ok (.float .f64 r) w := by
    show Sem.run Try.prog (match FloatKind.f64.format.sqrt x with | some r => pure (Value.float .f64 r) | none => (do pure (Value.float .f64 (← choose (.nanBits .f64 x x))))) w = _
    rw [h]
    rfl
  rw [e]
  rfl

set_option maxHeartbeats 1000000 in
theorem Sqrt_calls (x r : Nat) (w : World) (h : FloatKind.f64.format.sqrt x = some r) :
    Calls Try.prog 24 #[.float .f64 x] w fun e w' => e = .returned (.float .f64 r) ∧ w = w' := by
  have hs := sqrt_run x r
  have hs2 : ∀ w, (callFunc 32 #[.float .f64 x]).run Try.prog w = .ok (.value (.float .f64 r)) w := fun w => hs w h
  clear hs h
  go_enter Try.func24, Try.ntmps24
  go_wp2
  go_ret
  exact ⟨rfl, rfl⟩

set_option maxHeartbeats 2000000 in
theorem impl_rootOf.calls (a0 : Int) (r : Int) (w : World) (h : impl_rootOf.f a0 = some r) :
    Calls Try.prog 17 #[.int .i64 a0] w fun e w' => e = .returned (.int .i64 r) ∧ Drawn0 w w' := by
  unfold impl_rootOf.f at h
  by_cases hb : 0 ≤ a0 ∧ a0 ≤ 1000000000000000000
  · rw [if_pos hb] at h
    obtain ⟨h0, h1⟩ := hb
    obtain rfl := Option.some.inj h
    clear h
    obtain ⟨x, s, hx, hs, hs0, hs1⟩ := sq_start a0 h0 h1
    have hc1 : ∀ w, (convert 2 39 (.int .i64 a0)).run Try.prog w = .ok (.float .f64 (FloatKind.f64.nearest a0)) w := fun w => by
      simp [convert, run_underlying Try.underlying2, run_underlying Try.underlying39, Conv.intToFloat]
    have hc2 : ∀ w, (convert 39 2 (.float .f64 x)).run Try.prog w = .ok (.int .i64 s) w := fun w => run_convert_float_int w _ _ _ _ _ _ (by kernel_rfl) Try.underlying2 hs
    have HX := Aside0.mk hx
    clear hx hs
    generalize hn : FloatKind.f64.nearest a0 = nf at hc1 HX
    clear hn
    go_enter Try.func17, Try.ntmps17
    go_wp2_with (go_at_call 24; refine (Sqrt_calls nf x _ HX.out).mono ?_; rintro e w' ⟨rfl, rfl⟩)
    clear hc1 hc2
    go_loopg [3] s.toNat (fun gg v3 w' => ∃ y : Int, v3 = .int .i64 y ∧ Aside0 (0 ≤ y ∧ y ≤ 2147483648 ∧ y.toNat ≤ gg) ∧ Drawn0 w w')
    case atStart => exact ⟨s, rfl, ⟨by omega, by omega, by omega⟩, by repeat (first | exact Drawn0.refl _ | apply Drawn0.step)⟩
    case round =>
      obtain ⟨y, rfl, HY, ⟨m1, rfl⟩⟩ := hrel
      obtain ⟨hy0, hy1, hyg⟩ := HY.out
      have hq1 := sq_mono hy0 hy1
      have hq0 := Int.mul_nonneg hy0 hy0
      have hwy : wrap64 (y * y) = y * y := by unfold wrap64; omega
      by_cases hgt : a0 < y * y
      · have hpos : 1 ≤ y := by
          by_cases z : y = 0
          · subst z; omega
          · omega
        have ht : decide (a0 < y * y) = true := decide_eq_true hgt
        have HG := Aside0.mk hyg
        clear hyg hq1 hgt
        go_wp2
        go_roundg (y - 1).toNat
        case measure => have := HY.out; omega
        case rel => exact ⟨y - 1, by go_num, ⟨by omega, by omega, by omega⟩, by repeat (first | exact Drawn0.refl _ | apply Drawn0.step)⟩
      · have ht : decide (a0 < y * y) = false := decide_eq_false hgt
        have HN := Aside0.mk hgt
        clear hyg hq1 hgt
        go_wp2
        clear ht hwy hq0
        go_loopg [3] (1000000000 - y).toNat (fun gg v3 w' => ∃ z : Int, v3 = .int .i64 z ∧ Aside0 (0 ≤ z ∧ z * z ≤ a0 ∧ (1000000000 - z).toNat ≤ gg) ∧ Drawn0 w w')
        case atStart => exact ⟨y, rfl, ⟨by omega, by have := HN.out; omega, by omega⟩, by repeat (first | exact Drawn0.refl _ | apply Drawn0.step)⟩
        case round =>
          obtain ⟨z, rfl, HZ, ⟨m2, rfl⟩⟩ := hrel
          obtain ⟨hz0, hz1, hzg⟩ := HZ.out
          have hzb : z ≤ 1000000000 := by
            by_cases c : z ≤ 1000000000
            · exact c
            · have := sq_mono (a := 1000000001) (b := z) (by omega) (by omega)
              omega
          have hq1 := sq_mono (a := z + 1) (b := 1000000001) (by omega) (by omega)
          have hq0 := Int.mul_nonneg (a := z + 1) (b := z + 1) (by omega) (by omega)
          have hwz : wrap64 ((z + 1) * (z + 1)) = (z + 1) * (z + 1) := by unfold wrap64; omega
          by_cases hle : (z + 1) * (z + 1) ≤ a0
          · have ht : decide ((z + 1) * (z + 1) ≤ a0) = true := decide_eq_true hle
            have hlt : z < 1000000000 := by
              by_cases c : z < 1000000000
              · exact c
              · have := sq_mono (a := 1000000001) (b := z + 1) (by omega) (by omega)
                omega
            have HL := Aside0.mk hle
            clear hzg hq1 hle hz1
            go_wp2
            go_roundg (1000000000 - (z + 1)).toNat
            case measure => have := HZ.out; omega
            case rel => exact ⟨z + 1, by go_num, ⟨by omega, HL.out, by omega⟩, by repeat (first | exact Drawn0.refl _ | apply Drawn0.step)⟩
          · have ht : decide ((z + 1) * (z + 1) ≤ a0) = false := decide_eq_false hle
            have he := isq_only a0 z hz0 h0 hz1 (by omega)
            have HE := Aside0.mk he
            clear he hzg hq1 hle hz1
            go_wp2
            go_ret
            exact ⟨by rw [HE.out]; rfl, by repeat (first | exact Drawn0.refl _ | apply Drawn0.step)⟩
  · rw [if_neg hb] at h
    cases h

end Go.Proofs.Ytpcekncfdcofhaa.Q
