/- A contract by hand for math/bits.Sub32: the difference of digits, and what is borrowed. -/
import Derived.Test.YtpcekncfdcofhaaQ0
import Derived.Test.YtpcekncfdcofhaaGTrim
import Derived.Laws.BitsLemmas
namespace Go.Proofs.Ytpcekncfdcofhaa.Q
open Go.RowKit Go.Proofs.YtpcekncfdcofhaaW.PrintWords Go.Proofs.YtpcekncfdcofhaaW.PrintLast Go.Proofs.YtpcekncfdcofhaaW.PrintMore
set_option linter.unusedVariables false
set_option linter.unusedSimpArgs false

theorem b_and (a b : Nat) (ha : a < 4294967296) (hb : b < 4294967296) : bits .and .u32 a b = ((a &&& b : Nat) : Int) := (bits_nat .u32 32 (by decide) (fun n h0 h1 => by rw [IntKind.wrap_u32]; omega) a b ha hb).1
theorem b_or (a b : Nat) (ha : a < 4294967296) (hb : b < 4294967296) : bits .or .u32 a b = ((a ||| b : Nat) : Int) := (bits_nat .u32 32 (by decide) (fun n h0 h1 => by rw [IntKind.wrap_u32]; omega) a b ha hb).2
theorem b_xor (a b : Nat) (ha : a < 4294967296) (hb : b < 4294967296) : bits .xor .u32 a b = ((a ^^^ b : Nat) : Int) := by
  have e1 : a % 2 ^ 32 = a := Nat.mod_eq_of_lt ha
  have e2 : b % 2 ^ 32 = b := Nat.mod_eq_of_lt hb
  have h : a ^^^ b < 2 ^ 32 := Nat.xor_lt_two_pow ha hb
  show IntKind.u32.wrap _ = _
  simp only [BitVec.ofInt_natCast, BitVec.toNat_xor, BitVec.toNat_ofNat]
  rw [IntKind.wrap_u32]
  have e3 : a % 2 ^ IntKind.u32.bits = a := e1
  have e4 : b % 2 ^ IntKind.u32.bits = b := e2
  rw [e3, e4]
  omega

theorem top_and (a b : Nat) : (a &&& b) / 2147483648 = (a / 2147483648) &&& (b / 2147483648) := by
  have := Nat.shiftRight_and_distrib (a := a) (b := b) (i := 31)
  simpa [Nat.shiftRight_eq_div_pow] using this
theorem top_or (a b : Nat) : (a ||| b) / 2147483648 = (a / 2147483648) ||| (b / 2147483648) := by
  have := Nat.shiftRight_or_distrib (a := a) (b := b) (i := 31)
  simpa [Nat.shiftRight_eq_div_pow] using this
theorem top_xor (a b : Nat) : (a ^^^ b) / 2147483648 = (a / 2147483648) ^^^ (b / 2147483648) := by
  have := Nat.shiftRight_xor_distrib (a := a) (b := b) (i := 31)
  simpa [Nat.shiftRight_eq_div_pow] using this

theorem borrow_nat (x y b d : Nat) (hx : x < 4294967296) (hy : y < 4294967296) (hb : b ≤ 1) (hd : d < 4294967296) (he : d + y + b = x ∨ d + y + b = x + 4294967296) :
    ((((4294967295 ^^^ x) &&& y) ||| ((4294967295 ^^^ (x ^^^ y)) &&& d)) / 2147483648) = if x < y + b then 1 else 0 := by
  rw [top_or, top_and, top_and, top_xor, top_xor, top_xor]
  have tx : x / 2147483648 = 0 ∨ x / 2147483648 = 1 := by omega
  have ty : y / 2147483648 = 0 ∨ y / 2147483648 = 1 := by omega
  have td : d / 2147483648 = 0 ∨ d / 2147483648 = 1 := by omega
  have e1 : 4294967295 / 2147483648 = 1 := rfl
  rw [e1]
  rcases tx with h1 | h1 <;> rcases ty with h2 | h2 <;> rcases td with h3 | h3 <;> rw [h1, h2, h3] <;> simp <;> omega

def brw (x y b : Int) : Int := if x < y + b then 1 else 0
def dif (x y b : Int) : Int := if x < y + b then x - y - b + 4294967296 else x - y - b
theorem dif_eq {x y b : Int} (hx : 0 ≤ x ∧ x ≤ 4294967295) (hy : 0 ≤ y ∧ y ≤ 4294967295) (hb : 0 ≤ b ∧ b ≤ 1) : (x - y - b) % 4294967296 = dif x y b ∧ 0 ≤ dif x y b ∧ dif x y b ≤ 4294967295 := by
  unfold dif; split <;> omega
theorem brw_le (x y b : Int) : 0 ≤ brw x y b ∧ brw x y b ≤ 1 := by unfold brw; split <;> omega
theorem brw_eq {x y b : Int} (hx : 0 ≤ x ∧ x ≤ 4294967295) (hy : 0 ≤ y ∧ y ≤ 4294967295) (hb : 0 ≤ b ∧ b ≤ 1) :
    bits .or .u32 (bits .and .u32 (bits .xor .u32 IntKind.u32.max x) y) (bits .and .u32 (bits .xor .u32 IntKind.u32.max (bits .xor .u32 x y)) ((x - y - b) % 4294967296)) / 2147483648 = brw x y b := by
  obtain ⟨h1, h2, h3⟩ := dif_eq hx hy hb
  rw [h1]
  have hdd : dif x y b + y + b = x ∨ dif x y b + y + b = x + 4294967296 := by unfold dif; split <;> omega
  generalize dif x y b = d at h2 h3 hdd
  clear h1
  unfold brw
  obtain ⟨x, rfl⟩ := Int.eq_ofNat_of_zero_le hx.1
  obtain ⟨y, rfl⟩ := Int.eq_ofNat_of_zero_le hy.1
  obtain ⟨b, rfl⟩ := Int.eq_ofNat_of_zero_le hb.1
  obtain ⟨d, rfl⟩ := Int.eq_ofNat_of_zero_le h2
  have em : IntKind.u32.max = ((4294967295 : Nat) : Int) := rfl
  have x1 : x < 4294967296 := by omega
  have y1 : y < 4294967296 := by omega
  have d1 : d < 4294967296 := by omega
  have xm : 4294967295 ^^^ x < 4294967296 := Nat.xor_lt_two_pow (n := 32) (by decide) x1
  have xy : x ^^^ y < 4294967296 := Nat.xor_lt_two_pow (n := 32) x1 y1
  have xn : 4294967295 ^^^ (x ^^^ y) < 4294967296 := Nat.xor_lt_two_pow (n := 32) (by decide) xy
  have a1 : (4294967295 ^^^ x) &&& y < 4294967296 := Nat.and_lt_two_pow (n := 32) _ y1
  have a2 : (4294967295 ^^^ (x ^^^ y)) &&& d < 4294967296 := Nat.and_lt_two_pow (n := 32) _ d1
  rw [em, b_xor _ _ (by decide) x1, b_xor _ _ x1 y1, b_xor _ _ (by decide) xy, b_and _ _ xm y1, b_and _ _ xn d1, b_or _ _ a1 a2]
  have := borrow_nat x y b d x1 y1 (by omega) d1 (by omega)
  have e : (((((4294967295 ^^^ x) &&& y) ||| ((4294967295 ^^^ (x ^^^ y)) &&& d) : Nat) : Int)) / 2147483648 = ((((((4294967295 ^^^ x) &&& y) ||| ((4294967295 ^^^ (x ^^^ y)) &&& d)) / 2147483648 : Nat)) : Int) := by simp
  rw [e, this]
  split <;> split <;> first | rfl | (exfalso; omega)

set_option maxHeartbeats 1000000 in
theorem Sub32_calls (x y b : Int) (hx : 0 ≤ x ∧ x ≤ 4294967295) (hy : 0 ≤ y ∧ y ≤ 4294967295) (hb : 0 ≤ b ∧ b ≤ 1) (w : World) :
    Calls Try.prog 80 #[.int .u32 x, .int .u32 y, .int .u32 b] w fun e w' => e = .returned (.tuple #[.int .u32 (dif x y b), .int .u32 (brw x y b)]) ∧ w' = w := by
  have h1 := (dif_eq hx hy hb).1
  have h2 := brw_eq hx hy hb
  have H1 := Aside0.mk h1
  have H2 := Aside0.mk h2
  clear h1 h2 hx hy hb
  go_enter Try.func80, Try.ntmps80
  go_wp2
  go_ret2
  refine ⟨?_, rfl⟩
  show Ending.returned (.tuple #[.int .u32 _, .int .u32 _]) = _
  rw [H2.out, H1.out]

end Go.Proofs.Ytpcekncfdcofhaa.Q
