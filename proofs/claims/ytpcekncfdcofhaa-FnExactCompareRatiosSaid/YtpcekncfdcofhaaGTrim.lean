/- A contract by hand for impl.trimmed, and what lists of digits are worth. -/
import Derived.Test.YtpcekncfdcofhaaQ0
namespace Go.Proofs.Ytpcekncfdcofhaa.Q
open Go.RowKit Go.Proofs.YtpcekncfdcofhaaW.PrintWords Go.Proofs.YtpcekncfdcofhaaW.PrintLast Go.Proofs.YtpcekncfdcofhaaW.PrintMore
set_option linter.unusedVariables false
set_option linter.unusedSimpArgs false

theorem bw64 {x : Int} (h : -9223372036854775808 ≤ x ∧ x ≤ 9223372036854775807) : wrap64 x = x := by unfold wrap64; omega

/-- What digits to the base 2 to the power of 32 are worth, the least ones first. -/
def vl : List Int → Int
  | [] => 0
  | d :: l => d + 4294967296 * vl l
def D32 (l : List Int) : Prop := ∀ d ∈ l, 0 ≤ d ∧ d ≤ 4294967295
theorem D32.cons {d : Int} {l : List Int} : D32 (d :: l) ↔ (0 ≤ d ∧ d ≤ 4294967295) ∧ D32 l := by
  unfold D32; simp
theorem D32.app {a b : List Int} (h : D32 a) (h' : D32 b) : D32 (a ++ b) := fun d hd => (List.mem_append.1 hd).elim (h d) (h' d)
theorem D32.take {l : List Int} (h : D32 l) (n : Nat) : D32 (l.take n) := fun d hd => h d (List.mem_of_mem_take hd)
theorem D32.drop {l : List Int} (h : D32 l) (n : Nat) : D32 (l.drop n) := fun d hd => h d (List.mem_of_mem_drop hd)
theorem vl_nn : ∀ {l : List Int}, D32 l → 0 ≤ vl l
  | [], _ => by simp [vl]
  | d :: l, h => by
    have h1 := D32.cons.1 h
    have := vl_nn h1.2
    rw [vl]; omega
theorem vl_snoc (l : List Int) (d : Int) : vl (l ++ [d]) = vl l + 4294967296 ^ l.length * d := by
  induction l with
  | nil => simp [vl]
  | cons e l ih =>
    rw [List.cons_append, vl, vl, ih, List.length_cons, Int.pow_succ, Int.mul_add]
    have : (4294967296 : Int) ^ l.length * 4294967296 * d = 4294967296 * (4294967296 ^ l.length * d) := by
      rw [Int.mul_comm ((4294967296 : Int) ^ l.length) 4294967296, Int.mul_assoc]
    omega

/-- How many digits are left when zeros at the end are struck. -/
def tn (l : List Int) : Nat → Nat
  | 0 => 0
  | m + 1 => if rd l m = 0 then tn l m else m + 1
theorem tn_le (l : List Int) : ∀ m, tn l m ≤ m
  | 0 => Nat.le_refl _
  | m + 1 => by rw [tn]; split; exact Nat.le_succ_of_le (tn_le l m); exact Nat.le_refl _
def trim (l : List Int) : List Int := l.take (tn l l.length)
theorem take_snoc {l : List Int} {m : Nat} (h : m < l.length) : l.take (m + 1) = l.take m ++ [rd l m] := by
  rw [List.take_succ_eq_append_getElem h]
  simp [rd, h]
theorem vl_tn (l : List Int) : ∀ m, m ≤ l.length → vl (l.take (tn l m)) = vl (l.take m)
  | 0, _ => rfl
  | m + 1, h => by
    rw [tn]
    split
    · rename_i h0
      rw [vl_tn l m (by omega), take_snoc (by omega), h0, vl_snoc]
      omega
    · rfl
theorem tn_last (l : List Int) : ∀ m, m ≤ l.length → tn l m ≠ 0 → rd l ((tn l m : Int) - 1) ≠ 0
  | 0, _, h => absurd rfl h
  | m + 1, hm, h => by
    rw [tn] at h ⊢
    split
    · rename_i h0
      rw [if_pos h0] at h
      exact tn_last l m (by omega) h
    · rename_i h0
      have : ((m + 1 : Nat) : Int) - 1 = (m : Int) := by omega
      rw [this]
      exact h0

/-- Digits without a zero at the end, and what they are worth. -/
structure Rep (l : List Int) (n : Int) : Prop where
  dig : D32 l
  val : vl l = n
  last : l ≠ [] → rd l ((l.length : Int) - 1) ≠ 0
theorem trim_rep {l : List Int} (h : D32 l) : Rep (trim l) (vl l) := by
  have hl : (trim l).length = tn l l.length := by unfold trim; rw [List.length_take]; have := tn_le l l.length; omega
  refine ⟨h.take _, ?_, fun hne => ?_⟩
  · unfold trim; rw [vl_tn l l.length (Nat.le_refl _), List.take_length]
  · rw [hl]
    have h0 : tn l l.length ≠ 0 := fun e => hne (by unfold trim; rw [e]; rfl)
    have := tn_last l l.length (Nat.le_refl _) h0
    have e : rd (trim l) ((tn l l.length : Int) - 1) = rd l ((tn l l.length : Int) - 1) := by
      unfold trim rd
      have hh : ((tn l l.length : Int) - 1).toNat < tn l l.length := by omega
      rw [List.getD_eq_getElem?_getD, List.getD_eq_getElem?_getD, List.getElem?_take_of_lt hh]
    rw [e]
    exact this
theorem trim_len (l : List Int) : (trim l).length ≤ l.length := by
  unfold trim; rw [List.length_take]; omega

theorem C_take {w : World} {A : Option Addr} {l : List Int} (h : Kd.C (Kd.int .u32) w A l.length l) (m : Nat) (hm : m ≤ l.length) : Kd.C (Kd.int .u32) w A m (l.take m) := by
  refine ⟨by rw [List.length_take]; omega, by have := h.2.1; omega, fun h0 => ?_⟩
  obtain ⟨ad, e, hc⟩ := h.2.2 (by omega)
  refine ⟨ad, e, fun j p hj => hc j p ?_⟩
  have hj' : j < m := by
    have := (List.getElem?_eq_some_iff.1 hj).1
    rw [List.length_take] at this
    omega
  rw [List.getElem?_take_of_lt hj'] at hj
  exact hj

set_option maxHeartbeats 4000000 in
set_option maxRecDepth 100000 in
theorem trim_calls (A : Option Addr) (c : Nat) (l : List Int) (w : World) (hC : Kd.C (Kd.int .u32) w A l.length l) (hc : l.length ≤ c) :
    Calls Try.prog 72 #[.slice A l.length c] w fun e w' => e = .returned (.slice A (trim l).length c) ∧ Drawn0 w w' := by
  have hu52 := Try.underlying52
  have hu74 := Try.underlying74
  obtain ⟨R, hR⟩ : ∃ R, R = (trim l).length := ⟨_, rfl⟩
  rw [← hR]
  have hR2 : tn l l.length = R := by rw [hR]; unfold trim; rw [List.length_take]; have := tn_le l l.length; omega
  have HR := Aside0.mk hR2
  have HC := Aside0.mk hC
  have HL := Aside0.mk hc
  have HS := Aside0.mk hC.2.1
  clear hR hR2 hC hc
  go_enter Try.func72, Try.ntmps72
  go_wp2
  go_loopg [0] l.length (fun gg v0 w' => ∃ m : Nat, v0 = .slice A m c ∧ Aside0 (m ≤ l.length ∧ m ≤ gg) ∧ Aside0 (tn l m = R) ∧ Drawn0 w w')
  case atStart => exact ⟨l.length, rfl, ⟨Nat.le_refl _, Nat.le_refl _⟩, HR, by repeat (first | exact Drawn0.refl _ | apply Drawn0.step)⟩
  case round =>
    obtain ⟨m, rfl, HM, HT, ⟨m1, rfl⟩⟩ := hrel
    cases m with
    | zero =>
      have hE : 0 = R := HT.out
      subst hE
      go_wp2
      go_ret
      exact ⟨rfl, by repeat (first | exact Drawn0.refl _ | apply Drawn0.step)⟩
    | succ m =>
      have hgt : decide (((m + 1 : Nat) : Int) > 0) = true := decide_eq_true (by omega)
      have hgt' : decide ((0 : Int) < ((m + 1 : Nat) : Int)) = true := decide_eq_true (by omega)
      have hgt2 : decide ((0 : Int) < (m : Int) + 1) = true := decide_eq_true (by omega)
      have hw1 : wrap64 ((m : Int) + 1 - 1) = (m : Int) := by have := HM.out; have := HS.out; rw [bw64 (by omega)]; omega
      have hw2 : wrap64 (((m + 1 : Nat) : Int) - 1) = (m : Int) := by have := HM.out; have := HS.out; rw [bw64 (by omega)]; omega
      have hw3 : wrap64 (m : Int) = (m : Int) := by have := HM.out; have := HS.out; rw [bw64 (by omega)]
      have p1 : (0 ≤ (m : Int)) = True := eq_true (by omega)
      have q1 : ((m : Int) < (m : Int) + 1) = True := eq_true (by omega)
      have q2 : ((m : Int) ≤ (c : Int)) = True := eq_true (by have := HM.out; have := HL.out; omega)
      obtain ⟨ad, eA, hx⟩ := Kd.at_int HC.out (m : Int) (by omega) (by have := HM.out; omega)
      cases eA
      have hT := HT.out
      rw [tn] at hT
      rw [Int.toNat_natCast] at hx
      generalize rd l (m : Int) = y at hx hT
      by_cases hy : y = 0
      · subst hy
        rw [if_pos rfl] at hT
        have HT2 := Aside0.mk hT
        clear hT HT
        go_wp2
        go_roundg m
        case measure => have := HM.out; omega
        case rel => exact ⟨m, by first | rfl | simp, ⟨by have := HM.out; omega, Nat.le_refl _⟩, HT2, by repeat (first | exact Drawn0.refl _ | apply Drawn0.step)⟩
      · rw [if_neg hy] at hT
        have hyb : (y == 0) = false := by rw [beq_eq_false_iff_ne]; exact hy
        subst hT
        clear hy HT
        go_wp2
        go_ret
        exact ⟨rfl, by repeat (first | exact Drawn0.refl _ | apply Drawn0.step)⟩

def impl_trimmed.f (l0 : List Int) : Option (List Int) := some (trim l0)
theorem impl_trimmed.calls (A0 : Option Addr) (c0 : Nat) (l0 r : List Int) (w : World) (hr0 : Kd.C (Kd.int .u32) w A0 l0.length l0) (hc0 : l0.length ≤ c0) (h : impl_trimmed.f l0 = some r) :
    Calls Try.prog 72 #[.slice A0 l0.length c0] w fun e w' => ∃ v : Value, e = .returned v ∧ (v = .slice A0 r.length c0 ∧ r = trim l0) ∧ Below w.heap.size w w' := by
  obtain rfl := Option.some.inj h
  refine (trim_calls A0 c0 l0 w hr0 hc0).mono ?_
  rintro e w' ⟨rfl, ⟨nd, rfl⟩⟩
  exact ⟨_, rfl, ⟨rfl, rfl⟩, pw_below_drewN (Below.refl _ _) nd⟩
theorem R_trim {W : World} {base : Nat} {ok : Nat → Prop} {A : Option Addr} {c : Nat} {l r : List Int} {v : Value} (h : Kd.R (Kd.int .u32) 74 W base ok (.slice A l.length c) l) (he : v = .slice A r.length c ∧ r = trim l) : Kd.R (Kd.int .u32) 74 W base ok v r := by
  obtain ⟨rfl, rfl⟩ := he
  have hm := tn_le l l.length
  have e : (trim l).length = tn l l.length := by unfold trim; rw [List.length_take]; omega
  rw [e]
  exact Kd.R_take h hm

end Go.Proofs.Ytpcekncfdcofhaa.Q
