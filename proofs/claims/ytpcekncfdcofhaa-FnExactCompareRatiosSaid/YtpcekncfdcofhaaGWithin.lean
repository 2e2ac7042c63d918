/- Contracts by hand for impl.areWithin: it tells whether all numbers of a list lie between two bounds, and changes nothing that was there. -/
import Derived.Test.YtpcekncfdcofhaaQ0
import Derived.Shelf.Abstract
namespace Go.Proofs.Ytpcekncfdcofhaa.Q
open Go.RowKit Go.Proofs.YtpcekncfdcofhaaW.PrintWords Go.Proofs.YtpcekncfdcofhaaW.PrintLast Go.Proofs.YtpcekncfdcofhaaW.PrintMore
set_option linter.unusedVariables false
set_option linter.unusedSimpArgs false

def inR (lo hi n : Int) : Bool := decide (lo ≤ n) && decide (n ≤ hi)

theorem aw_closure (b1 b2 : Nat) (n lo hi : Int) (w : World) (h1 : w.cell? ⟨b1, 0, none⟩ = some (.int .i64 lo)) (h2 : w.cell? ⟨b2, 0, none⟩ = some (.int .i64 hi)) :
    Calls Try.prog 34 #[.int .i64 n, .pointer (some ⟨b1, 0, none⟩), .pointer (some ⟨b2, 0, none⟩)] w fun e w' => e = .returned (.bool (!(inR lo hi n))) ∧ Drawn0 w w' := by
  by_cases c1 : lo ≤ n
  · by_cases c2 : n ≤ hi
    · have hv : inR lo hi n = true := by simp [inR, c1, c2]
      rw [hv]
      clear hv
      go_enter Try.func34, Try.ntmps34
      go_wp2
      go_ret
      exact ⟨rfl, by repeat (first | exact Drawn0.refl _ | apply Drawn0.step)⟩
    · have hv : inR lo hi n = false := by simp [inR, c2]
      rw [hv]
      clear hv
      go_enter Try.func34, Try.ntmps34
      go_wp2
      go_ret
      exact ⟨rfl, by repeat (first | exact Drawn0.refl _ | apply Drawn0.step)⟩
  · have hv : inR lo hi n = false := by simp [inR, c1]
    rw [hv]
    clear hv
    go_enter Try.func34, Try.ntmps34
    go_wp2
    go_ret
    exact ⟨rfl, by repeat (first | exact Drawn0.refl _ | apply Drawn0.step)⟩

/-- The place, from k on, of the first number that is not within, or -1. -/
def firstOut (lo hi : Int) : List Int → Int → Int
  | [], _ => -1
  | x :: xs, k => if inR lo hi x = true then firstOut lo hi xs (k + 1) else k

theorem firstOut_pos (lo hi : Int) (l : List Int) : ∀ k, 0 ≤ k → (0 ≤ firstOut lo hi l k ↔ l.all (inR lo hi) = false) := by
  induction l with
  | nil => intro k _; simp [firstOut]
  | cons x xs ih =>
    intro k hk
    rw [firstOut, List.all_cons]
    by_cases h : inR lo hi x = true
    · rw [if_pos h, ih (k + 1) (by omega), h, Bool.true_and]
    · have h' : inR lo hi x = false := by simpa using h
      rw [if_neg h, h', Bool.false_and]
      simp [hk]

theorem firstOut_all (lo hi : Int) (l : List Int) : decide (0 ≤ firstOut lo hi l 0) = !(l.all (inR lo hi)) := by
  have := firstOut_pos lo hi l 0 (Int.le_refl 0)
  cases h : l.all (inR lo hi) with
  | true => rw [h] at this; simp at this; simp; omega
  | false => rw [h] at this; simp at this; simp; omega

theorem firstOut_at (lo hi : Int) (l : List Int) (x : Int) (h0 : 0 ≤ x) (h1 : x < l.length) (k : Int) :
    firstOut lo hi (l.drop x.toNat) k = if inR lo hi (rd l x) = true then firstOut lo hi (l.drop (x + 1).toNat) (k + 1) else k := by
  have hl : x.toNat < l.length := by omega
  rw [List.drop_eq_getElem_cons hl]
  have e1 : (x + 1).toNat = x.toNat + 1 := by omega
  have e2 : rd l x = l[x.toNat] := by simp [rd, hl]
  rw [e1, e2]
  rfl

set_option maxHeartbeats 2000000 in
theorem aw_index (A0 : Option Addr) (c0 : Nat) (l0 : List Int) (b1 b2 : Nat) (lo hi : Int) (w : World) (hr0 : Kd.C (Kd.int .i64) w A0 l0.length l0) (h1 : w.cell? ⟨b1, 0, none⟩ = some (.int .i64 lo)) (h2 : w.cell? ⟨b2, 0, none⟩ = some (.int .i64 hi)) :
    Calls Try.prog 43 #[.slice A0 l0.length c0, .func (.func 34) #[] #[.pointer (some ⟨b1, 0, none⟩), .pointer (some ⟨b2, 0, none⟩)]] w fun e w' => e = .returned (.int .i64 (firstOut lo hi l0 0)) ∧ Drawn0 w w' := by
  have HR0 := Aside0.mk hr0
  have HL : l0.length ≤ 9223372036854775807 := hr0.2.1
  obtain ⟨R, hR⟩ : ∃ R, R = firstOut lo hi l0 0 := ⟨_, rfl⟩
  have HR := Aside0.mk hR
  rw [← hR]
  clear hR hr0
  have eg : ∀ args w, (callFunc 34 args).run Try.prog w = .ok (.enter 34 args) w := enters_of Try.func34 (by kernel_rfl) rfl
  go_enter Try.func43, Try.ntmps43
  go_wp2
  go_loopg [5, 8] l0.length (fun gg _ v8 w' => ∃ x : Int, v8 = .int .i64 x ∧ Aside0 (0 ≤ x ∧ x ≤ l0.length ∧ l0.length - x.toNat ≤ gg) ∧ Aside0 (firstOut lo hi (l0.drop x.toNat) x = R) ∧ Drawn0 w w')
  case atStart => exact ⟨0, rfl, ⟨by omega, by omega, by simp⟩, ⟨by simpa using HR.out.symm⟩, by repeat (first | exact Drawn0.refl _ | apply Drawn0.step)⟩
  case round =>
    obtain ⟨x, rfl, HX, HF, ⟨m1, rfl⟩⟩ := hrel
    obtain ⟨hx0, hx1, hxg⟩ := HX.out
    have hx0' := Aside0.mk hx0
    by_cases hlt : x < (l0.length : Int)
    · have p1 : 0 ≤ x := hx0
      have q1 : x < (l0.length : Int) := hlt
      obtain ⟨ad, e1, hc⟩ := Kd.at_int HR0.out x p1 q1
      cases e1
      have hstep := firstOut_at lo hi l0 x p1 q1 x
      rw [HF.out] at hstep
      generalize hy : rd l0 x = y at hc hstep
      clear hy
      cases hq : inR lo hi y with
      | true =>
        rw [hq, if_pos rfl] at hstep
        have HS := Aside0.mk hstep
        have hcall : ∀ q, Calls Try.prog 34 #[.int .i64 y, .pointer (some ⟨b1, 0, none⟩), .pointer (some ⟨b2, 0, none⟩)] (w.drewN q) fun e w' => e = .returned (.bool false) ∧ Drawn0 (w.drewN q) w' :=
          fun q => (aw_closure b1 b2 y lo hi (w.drewN q) h1 h2).mono fun e w' ⟨he, hw⟩ => ⟨by rw [he, hq]; rfl, hw⟩
        clear hstep hq hxg hx1
        go_wp2_with (go_at_fn 34; refine (hcall _).mono ?_; rintro e w' ⟨rfl, ⟨nd, rfl⟩⟩)
        go_roundg (l0.length - (x + 1).toNat)
        case measure => have := HX.out; omega
        case rel => exact ⟨x + 1, by go_num, ⟨by omega, by omega, by omega⟩, ⟨HS.out.symm⟩, by repeat (first | exact Drawn0.refl _ | apply Drawn0.step)⟩
      | false =>
        rw [hq, if_neg (by simp)] at hstep
        have HS := Aside0.mk hstep
        have hcall : ∀ q, Calls Try.prog 34 #[.int .i64 y, .pointer (some ⟨b1, 0, none⟩), .pointer (some ⟨b2, 0, none⟩)] (w.drewN q) fun e w' => e = .returned (.bool true) ∧ Drawn0 (w.drewN q) w' :=
          fun q => (aw_closure b1 b2 y lo hi (w.drewN q) h1 h2).mono fun e w' ⟨he, hw⟩ => ⟨by rw [he, hq]; rfl, hw⟩
        clear hstep hq hxg hx1
        go_wp2_with (go_at_fn 34; refine (hcall _).mono ?_; rintro e w' ⟨rfl, ⟨nd, rfl⟩⟩)
        go_ret
        exact ⟨by rw [HS.out]; rfl, by repeat (first | exact Drawn0.refl _ | apply Drawn0.step)⟩
    · have hR1 : R = -1 := by rw [← HF.out, List.drop_eq_nil_of_le (by omega)]; rfl
      subst hR1
      go_wp2
      go_ret
      exact ⟨rfl, by repeat (first | exact Drawn0.refl _ | apply Drawn0.step)⟩

theorem aw_contains (A0 : Option Addr) (c0 : Nat) (l0 : List Int) (b1 b2 : Nat) (lo hi : Int) (w : World) (hr0 : Kd.C (Kd.int .i64) w A0 l0.length l0) (h1 : w.cell? ⟨b1, 0, none⟩ = some (.int .i64 lo)) (h2 : w.cell? ⟨b2, 0, none⟩ = some (.int .i64 hi)) :
    Calls Try.prog 33 #[.slice A0 l0.length c0, .func (.func 34) #[] #[.pointer (some ⟨b1, 0, none⟩), .pointer (some ⟨b2, 0, none⟩)]] w fun e w' => e = .returned (.bool (!(l0.all (inR lo hi)))) ∧ Drawn0 w w' := by
  rw [← firstOut_all lo hi l0]
  go_enter Try.func33, Try.ntmps33
  go_wp2_with (go_at_call 43; refine (aw_index A0 c0 l0 b1 b2 lo hi _ hr0 h1 h2).mono ?_; rintro e w' ⟨rfl, ⟨nd, rfl⟩⟩)
  go_ret
  exact ⟨rfl, by repeat (first | exact Drawn0.refl _ | apply Drawn0.step)⟩

def impl_areWithin.f (l0 : List Int) (a1 : Int) (a2 : Int) : Option (Bool) := some (l0.all (inR a1 a2))
theorem impl_areWithin.calls (A0 : Option Addr) (c0 : Nat) (l0 : List Int) (a1 : Int) (a2 : Int) (r : Bool) (w : World) (hr0 : Kd.C (Kd.int .i64) w A0 l0.length l0) (hc0 : l0.length ≤ c0) (h : impl_areWithin.f l0 a1 a2 = some r) :
    Calls Try.prog 25 #[.slice A0 l0.length c0, .int .i64 a1, .int .i64 a2] w fun e w' => e = .returned (.bool r) ∧ Below w.heap.size w w' := by
  obtain rfl := Option.some.inj h
  clear h
  have HR := Aside0.mk hr0
  clear hr0
  have hb : ∀ (o1 o2 : Obj), Kd.C (Kd.int .i64) ((w.alloc o1).alloc o2) A0 l0.length l0 := fun o1 o2 => Kd.C_below HR.out (below_alloc (below_alloc (Below.refl _ _) o1) o2)
  go_enter Try.func25, Try.ntmps25
  go_wp2_with (go_at_call 33; refine (aw_contains A0 c0 l0 w.heap.size (w.heap.size + 1) a1 a2 _ (hb _ _) ?h1 ?h2).mono ?_; (case h1 => go_simp); (case h2 => go_simp); rintro e w' ⟨rfl, ⟨nd, rfl⟩⟩)
  go_ret
  exact ⟨by simp, by repeat (first | exact Below.refl _ _ | apply pw_below_drewN | apply below_alloc)⟩

end Go.Proofs.Ytpcekncfdcofhaa.Q
