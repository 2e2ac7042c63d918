/- A contract by hand for impl.compareOf. -/
import Derived.Test.YtpcekncfdcofhaaQ0
import Derived.Test.YtpcekncfdcofhaaGCmpR
namespace Go.Proofs.Ytpcekncfdcofhaa.Q
open Go.RowKit Go.Proofs.YtpcekncfdcofhaaW.PrintWords Go.Proofs.YtpcekncfdcofhaaW.PrintLast Go.Proofs.YtpcekncfdcofhaaW.PrintMore
set_option linter.unusedVariables false
set_option linter.unusedSimpArgs false

theorem sgn_mul {k z : Int} (hk : 0 < k) : sgn (k * z) = sgn z := by
  unfold sgn
  rcases Int.lt_trichotomy z 0 with h | h | h
  · have := Int.mul_neg_of_pos_of_neg hk h
    rw [if_pos h, if_pos this]
  · subst h
    simp
  · have := Int.mul_pos hk h
    rw [if_neg (by omega), if_pos this, if_neg (by omega), if_pos h]
theorem frac_le {a g : Int} : ((a.tdiv g).natAbs : Int) ≤ (a.natAbs : Int) := by
  rw [Int.natAbs_tdiv]
  exact Int.ofNat_le.2 (Nat.div_le_self _ _)
theorem frac_size {a b : Int} (ha : -1000000000000000000 ≤ a ∧ a ≤ 1000000000000000000) (hb : 0 < b ∧ b ≤ 1000000000000000000) : (-1000000000000000000 ≤ a.tdiv (Int.gcd a b) ∧ a.tdiv (Int.gcd a b) ≤ 1000000000000000000) ∧ (0 < b.tdiv (Int.gcd a b) ∧ b.tdiv (Int.gcd a b) ≤ 1000000000000000000) := by
  have hg := gcd_bounds (a := a) hb
  have h1 := frac_le (a := a) (g := (Int.gcd a b : Int))
  have h2 := frac_le (a := b) (g := (Int.gcd a b : Int))
  have h3 : b.tdiv (Int.gcd a b) * (Int.gcd a b) = b := Int.tdiv_mul_cancel (Int.gcd_dvd_right a b)
  have h4 : 0 < b.tdiv (Int.gcd a b) := by
    rcases Int.lt_or_le 0 (b.tdiv (Int.gcd a b)) with h | h
    · exact h
    · have := Int.mul_nonpos_of_nonpos_of_nonneg h (Int.le_of_lt hg.1)
      omega
  omega
theorem frac_sgn {a b c d : Int} (hb : 0 < b ∧ b ≤ 1000000000000000000) (hd : 0 < d ∧ d ≤ 1000000000000000000) : sgn (a.tdiv (Int.gcd a b) * d.tdiv (Int.gcd c d) - c.tdiv (Int.gcd c d) * b.tdiv (Int.gcd a b)) = sgn (a * d - c * b) := by
  have g1 := (gcd_bounds (a := a) hb).1
  have g2 := (gcd_bounds (a := c) hd).1
  have h1 : a.tdiv (Int.gcd a b) * (Int.gcd a b) = a := Int.tdiv_mul_cancel (Int.gcd_dvd_left a b)
  have h2 : b.tdiv (Int.gcd a b) * (Int.gcd a b) = b := Int.tdiv_mul_cancel (Int.gcd_dvd_right a b)
  have h3 : c.tdiv (Int.gcd c d) * (Int.gcd c d) = c := Int.tdiv_mul_cancel (Int.gcd_dvd_left c d)
  have h4 : d.tdiv (Int.gcd c d) * (Int.gcd c d) = d := Int.tdiv_mul_cancel (Int.gcd_dvd_right c d)
  generalize a.tdiv (Int.gcd a b) = P at *
  generalize b.tdiv (Int.gcd a b) = Q at *
  generalize c.tdiv (Int.gcd c d) = R at *
  generalize d.tdiv (Int.gcd c d) = S at *
  generalize (Int.gcd a b : Int) = G at *
  generalize (Int.gcd c d : Int) = H at *
  have e : a * d - c * b = (G * H) * (P * S - R * Q) := by
    rw [← h1, ← h2, ← h3, ← h4, Int.mul_sub]
    have e1 : P * G * (S * H) = G * H * (P * S) := by
      rw [Int.mul_comm P G, Int.mul_comm S H, Int.mul_assoc, Int.mul_assoc, Int.mul_left_comm P H]
    have e2 : R * H * (Q * G) = G * H * (R * Q) := by
      rw [Int.mul_comm R H, Int.mul_comm Q G, Int.mul_assoc, Int.mul_left_comm R G, Int.mul_left_comm H G, ← Int.mul_assoc G H]
    rw [e1, e2]
  rw [e, sgn_mul (Int.mul_pos g1 g2)]

def impl_compareOf.f (a b c d : Int) : Option Int := if ((-1000000000000000000 ≤ a ∧ a ≤ 1000000000000000000) ∧ (0 < b ∧ b ≤ 1000000000000000000)) ∧ ((-1000000000000000000 ≤ c ∧ c ≤ 1000000000000000000) ∧ (0 < d ∧ d ≤ 1000000000000000000)) then some (sgn (a * d - c * b)) else none

set_option maxHeartbeats 8000000 in
set_option maxRecDepth 100000 in
theorem impl_compareOf.calls (a b c d r : Int) (w : World) (h : impl_compareOf.f a b c d = some r) :
    Calls Try.prog 23 #[.int .i64 a, .int .i64 b, .int .i64 c, .int .i64 d] w fun e w' => e = .returned (.int .i64 r) ∧ Below w.heap.size w w' := by
  unfold impl_compareOf.f at h
  by_cases hg : ((-1000000000000000000 ≤ a ∧ a ≤ 1000000000000000000) ∧ (0 < b ∧ b ≤ 1000000000000000000)) ∧ ((-1000000000000000000 ≤ c ∧ c ≤ 1000000000000000000) ∧ (0 < d ∧ d ≤ 1000000000000000000))
  · rw [if_pos hg] at h
    obtain rfl := Option.some.inj h
    obtain ⟨⟨ha, hb⟩, hc, hd⟩ := hg
    obtain ⟨p1, q1⟩ := frac_size ha hb
    obtain ⟨p2, q2⟩ := frac_size hc hd
    have hs := frac_sgn (a := a) (c := c) hb hd
    rw [← hs]
    have HN1 := Aside0.mk (newrat_calls a b w ha hb)
    have HN2 : Aside0 (∀ W, Calls Try.prog 30 #[.int .i64 c, .int .i64 d] W fun e w' => ∃ r, e = .returned (.pointer (some ⟨r, 0, none⟩)) ∧ Nm w'.heap.size w' r 0 (c.tdiv (Int.gcd c d)) ∧ Nm w'.heap.size w' r 2 (d.tdiv (Int.gcd c d)) ∧ Below W.heap.size W w') := ⟨fun W => newrat_calls c d W hc hd⟩
    generalize a.tdiv (Int.gcd a b) = P at p1 HN1 ⊢
    generalize b.tdiv (Int.gcd a b) = Q at q1 HN1 ⊢
    generalize c.tdiv (Int.gcd c d) = R at p2 HN2 ⊢
    generalize d.tdiv (Int.gcd c d) = S at q2 HN2 ⊢
    have HSZ : Aside0 (SZ P Q R S) := ⟨⟨p1, q1, p2, q2⟩⟩
    obtain ⟨res, hres⟩ : ∃ x, x = sgn (P * S - R * Q) := ⟨_, rfl⟩
    rw [← hres]
    have HRES := Aside0.mk hres
    clear h ha hb hc hd hs p1 q1 p2 q2 hres
    go_enter Try.func23, Try.ntmps23
    go_wp2_with (first
      | (go_at_call 30; go_loud (with_reducible refine HN1.out.mono ?_; rintro e w1 ⟨r1, rfl, h1, h2, hb⟩; have HA := Aside0.mk h1; have HB := Aside0.mk h2; have HB1 := Aside0.mk hb; clear h1 h2 hb))
      | (go_at_call 30; go_loud (with_reducible refine (HN2.out w1).mono ?_; rintro e w2 ⟨r2, rfl, h1, h2, hb⟩; have HC := Aside0.mk h1; have HD := Aside0.mk h2; have HA2 := Aside0.mk (HA.out.below hb).now; have HB2' := Aside0.mk (HB.out.below hb).now; have HB2 := Aside0.mk (below_step HB1.out hb); clear h1 h2 hb))
      | (go_at_call 31; go_loud (with_reducible refine (ratcmp_calls w2.heap.size r1 r2 P Q R S w2 ⟨HA2.out, HB2'.out, HC.out, HD.out, Below.refl _ _, Nat.le_refl _⟩ HSZ.out).mono ?_; rintro e w3 ⟨rfl, hb⟩; rw [← HRES.out]; have HB3 := Aside0.mk (below_step HB2.out hb); clear hb)))
    go_ret
    exact ⟨rfl, HB3.out⟩
  · rw [if_neg hg] at h
    cases h

end Go.Proofs.Ytpcekncfdcofhaa.Q
