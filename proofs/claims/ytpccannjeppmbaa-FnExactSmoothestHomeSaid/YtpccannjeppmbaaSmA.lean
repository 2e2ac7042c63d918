/- impl.smooth: the plan of so many rings, whatever the table knows. -/
import Derived.Test.YtpccannjeppmbaaSmW1
import Derived.Test.YtpccannjeppmbaaSmW2
namespace Go.Proofs.Ytpccannjeppmbaa.Q
open Go.RowKit Go.Maps Go.Proofs.YtpccannjeppmbaaW.PrintWords Go.Proofs.YtpccannjeppmbaaW.PrintLast Go.Proofs.YtpccannjeppmbaaW.PrintMore
set_option linter.unusedVariables false
set_option linter.unusedSimpArgs false

theorem smooth_all (a b : Int) (ha : 1 ≤ a ∧ a ≤ 3) (hb : 1 ≤ b ∧ b ≤ 6) (w0 : World) (gm : Nat) : ∀ (k : Nat), k ≤ 8 → ∀ c, insS a c = true → ∀ n W, n + cnt k ≤ 4000000 → MemoE a b w0.heap.size gm n W → Below w0.heap.size w0 W →
    Calls Try.prog 18 #[.agg #[.int .i64 a, .int .i64 b], .agg #[.int .i64 c.f0, .int .i64 c.f1, .int .i64 c.f2], .int .i64 (k : Int), .map (some gm)] W (SmPost w0 a b gm (n + cnt k) (smP a b k c) W)
  | 0, _, c, hc, n, W, hn, hm, hB => by
    refine (smooth0 a b c gm W).mono ?_
    rintro e w' ⟨rfl, hb'⟩
    obtain ⟨G, H, hm⟩ := hm
    exact ⟨none, 0, rfl, Kd.R_nil _ _ _ _ _, ⟨n, Nat.le_add_right _ _, G, H, hm.below hb'⟩, Kept.of_below hb' _, below_then hB hB.size hb'⟩
  | k + 1, hk, c, hc, n, W, hn, hm, hB => by
    obtain ⟨G, H, hm⟩ := hm
    have e1 : ((k + 1 : Nat) : Int).toNat = k + 1 := Int.toNat_natCast _
    have e2 : ((k : Nat) : Int).toNat = k := Int.toNat_natCast _
    by_cases hh : ∃ g v, G c = some g ∧ H c ((k + 1 : Nat) : Int) = some v
    · obtain ⟨g, v, hG, hv⟩ := hh
      obtain ⟨sl, ev, hr⟩ := hm.ans c g _ v hG hv
      rw [e1] at ev hr
      obtain ⟨A, cp, es⟩ := Kd.R_slice hr
      subst es
      subst ev
      refine (smooth_hit a b ha _ (by omega) c hc _ gm n W G H hm g hG _ A _ cp _ hv).mono ?_
      rintro e w' ⟨rfl, hb'⟩
      exact ⟨A, cp, rfl, Kd.R_below hr hb', ⟨n, Nat.le_add_right _ _, G, H, hm.below hb'⟩, Kept.of_below hb' _, below_then hB hB.size hb'⟩
    · have hmiss : ∀ g, G c = some g → H c ((k + 1 : Nat) : Int) = none := fun g hg => by
        cases hv : H c ((k + 1 : Nat) : Int) with
        | none => rfl
        | some v => exact absurd ⟨g, v, hg, hv⟩ hh
      have hcn : cnt (k + 1) = 7 * cnt k + 2 := rfl
      rw [hcn] at hn ⊢
      refine smooth_miss a b ha hb w0 gm (cnt k) ((k + 1 : Nat) : Int) (k : Int) (by omega) (by omega) (smP a b k) (by rw [e2]; exact fun d hd => smP_fair ha k d hd) ?_ c hc (by rw [e1]; rfl) n hn W hB G H hm hmiss
      exact fun d hd n' W' hn' hm' hB' => smooth_all a b ha hb w0 gm k (by omega) d hd n' W' hn' hm' hB'

end Go.Proofs.Ytpccannjeppmbaa.Q
