/- A machine can be pushed with the bends of its range, and with no others; a push leaves the tube where it is, and a valid machine. -/
import Derived.Test.YthlbcjoogcanmaaQ0
import Derived.Test.YthlbcjoogcanmaaQ17
import Derived.Test.YthlbcjoogcanmaaQ25
import Derived.Test.YthlbcjoogcanmaaQ26
import Derived.Test.YthlbcjoogcanmaaQ41
import Derived.Test.YthlbcjoogcanmaaPDraw
import Derived.Test.YthlbcjoogcanmaaPIPush
namespace Go.Proofs.Ythlbcjoogcanmaa.Pure
open Go.RowKit Go.Proofs.Ythlbcjoogcanmaa.Q Go.Proofs.YthlbcjoogcanmaaW.PrintWords Go.Proofs.YthlbcjoogcanmaaW.PrintLast
set_option linter.unusedVariables false
set_option linter.unusedSimpArgs false

section
variable (a0 a1 a2 a3 a4 a5 a6 a7 a8 : Int)
theorem mach_parts (h : machB a0 a1 a2 a3 a4 a5 a6 a7 a8 = true) : poseB a0 a1 a2 a3 = true ∧ poseB a4 a5 a6 a7 = true ∧ (0 ≤ a8 ∧ a8 ≤ 2400) := by
  unfold machB at h
  simp only [Bool.and_eq_true] at h
  exact ⟨h.1, h.2.1, inR_iff h.2.2.1⟩
def okB (b : Int) : Bool := turnB b 0 && machB (wrap64 (a0 + a2)) (wrap64 (a1 + a3)) (wrap64 (a2 + b)) (wrap64 (a3 + 0)) a4 a5 a6 a7 (wrap64 (a8 + 1500))
def OkP (b : Int) : Prop := (-12 ≤ b ∧ b ≤ 12) ∧ (-400 ≤ a2 + b ∧ a2 + b ≤ 400) ∧
  (0 ≤ 40 - (a4 - (a0 + a2) + 2 * (a2 + b)) ∧ 0 ≤ 40 + (a4 - (a0 + a2) + 2 * (a2 + b))) ∧
  ((0 ≤ a8 + 1500 - 2 * (a2 + b - a6) ∧ a8 + 1500 - 2 * (a2 + b - a6) ≤ 2400) ∧ (0 ≤ a8 + 1500 + 2 * (a2 + b - a6) ∧ a8 + 1500 + 2 * (a2 + b - a6) ≤ 2400)) ∧
  ((-100000 ≤ a0 + a2 ∧ a0 + a2 ≤ 100000) ∧ (-100000 ≤ a1 + a3 ∧ a1 + a3 ≤ 100000) ∧ (0 ≤ a8 + 1500 ∧ a8 + 1500 ≤ 2400) ∧
    (0 ≤ 40 - (a5 - (a1 + a3) + 2 * a3) ∧ 0 ≤ 40 + (a5 - (a1 + a3) + 2 * a3)) ∧
    ((0 ≤ a8 + 1500 - 2 * (a3 - a7) ∧ a8 + 1500 - 2 * (a3 - a7) ≤ 2400) ∧ (0 ≤ a8 + 1500 + 2 * (a3 - a7) ∧ a8 + 1500 + 2 * (a3 - a7) ≤ 2400)))
theorem ok_iff (h : machB a0 a1 a2 a3 a4 a5 a6 a7 a8 = true) (b : Int) (hb : -13 ≤ b ∧ b ≤ 13) : okB a0 a1 a2 a3 a4 a5 a6 a7 a8 b = true ↔ OkP a0 a1 a2 a3 a4 a5 a6 a7 a8 b := by
  obtain ⟨h1, h2, h3⟩ := mach_parts a0 a1 a2 a3 a4 a5 a6 a7 a8 h
  have p1 := poseB_iff h1
  have p2 := poseB_iff h2
  have e1 : wrap64 (a0 + a2) = a0 + a2 := w64 (by omega)
  have e2 : wrap64 (a1 + a3) = a1 + a3 := w64 (by omega)
  have e3 : wrap64 (a2 + b) = a2 + b := w64 (by omega)
  have e4 : wrap64 (a3 + 0) = a3 := by rw [w64 (by omega)]; omega
  have e5 : wrap64 (a8 + 1500) = a8 + 1500 := w64 (by omega)
  have o1 : offS a4 (a0 + a2) (a2 + b) = a4 - (a0 + a2) + 2 * (a2 + b) := by
    unfold offS
    rw [w64 (x := a4 - (a0 + a2)) (by omega), w64 (x := 2 * (a2 + b)) (by omega), w64 (by omega)]
  have o2 : offS a5 (a1 + a3) a3 = a5 - (a1 + a3) + 2 * a3 := by
    unfold offS
    rw [w64 (x := a5 - (a1 + a3)) (by omega), w64 (x := 2 * a3) (by omega), w64 (by omega)]
  have g1 : gapsL (a0 + a2) (a1 + a3) (a2 + b) a3 a4 a5 a6 a7 (a8 + 1500) = [40 - (a4 - (a0 + a2) + 2 * (a2 + b)), 40 - (a5 - (a1 + a3) + 2 * a3), 40 + (a4 - (a0 + a2) + 2 * (a2 + b)), 40 + (a5 - (a1 + a3) + 2 * a3)] := by
    unfold gapsL
    rw [o1, o2, w64 (by omega), w64 (by omega), w64 (by omega), w64 (by omega)]
  have s1 : strokesL (a0 + a2) (a1 + a3) (a2 + b) a3 a4 a5 a6 a7 (a8 + 1500) = [a8 + 1500 - 2 * (a2 + b - a6), a8 + 1500 - 2 * (a3 - a7), a8 + 1500 + 2 * (a2 + b - a6), a8 + 1500 + 2 * (a3 - a7)] := by
    unfold strokesL
    rw [w64 (x := a2 + b - a6) (by omega), w64 (x := a3 - a7) (by omega), w64 (x := 2 * (a2 + b - a6)) (by omega), w64 (x := 2 * (a3 - a7)) (by omega), w64 (by omega), w64 (by omega), w64 (by omega), w64 (by omega)]
  unfold okB machB
  rw [e1, e2, e3, e4, e5, g1, s1, h2]
  unfold turnB poseB inR OkP pos
  simp only [List.all_cons, List.all_nil, Bool.and_true, Bool.and_eq_true, decide_eq_true_eq, true_and]
  clear g1 s1 o1 o2 e1 e2 e3 e4 e5 h1 h2 h
  constructor
  · intro q
    omega
  · intro q
    omega
theorem ok_mid (h : machB a0 a1 a2 a3 a4 a5 a6 a7 a8 = true) (x y z : Int) (hx : okB a0 a1 a2 a3 a4 a5 a6 a7 a8 x = true) (hz : okB a0 a1 a2 a3 a4 a5 a6 a7 a8 z = true) (b0 : -12 ≤ x) (b1 : z ≤ 12) (h1 : x ≤ y) (h2 : y ≤ z) : okB a0 a1 a2 a3 a4 a5 a6 a7 a8 y = true := by
  rw [ok_iff a0 a1 a2 a3 a4 a5 a6 a7 a8 h _ (by omega)] at hx hz ⊢
  unfold OkP at hx hz ⊢
  omega
theorem ok_far (b : Int) (hb : b < -12 ∨ 12 < b) : okB a0 a1 a2 a3 a4 a5 a6 a7 a8 b = false := by
  unfold okB turnB inR
  rcases hb with hb | hb
  · rw [decide_eq_false (show ¬ (-12 ≤ b) by omega)]; rfl
  · rw [decide_eq_false (show ¬ (b ≤ 12) by omega)]; simp
theorem push_ok (b : Int) (h : okB a0 a1 a2 a3 a4 a5 a6 a7 a8 b = true) : pushT a0 a1 a2 a3 a4 a5 a6 a7 a8 b 0 = (wrap64 (a0 + a2), wrap64 (a1 + a3), wrap64 (a2 + b), wrap64 (a3 + 0), a4, a5, a6, a7, wrap64 (a8 + 1500), true) ∧
    machB (wrap64 (a0 + a2)) (wrap64 (a1 + a3)) (wrap64 (a2 + b)) (wrap64 (a3 + 0)) a4 a5 a6 a7 (wrap64 (a8 + 1500)) = true :=
  ⟨if_pos h, (Bool.and_eq_true_iff.1 h).2⟩
theorem push_no (b : Int) (h : okB a0 a1 a2 a3 a4 a5 a6 a7 a8 b = false) : pushT a0 a1 a2 a3 a4 a5 a6 a7 a8 b 0 = (0, 0, 0, 0, 0, 0, 0, 0, 0, false) := by
  unfold okB at h
  unfold pushT
  rw [h]
  rfl

/-- What the search for the range keeps. -/
def Kept (low high bend : Int) (any : Bool) : Prop :=
  (any = false → ∀ b, b < bend → okB a0 a1 a2 a3 a4 a5 a6 a7 a8 b = false) ∧ (any = true → okB a0 a1 a2 a3 a4 a5 a6 a7 a8 low = true ∧ okB a0 a1 a2 a3 a4 a5 a6 a7 a8 high = true ∧ (-12 ≤ low ∧ low < bend ∧ high < bend) ∧ high ≤ 12 ∧ ∀ b, b < bend → okB a0 a1 a2 a3 a4 a5 a6 a7 a8 b = true → low ≤ b ∧ b ≤ high)
theorem range_keeps (h : machB a0 a1 a2 a3 a4 a5 a6 a7 a8 = true) (d : Nat) : ∀ (k : Nat) (low high bend : Int) (any : Bool), -12 ≤ bend → bend ≤ 13 → 13 - bend = d → d + 2 ≤ k → Kept a0 a1 a2 a3 a4 a5 a6 a7 a8 low high bend any →
    ∃ low' high' any', impl_PushRange.l0 k low high any bend a0 a1 a2 a3 a4 a5 a6 a7 a8 = some (low', high', any') ∧ Kept a0 a1 a2 a3 a4 a5 a6 a7 a8 low' high' 13 any' := by
  induction d with
  | zero =>
    intro k low high bend any h0 h1 hd hk hK
    obtain ⟨k, rfl⟩ : ∃ m, k = m + 1 := ⟨k - 1, by omega⟩
    obtain rfl : bend = 13 := by omega
    exact ⟨low, high, any, by rw [impl_PushRange.l0, if_neg (by omega)], hK⟩
  | succ d ih =>
    intro k low high bend any h0 h1 hd hk hK
    obtain ⟨k, rfl⟩ : ∃ m, k = m + 2 := ⟨k - 2, by omega⟩
    obtain ⟨K1, K2⟩ := hK
    have c : bend ≤ 12 := by omega
    rw [impl_PushRange.l0, if_pos c, ipush_eq, h]
    simp only [Option.bind_some, if_true]
    rw [w64 (x := bend + 1) (by omega)]
    cases ho : okB a0 a1 a2 a3 a4 a5 a6 a7 a8 bend with
    | true =>
      rw [(push_ok a0 a1 a2 a3 a4 a5 a6 a7 a8 bend ho).1]
      simp only [if_true]
      cases any with
      | true =>
        obtain ⟨q1, q2, q3, q4, q5⟩ := K2 rfl
        simp only [if_true]
        refine ih (k + 1) low bend (bend + 1) true (by omega) (by omega) (by omega) (by omega) ⟨fun x => by simp at x, fun _ => ⟨q1, ho, by omega, c, fun b hb hob => ?_⟩⟩
        by_cases hbb : b = bend
        · subst hbb
          exact ⟨by omega, Int.le_refl _⟩
        · have := q5 b (by omega) hob
          exact ⟨this.1, by omega⟩
      | false =>
        simp only [Bool.false_eq_true, if_false]
        refine ih (k + 1) bend bend (bend + 1) true (by omega) (by omega) (by omega) (by omega) ⟨fun x => by simp at x, fun _ => ⟨ho, ho, by omega, c, fun b hb hob => ?_⟩⟩
        by_cases hbb : b = bend
        · subst hbb; exact ⟨Int.le_refl _, Int.le_refl _⟩
        · have := K1 rfl b (by omega)
          rw [this] at hob
          simp at hob
    | false =>
      rw [push_no a0 a1 a2 a3 a4 a5 a6 a7 a8 bend ho]
      simp only [Bool.false_eq_true, if_false]
      refine ih (k + 1) low high (bend + 1) any (by omega) (by omega) (by omega) (by omega) ⟨fun x b hb => ?_, fun x => ?_⟩
      · by_cases hbb : b = bend
        · subst hbb; exact ho
        · exact K1 x b (by omega)
      · obtain ⟨q1, q2, q3, q4, q5⟩ := K2 x
        refine ⟨q1, q2, by omega, q4, fun b hb hob => ?_⟩
        by_cases hbb : b = bend
        · subst hbb; rw [ho] at hob; simp at hob
        · exact q5 b (by omega) hob

theorem pushed_all (h : machB a0 a1 a2 a3 a4 a5 a6 a7 a8 = true) (low high : Int) (any : Bool) (hK : Kept a0 a1 a2 a3 a4 a5 a6 a7 a8 low high 13 any) (d : Nat) : ∀ (k : Nat) (bend : Int), -13 ≤ bend → bend ≤ 14 → 14 - bend = d → 2 * d + 4 ≤ k →
    laws_FnPushed.l0 k low high any bend a0 a1 a2 a3 a4 a5 a6 a7 a8 = some true := by
  induction d with
  | zero =>
    intro k bend h0 h1 hd hk
    obtain ⟨k, rfl⟩ : ∃ m, k = m + 1 := ⟨k - 1, by omega⟩
    rw [laws_FnPushed.l0, if_neg (by omega), imach_eq, h]
    rfl
  | succ d ih =>
    intro k bend h0 h1 hd hk
    obtain ⟨k, rfl⟩ : ∃ m, k = m + 3 := ⟨k - 3, by omega⟩
    have c : bend ≤ 13 := by omega
    have hih := ih (k + 1) (bend + 1) (by omega) (by omega) (by omega) (by omega)
    rw [laws_FnPushed.l0, if_pos c, ipush_eq, h]
    simp only [Option.bind_some, if_true]
    cases ho : okB a0 a1 a2 a3 a4 a5 a6 a7 a8 bend with
    | true =>
      obtain ⟨e, hv⟩ := push_ok a0 a1 a2 a3 a4 a5 a6 a7 a8 bend ho
      have hany : any = true := by
        cases any with
        | true => rfl
        | false =>
          have hb13 : bend < 13 := by
            by_cases hc : bend < 13
            · exact hc
            · have := ok_far a0 a1 a2 a3 a4 a5 a6 a7 a8 bend (by omega)
              rw [this] at ho
              simp at ho
          have := hK.1 rfl bend hb13
          rw [this] at ho
          simp at ho
      obtain ⟨q1, q2, q3, q4, q5⟩ := hK.2 hany
      have hb12 : -12 ≤ bend ∧ bend ≤ 12 := by
        by_cases hc : bend < -12 ∨ 12 < bend
        · have := ok_far a0 a1 a2 a3 a4 a5 a6 a7 a8 bend hc
          rw [this] at ho
          simp at ho
        · omega
      obtain ⟨r1, r2⟩ := q5 bend (by omega) ho
      subst hany
      rw [e]
      simp only [if_true, if_pos r1, decide_eq_true r2, bne_self_eq_false]
      rw [laws_FnPushed.j1]
      simp only [Bool.false_eq_true, if_false, if_true, imach_eq, hv, Option.bind_some, beq_self_eq_true, Bool.not_true, Bool.or_self]
      rw [w64 (x := bend + 1) (by omega)]
      exact hih
    | false =>
      rw [push_no a0 a1 a2 a3 a4 a5 a6 a7 a8 bend ho]
      have hz : (if any = true then (if low ≤ bend then (laws_FnPushed.j1 (k + 2) low high any bend false (false != (decide (bend ≤ high))) a0 a1 a2 a3 a4 a5 a6 a7 a8 0 0 0 0 0 0 0 0 0) else (laws_FnPushed.j1 (k + 2) low high any bend false (false != false) a0 a1 a2 a3 a4 a5 a6 a7 a8 0 0 0 0 0 0 0 0 0)) else (laws_FnPushed.j1 (k + 2) low high any bend false (false != false) a0 a1 a2 a3 a4 a5 a6 a7 a8 0 0 0 0 0 0 0 0 0)) = laws_FnPushed.j1 (k + 2) low high any bend false false a0 a1 a2 a3 a4 a5 a6 a7 a8 0 0 0 0 0 0 0 0 0 := by
        by_cases hany : any = true
        · obtain ⟨q1, q2, q3, q4, q5⟩ := hK.2 hany
          rw [if_pos hany]
          by_cases hl : low ≤ bend
          · rw [if_pos hl]
            have hh : ¬ (bend ≤ high) := by
              intro hh
              have := ok_mid a0 a1 a2 a3 a4 a5 a6 a7 a8 h low bend high q1 q2 q3.1 q4 hl hh
              rw [this] at ho
              simp at ho
            rw [decide_eq_false hh]
            rfl
          · rw [if_neg hl]; rfl
        · rw [if_neg hany]; rfl
      refine Eq.trans hz ?_
      rw [laws_FnPushed.j1]
      simp only [Bool.false_eq_true, if_false]
      rw [w64 (x := bend + 1) (by omega)]
      exact hih
end

theorem FnPushed (l0 l1 : List Int) (hm0 : l0.length ≤ 9223372036854775807) (hw0 : ∀ z ∈ l0, (Lit.int .u8 z).wf = true) (hm1 : l1.length ≤ 9223372036854775807) (hw1 : ∀ z ∈ l1, (Lit.int .u8 z).wf = true) : ∃ k, laws_FnPushed.f k l0 l1 = some true := by
  refine ⟨100, ?_⟩
  unfold laws_FnPushed.f laws_r8Long.f
  by_cases hs : (l0.length : Int) > 48
  · rw [if_pos hs]; rfl
  · rw [if_neg hs]
    simp only [Option.bind_some]
    by_cases hs1 : (l1.length : Int) > 48
    · rw [decide_eq_true hs1]; rfl
    · rw [decide_eq_false hs1, if_neg (by simp)]
      have hb : Bytes l0 := ⟨by omega, fun z hz => by
        have := hw0 z hz
        have m0 : IntKind.u8.min = 0 := rfl
        have m1 : IntKind.u8.max = 255 := rfl
        simp only [Lit.wf, m0, m1, Bool.and_eq_true, decide_eq_true_eq] at this
        omega⟩
      obtain ⟨a0, a1, a2, a3, a4, a5, a6, a7, a8, e, hv⟩ := machine_drawn hb 92
      have e0 : spec_R8Machine.f 100 l0 = some (a0, a1, a2, a3, a4, a5, a6, a7, a8) := e
      have hfirst : Kept a0 a1 a2 a3 a4 a5 a6 a7 a8 0 0 (-12) false := ⟨fun _ b hb => ok_far a0 a1 a2 a3 a4 a5 a6 a7 a8 b (Or.inl hb), fun x => by simp at x⟩
      obtain ⟨low, high, any, r1, r2⟩ := range_keeps a0 a1 a2 a3 a4 a5 a6 a7 a8 hv 25 100 0 0 (-12) false (by omega) (by omega) (by omega) (by omega) hfirst
      rw [e0]
      unfold impl_PushRange.f
      simp only [Option.bind_some, r1]
      exact pushed_all a0 a1 a2 a3 a4 a5 a6 a7 a8 hv low high any r2 27 100 (-13) (by omega) (by omega) (by omega) (by omega)

end Go.Proofs.Ythlbcjoogcanmaa.Pure
