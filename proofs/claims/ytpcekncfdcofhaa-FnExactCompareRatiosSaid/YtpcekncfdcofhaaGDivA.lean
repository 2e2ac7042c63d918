/- A contract by hand for impl.divMag: the easy ways. -/
import Derived.Test.YtpcekncfdcofhaaQ0
import Derived.Test.YtpcekncfdcofhaaQ6
import Derived.Test.YtpcekncfdcofhaaQ8
import Derived.Test.YtpcekncfdcofhaaGMagP
namespace Go.Proofs.Ytpcekncfdcofhaa.Q
open Go.RowKit Go.Proofs.YtpcekncfdcofhaaW.PrintWords Go.Proofs.YtpcekncfdcofhaaW.PrintLast Go.Proofs.YtpcekncfdcofhaaW.PrintMore
set_option linter.unusedVariables false
set_option linter.unusedSimpArgs false

/-- A slice value that holds these digits. -/
def Mg (W : World) (v : Value) (l : List Int) : Prop := ∃ A c, v = .slice A l.length c ∧ l.length ≤ c ∧ Kd.C (Kd.int .u32) W A l.length l
theorem Mg.below {W W1 : World} {v : Value} {l : List Int} (h : Mg W v l) (hb : Below W.heap.size W W1) : Mg W1 v l := by
  obtain ⟨A, c, e, hc, h⟩ := h
  exact ⟨A, c, e, hc, Kd.C_below h hb⟩
theorem Mg.of_R {W : World} {base : Nat} {ok : Nat → Prop} {v : Value} {l : List Int} (h : Kd.R (Kd.int .u32) 74 W base ok v l) : Mg W v l := by
  obtain ⟨A, c, e⟩ := Kd.R_slice h
  subst e
  obtain ⟨_, h2, h3⟩ := Kd.R_reads' h
  exact ⟨A, c, rfl, h2, h3⟩
theorem Mg.nil (W : World) : Mg W (.slice none 0 0) [] := ⟨none, 0, rfl, Nat.le_refl _, rfl, by decide, fun h => absurd h (by decide)⟩
def DivPost (w : World) (n m : Int) (e : Ending) (W : World) : Prop := ∃ vq vr lq lr, e = .returned (.tuple #[vq, vr]) ∧ Mg W vq lq ∧ Mg W vr lr ∧ Rep lq (n / m) ∧ Rep lr (n % m) ∧ Below w.heap.size w W
theorem K_self {w : World} (W : World) (base : Nat) (ok : Nat → Prop) (x : Int) (cs : List Value) (h : (Kd.int .u32).K w x cs) : (Kd.int .u32).M W base ok x cs := h
theorem Rep.nil : Rep [] 0 := ⟨fun d hd => (by cases hd), rfl, fun h => absurd rfl h⟩
theorem Rep.nn {l : List Int} {n : Int} (h : Rep l n) : 0 ≤ n := by rw [← h.val]; exact vl_nn h.dig

set_option maxHeartbeats 8000000 in
set_option maxRecDepth 100000 in
theorem div_less (A0 : Option Addr) (c0 : Nat) (a : List Int) (A1 : Option Addr) (c1 : Nat) (b : List Int) (n m : Int) (w : World) (hr0 : Kd.C (Kd.int .u32) w A0 a.length a) (hc0 : a.length ≤ c0) (hr1 : Kd.C (Kd.int .u32) w A1 b.length b) (hc1 : b.length ≤ c1)
    (ha : Rep a n) (hb : Rep b m) (h64 : a.length ≤ 64 ∧ b.length ≤ 64) (hlt : n < m) :
    Calls Try.prog 74 #[.slice A0 a.length c0, .slice A1 b.length c1] w (DivPost w n m) := by
  have hu52 := Try.underlying52
  obtain ⟨r, h1, h2, h3, h4⟩ := cmp_eq ha hb h64.1 h64.2
  have hd : decide (r < 0) = true := decide_eq_true (h2.2 hlt)
  have e1 : n / m = 0 := Int.ediv_eq_zero_of_lt ha.nn hlt
  have e2 : n % m = n := Int.emod_eq_of_lt ha.nn hlt
  obtain ⟨F, hF⟩ : ∃ F : Ending → World → Prop, F = DivPost w n m := ⟨_, rfl⟩
  rw [← hF]
  have HF := Aside0.mk hF
  have HE1 := Aside0.mk e1
  have HE2 := Aside0.mk e2
  have HR := Aside0.mk h1
  have HA := Aside0.mk ha
  have HR0 := Aside0.mk hr0
  have HC0 := Aside0.mk hc0
  have HR1 := Aside0.mk hr1
  have HC1 := Aside0.mk hc1
  have HL := Aside0.mk h64
  clear hF e1 e2 h1 h2 h3 h4 ha hb hr0 hc0 hr1 hc1 hlt h64
  go_enter Try.func74, Try.ntmps74
  go_wp2_with (first
    | (go_at_call 63; go_loud (refine (impl_cmpMag.calls 100 A0 c0 a A1 c1 b r _ HR0.out HC0.out HR1.out HC1.out HR.out).mono ?_; rintro e w1 ⟨rfl, hw1⟩; have HB1 : Aside0 (Below w.heap.size w w1) := ⟨by first | exact hw1 | (obtain ⟨nd, rfl⟩ := hw1; exact pw_below_drewN (Below.refl _ _) nd)⟩; clear hw1))
    | ((with_reducible refine gate_dst (N := 25) rfl ?_); go_loud (refine Kd.R_lit (Kd.int .u32) (w0 := w) w.heap.size 74 ?hg (N := 25) ?hd (xs := ([] : List Int)) (inner := []) (ok := fun _ => True) (okp := fun _ => True) ?hr ?hp (fun _ hk => hk) trivial HB1.out HB1.out.size (by simp) ?_; (case hd => rfl); (case hg => rfl); (case hr => first | (go_simp; done) | (go_simp; rfl)); (case hp => exact (Reps.none _ _)); intro v25 w3 ho3 hb3 hg_ hnew_; clear hg_ hnew_; have HO3 := Aside0.mk ho3; have HB3 := Aside0.mk hb3; clear ho3 hb3))
    | ((with_reducible refine gate_builtin (b := .append) (xs := #[.tmp 25, .tmp 26]) rfl ?_); at_builtin; go_loud (refine Kd.R_append_rows (Kd.int .u32) (Rr := (Kd.int .u32).K w) (w0 := w) w.heap.size rfl (.tmp 25) (.tmp 26) 52 74 (.int .u32 0) 4 rfl hu52 info74 rfl (by decide) (by omega) v25 ([] : List Int) a A0 a.length c0 (fun _ => True) (fun _ => False) rfl rfl ?aO ?aR ?aM (fun _ hk => hk.elim) ?aF ?aB ?aS ?aL ?_; (case aO => exact HO3.out); (case aR => exact ReadsRow.imp_ HR0.out HB3.out (fun _ _ hp => hp)); (case aM => exact fun x cs hx => K_self _ _ _ x cs hx); (case aF => exact fun _ _ => trivial); (case aB => exact HB3.out); (case aS => exact HB3.out.size); (case aL => have := HL.out; simp; omega); intro v27 w4 ho hb hg hat; rw [List.nil_append] at ho; have HO4 := Aside0.mk ho; have HB4 := Aside0.mk hb; clear ho hb hg hat)))
  try go_ret2
  rw [HF.out]
  exact ⟨_, _, [], a, rfl, Mg.nil _, Mg.of_R HO4.out, by rw [HE1.out]; exact Rep.nil, by rw [HE2.out]; exact HA.out, HB4.out⟩

set_option maxHeartbeats 8000000 in
set_option maxRecDepth 100000 in
theorem div_one (A0 : Option Addr) (c0 : Nat) (a : List Int) (A1 : Option Addr) (c1 : Nat) (b0 : Int) (n : Int) (w : World) (hr0 : Kd.C (Kd.int .u32) w A0 a.length a) (hc0 : a.length ≤ c0) (hr1 : Kd.C (Kd.int .u32) w A1 1 [b0]) (hc1 : 1 ≤ c1)
    (ha : Rep a n) (hb : Rep [b0] b0) (h64 : a.length ≤ 64) (hle : ¬ n < b0) :
    Calls Try.prog 74 #[.slice A0 a.length c0, .slice A1 1 c1] w (DivPost w n b0) := by
  have hu52 := Try.underlying52
  obtain ⟨r, h1, h2, h3, h4⟩ := cmp_eq ha hb h64 (by simp)
  have hd : decide (r < 0) = false := decide_eq_false (fun h => hle (h2.1 h))
  have hb0 := hb.dig b0 (by simp)
  have hb1 : b0 ≠ 0 := hb.last (by simp)
  obtain ⟨q, s1, s2, s3, s4⟩ := short_eq a b0 ha.dig h64 (by omega)
  rw [ha.val] at s1 s3
  have hrm0 := Int.emod_nonneg n hb1
  have hrm1 := Int.emod_lt_of_pos n (show 0 < b0 by omega)
  obtain ⟨ad, eA, hx⟩ := Kd.at_int hr1 0 (by omega) (by omega)
  cases eA
  have hx0 : w.cell? ad = some (.int .u32 b0) := by
    have e : ad.add (0 : Int).toNat = ad := by simp [Addr.add]
    rw [e] at hx
    simpa [rd] using hx
  obtain ⟨F, hF⟩ : ∃ F : Ending → World → Prop, F = DivPost w n b0 := ⟨_, rfl⟩
  rw [← hF]
  have HF := Aside0.mk hF
  have HQ : Aside0 (Rep (trim q) (n / b0)) := ⟨by rw [← s3]; exact trim_rep s2⟩
  have HT : Aside0 (Rep (trim [n % b0]) (n % b0)) := ⟨by
    have := trim_rep (l := [n % b0]) (D32.cons.2 ⟨by omega, fun d hd => by cases hd⟩)
    simpa [vl] using this⟩
  have HR := Aside0.mk h1
  have HS := Aside0.mk s1
  have HR0 := Aside0.mk hr0
  have HC0 := Aside0.mk hc0
  have HR1 := Aside0.mk hr1
  have HC1 := Aside0.mk hc1
  have HX := Aside0.mk hx0
  generalize hrm : n % b0 = rm at HS HT
  have HRM := Aside0.mk hrm
  clear hrm
  clear hF h1 h2 h3 h4 ha hb hr0 hc0 hr1 hc1 hle h64 s1 s2 s3 s4 hrm0 hrm1 hx hx0 hb0 hb1
  go_enter Try.func74, Try.ntmps74
  go_wp2_with (first
    | (go_at_call 63; go_loud (refine (impl_cmpMag.calls 100 A0 c0 a (some ad) c1 [b0] r _ HR0.out HC0.out HR1.out HC1.out HR.out).mono ?_; rintro e w1 ⟨rfl, hw1⟩; have HB1 : Aside0 (Below w.heap.size w w1) := ⟨by first | exact hw1 | (obtain ⟨nd, rfl⟩ := hw1; exact pw_below_drewN (Below.refl _ _) nd)⟩; clear hw1; have hz0 : w1.cell? ad = some (.int .u32 b0) := (HB1.out.cell (World.block_lt_of_cell? w _ HX.out)).trans HX.out))
    | (go_at_call 75; go_loud (refine (impl_shortMag.calls 100 A0 c0 a b0 (trim q) rm _ (Kd.C_below HR0.out HB1.out) HC0.out HS.out).mono ?_; rintro e w2 ⟨v36, rfl, ho, hb2⟩; have HO2 := Aside0.mk ho; have HB2 := Aside0.mk (below_step HB1.out hb2); clear ho hb2))
    | ((with_reducible refine gate_dst (N := 41) rfl ?_); go_loud (refine Kd.R_lit (Kd.int .u32) (w0 := w2) w2.heap.size 74 ?hg (N := 41) ?hd (xs := [rm]) (inner := [.int .u32 rm]) (ok := fun _ => True) (okp := fun _ => False) ?hr ?hp (fun _ hk => hk.elim) trivial (Below.refl _ _) (Nat.le_refl _) (by simp) ?_; (case hd => rfl); (case hg => rfl); (case hr => first | (go_simp; done) | (go_simp; rfl)); (case hp => exact Kd.reps_scalar [rm]); intro v41 w3 ho3 hb3 hg_ hnew_; clear hg_ hnew_; obtain ⟨A41, c41, e41⟩ := Kd.R_slice ho3; subst e41; have HO3 := Aside0.mk ho3; have HB3 := Aside0.mk (below_step HB2.out hb3); have HQ3 := Aside0.mk (Kd.R_below HO2.out hb3); clear ho3 hb3))
    | (go_at_call 72; go_loud (refine (impl_trimmed.calls A41 c41 [rm] (trim [rm]) _ (Kd.R_reads' HO3.out).2.2 (Kd.R_reads' HO3.out).2.1 rfl).mono ?_; rintro e w4 ⟨v42, rfl, ho, hb⟩; have HO4 := Aside0.mk (R_trim (Kd.R_below HO3.out hb) ho); have HQ4 := Aside0.mk (Kd.R_below HQ3.out hb); have HB4 := Aside0.mk (below_step HB3.out hb); clear ho hb)))
  try go_ret2
  rw [HF.out]
  exact ⟨_, _, trim q, trim [rm], rfl, Mg.of_R HQ4.out, Mg.of_R HO4.out, HQ.out, by rw [HRM.out]; exact HT.out, HB4.out⟩

end Go.Proofs.Ytpcekncfdcofhaa.Q
