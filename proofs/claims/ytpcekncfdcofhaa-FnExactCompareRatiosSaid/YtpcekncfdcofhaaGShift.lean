/- A contract by hand for impl.shiftMag. -/
import Derived.Test.YtpcekncfdcofhaaQ0
import Derived.Test.YtpcekncfdcofhaaGTrim
import Derived.Test.YtpcekncfdcofhaaGTake
import Derived.Laws.BitsLemmas
namespace Go.Proofs.Ytpcekncfdcofhaa.Q
open Go.RowKit Go.Proofs.YtpcekncfdcofhaaW.PrintWords Go.Proofs.YtpcekncfdcofhaaW.PrintLast Go.Proofs.YtpcekncfdcofhaaW.PrintMore
set_option linter.unusedVariables false
set_option linter.unusedSimpArgs false

theorem bits_or_comm (k : IntKind) (a b : Int) : bits .or k a b = bits .or k b a := by
  show k.wrap _ = k.wrap _
  simp only [BitVec.or_comm]
/-- A small number beside a multiple: 'or' is the sum. -/
theorem or_sum {x y : Int} (i : Nat) (hx0 : 0 ≤ x) (hx : x % 2 ^ i = 0) (hx1 : x < 18446744073709551616) (hy0 : 0 ≤ y) (hy : y < 2 ^ i) (hy1 : y < 18446744073709551616) : bits .or .u64 x y = x + y :=
  bits_join .u64 64 (by decide) (fun n h0 h1 => by rw [IntKind.wrap_u64]; omega) i x y hx0 hx hx1 hy0 hy hy1

/-- Digits times a power of two, and a carry. -/
def sh (p : Int) : List Int → Int → List Int
  | [], c => [c]
  | x :: xs, c => ((c + x * p) % 4294967296) :: sh p xs ((c + x * p) / 4294967296)
theorem sh_step {p x c : Int} (hp : 1 ≤ p ∧ p ≤ 2147483648) (hx : 0 ≤ x ∧ x ≤ 4294967295) (hc : 0 ≤ c ∧ c < p) : (0 ≤ x * p ∧ x * p ≤ 9223372034707292160) ∧ 0 ≤ (c + x * p) / 4294967296 ∧ (c + x * p) / 4294967296 < p := by
  have h1 := mul_le hx (⟨by omega, hp.2⟩ : 0 ≤ p ∧ p ≤ 2147483648) (by omega)
  have h2 : x * p ≤ 4294967295 * p := Int.mul_le_mul_of_nonneg_right hx.2 (by omega)
  refine ⟨by omega, by omega, ?_⟩
  have : (c + x * p) / 4294967296 ≤ (p - 1 + 4294967295 * p) / 4294967296 := Int.ediv_le_ediv (by omega) (by omega)
  omega
theorem sh_ok (p : Int) (hp : 1 ≤ p ∧ p ≤ 2147483648) : ∀ (l : List Int) (c : Int), D32 l → (0 ≤ c ∧ c < p) → D32 (sh p l c) ∧ vl (sh p l c) = c + vl l * p ∧ (sh p l c).length = l.length + 1
  | [], c, _, hc => ⟨D32.cons.2 ⟨by omega, fun d hd => by cases hd⟩, by simp [sh, vl], rfl⟩
  | x :: xs, c, h, hc => by
    obtain ⟨h1, h2⟩ := D32.cons.1 h
    obtain ⟨s1, s2⟩ := sh_step hp h1 hc
    obtain ⟨i1, i2, i3⟩ := sh_ok p hp xs ((c + x * p) / 4294967296) h2 s2
    refine ⟨D32.cons.2 ⟨by omega, i1⟩, ?_, by rw [sh, List.length_cons, i3]; rfl⟩
    rw [sh, vl, i2, vl, Int.add_mul, Int.mul_add, Int.mul_assoc]
    omega

section
variable {P : Program} {ops : Array Oper} {rest : List Oper} {o : Oper} {a : Act} {Q : Exit → Act → World → Prop}
theorem R_make0 {w0 W : World} (base e : Nat) (hgd : o.guard = none) (t : TypeId) (x y : Operand) (ho : o.op = .makeSlice t x y) (n : Nat) (hx : a.eval x = .int .i64 0) (hy : a.eval y = .int .i64 n)
    (ht : P.underlying t = some (.slice e)) (hinfo : (P.info? e).map (fun i => (i.zero, i.size, i.bytes)) = some (some (.int .u32 0), 1, 4)) (hn : n ≤ 1000000) (HB : Below base w0 W) (hbase : base ≤ W.heap.size)
    (h : ∀ v1 w1, Kd.R (Kd.int .u32) e w1 base (fun _ => True) v1 [] → Below base w0 w1 → wpList P ops Q rest (a.put o.dst v1) w1) : wpList P ops Q (o :: rest) a W := by
  obtain ⟨i0, hi, hzz⟩ := Option.map_eq_some_iff.1 hinfo
  simp only [Prod.mk.injEq] at hzz
  obtain ⟨hz0, hz1, hz2⟩ := hzz
  obtain ⟨w1, hr, ho1, hg⟩ := run_make_own (P := P) W base t e i0 (.int .u32 0) 1 ht hi hz0 hz1 .i64 .i64 n (by rw [hz2]; omega) (by unfold maxLen; omega) hbase
  refine Kd.event_run (v := .slice (some ⟨W.heap.size, 0, none⟩) 0 n) (w1 := w1) hgd ?_ (h _ _ (Kd.R_of_own (by simpa [encs] using ho1) (fun _ _ => trivial)) (HB.grown hg hbase (fun k e => by cases e)))
  simp [execOp, ho, hx, hy, hr]
end

theorem pow_le : ∀ n : Fin 32, (1 : Int) ≤ 2 ^ n.val ∧ (2 : Int) ^ n.val ≤ 2147483648 := by decide

set_option maxHeartbeats 8000000 in
set_option maxRecDepth 100000 in
theorem shift_calls (s : Int) (hs : 0 ≤ s ∧ s ≤ 31) (A0 : Option Addr) (c0 : Nat) (l0 : List Int) (w : World) (hr0 : Kd.C (Kd.int .u32) w A0 l0.length l0) (hc0 : l0.length ≤ c0) (hd : D32 l0) (hl : l0.length ≤ 1000) :
    Calls Try.prog 77 #[.slice A0 l0.length c0, .int .u64 s] w fun e w' => ∃ v, e = .returned v ∧ Kd.R (Kd.int .u32) 74 w' w.heap.size (fun _ => True) v (trim (sh (2 ^ s.toNat) l0 0)) ∧ Below w.heap.size w w' := by
  have hu52 := Try.underlying52
  have hu74 := Try.underlying74
  have hu76 := Try.underlying76
  have hu51 := Try.underlying51
  have hp : (1 : Int) ≤ 2 ^ s.toNat ∧ (2 : Int) ^ s.toNat ≤ 2147483648 := by
    exact pow_le ⟨s.toNat, by omega⟩
  obtain ⟨F, hF⟩ : ∃ F, F = sh (2 ^ s.toNat) l0 0 := ⟨_, rfl⟩
  rw [← hF]
  have hFl : F.length = l0.length + 1 := by rw [hF]; exact (sh_ok _ hp l0 0 hd (by omega)).2.2
  have HF := Aside0.mk hF
  have HP := Aside0.mk hp
  have HR0 := Aside0.mk hr0
  have HC0 := Aside0.mk hc0
  have HD := Aside0.mk hd
  have HL := Aside0.mk hl
  have HS := Aside0.mk hs
  have HFL := Aside0.mk hFl
  have hs1 : Int.tdiv s 32 = 0 := by
    rw [Int.tdiv_eq_ediv_of_nonneg hs.1]; omega
  have hs2 : Int.tmod s 32 = s := by
    rw [Int.tmod_eq_emod_of_nonneg hs.1]; omega
  have hw1 : wrap64 ((l0.length : Int) + 1) = ((l0.length + 1 : Nat) : Int) := by rw [bw64 (by omega)]; omega
  have hw0 : wrap64 (l0.length : Int) = (l0.length : Int) := bw64 (by omega)
  clear hF hp hr0 hc0 hd hl hs hFl
  go_enter Try.func77, Try.ntmps77
  go_wp2_with (first
    | ((with_reducible refine gate_dst (N := 19) rfl ?_); go_loud (refine R_make0 (w0 := w) w.heap.size 74 rfl 52 _ _ rfl (l0.length + 1) ?hx ?hy hu52 info74 ?hn (Below.refl _ _) (Nat.le_refl _) ?_; (case hx => first | rfl | (go_simp; done)); (case hy => first | rfl | (go_simp; done)); (case hn => have := HL.out; omega); intro v19 w1 ho hb; have HO := Aside0.mk ho; have HB := Aside0.mk hb; clear ho hb)))
  go_loopg [5, 6, 22] l0.length (fun gg v5 v6 v22 W => ∃ (i c : Int) (dn xs : List Int), v6 = .int .u64 c ∧ v22 = .int .i64 i ∧ Aside0 (0 ≤ i ∧ i + xs.length = l0.length ∧ xs.length ≤ gg ∧ (dn.length : Int) = i ∧ xs = l0.drop i.toNat) ∧ Aside0 ((0 ≤ c ∧ c < 2 ^ s.toNat) ∧ D32 xs) ∧
    Aside0 (dn ++ sh (2 ^ s.toNat) xs c = F) ∧ Aside0 (Kd.R (Kd.int .u32) 74 W w.heap.size (fun _ => True) v5 dn) ∧ Aside0 (Below w.heap.size w W))
  case atStart => exact ⟨0, 0, [], l0, rfl, rfl, ⟨by omega, by omega, by omega, rfl, rfl⟩, ⟨by have := HP.out; omega, HD.out⟩, ⟨HF.out.symm⟩, HO, HB⟩
  case round =>
    clear HO HB HF
    obtain ⟨i, c, dn, xs, rfl, rfl, HI, HX, HF, HO, HB⟩ := hrel
    cases xs with
    | nil =>
      have hlt : decide (i < (l0.length : Int)) = false := decide_eq_false (by have := HI.out; simp at this; omega)
      have hF : dn ++ [c] = F := HF.out
      have hcm : c % 4294967296 = c := by have := HX.out; have := HP.out; omega
      have HF' := Aside0.mk hF
      clear HF hF
      go_wp2_with (first
        | ((with_reducible refine gate_builtin (b := .append) (xs := #[.tmp 41, .tmp 44]) rfl ?_); at_builtin; go_loud (refine Kd.R_append (Kd.int .u32) (w0 := w) w.heap.size rfl (.tmp 41) (.tmp 44) 52 74 (.int .u32 0) 4 rfl hu52 info74 rfl (by decide) (by omega) _ dn c [.int .u32 c] (fun _ => True) (fun _ => False) rfl rfl ?aP (fun _ hk => hk.elim) ?aF ?aO ?aB ?aS ?aL ?_; (case aP => exact rfl); (case aF => exact fun _ _ => trivial); (case aO => exact HO.out); (case aB => exact HB.out); (case aS => exact HB.out.size); (case aL => have := HI.out; have := HL.out; omega); intro v45 w2 ho hb hg hat; rw [HF'.out] at ho; obtain ⟨A45, c45, e45⟩ := Kd.R_slice ho; subst e45; have HO2 := Aside0.mk ho; have HB2 := Aside0.mk hb; clear ho hb hg hat))
        | (go_at_call 72; go_loud (refine (impl_trimmed.calls A45 c45 F (trim F) _ (Kd.R_reads' HO2.out).2.2 (Kd.R_reads' HO2.out).2.1 rfl).mono ?_; rintro e w3 ⟨v46, rfl, ho, hb⟩; have HO3 := Aside0.mk (R_trim (Kd.R_below HO2.out hb) ho); have HB3 := Aside0.mk (below_step HB2.out hb); clear ho hb)))
      go_ret
      exact ⟨_, rfl, HO3.out, HB3.out⟩
    | cons x xs =>
      have hin : i < (l0.length : Int) := by have := HI.out; simp at this; omega
      have hi0 : 0 ≤ i := HI.out.1
      have hlt : decide (i < (l0.length : Int)) = true := decide_eq_true hin
      obtain ⟨ad, eA, hz0⟩ := Kd.at_int HR0.out i hi0 hin
      cases eA
      have hxr : rd l0 i = x := by
        have hl : i.toNat < l0.length := by omega
        have h2 := HI.out.2.2.2.2
        rw [List.drop_eq_getElem_cons hl] at h2
        have := (List.cons.inj h2).1
        rw [this]
        simp [rd, hl]
      rw [hxr] at hz0
      replace hz0 := (HB.out.cell (World.block_lt_of_cell? w _ hz0)).trans hz0
      have hx0 := (D32.cons.1 HX.out.2).1
      have p1 := eq_true hi0
      have q1 := eq_true hin
      have hwi : wrap64 (i + 1) = i + 1 := bw64 (by have := HL.out; omega)
      have hwx : IntKind.u64.wrap x = x := by rw [IntKind.wrap_u64]; omega
      have hst := sh_step HP.out hx0 HX.out.1
      have hs0 := eq_true HS.out.1
      have hs64 : (s ≤ 64) = True := eq_true (by have := HS.out; omega)
      have hsx : IntKind.u64.wrap (x * 2 ^ s.toNat) = x * 2 ^ s.toNat := by rw [IntKind.wrap_u64]; omega
      have hmod : (x * 2 ^ s.toNat) % 2 ^ s.toNat = 0 := Int.mul_emod_left _ _
      have hor : bits .or .u64 c (x * 2 ^ s.toNat) = c + x * 2 ^ s.toNat := by
        have := HX.out.1
        have := HP.out
        rw [bits_or_comm, or_sum s.toNat (by omega) hmod (by omega) (by omega) (by omega) (by omega)]
        omega
      have hF := HF.out
      rw [sh] at hF
      obtain ⟨m, hm⟩ : ∃ m, m = c + x * 2 ^ s.toNat := ⟨_, rfl⟩
      rw [← hm] at hor hF hst
      have hwm : IntKind.u32.wrap m = m % 4294967296 := by rw [IntKind.wrap_u32]
      have HX2 : Aside0 ((0 ≤ m / 4294967296 ∧ m / 4294967296 < 2 ^ s.toNat) ∧ D32 xs) := ⟨hst.2, (D32.cons.1 HX.out.2).2⟩
      have HF2 : Aside0 ((dn ++ [m % 4294967296]) ++ sh (2 ^ s.toNat) xs (m / 4294967296) = F) := ⟨by rw [← hF]; simp⟩
      have hxs : xs = l0.drop (i + 1).toNat := by
        have h2 := HI.out.2.2.2.2
        have e1 : (i + 1).toNat = i.toNat + 1 := by omega
        rw [e1, ← List.tail_drop, ← h2]
        rfl
      have HXS := Aside0.mk hxs
      clear hxr hin hi0 hst hmod hF hm hx0 HF hxs
      go_wp2_with (first
        | ((with_reducible refine gate_builtin (b := .append) (xs := #[.tmp 33, .tmp 36]) rfl ?_); at_builtin; go_loud (refine Kd.R_append (Kd.int .u32) (w0 := w) w.heap.size rfl (.tmp 33) (.tmp 36) 52 74 (.int .u32 0) 4 rfl hu52 info74 rfl (by decide) (by omega) _ dn (m % 4294967296) [.int .u32 (m % 4294967296)] (fun _ => True) (fun _ => False) rfl rfl ?aP (fun _ hk => hk.elim) ?aF ?aO ?aB ?aS ?aL ?_; (case aP => exact rfl); (case aF => exact fun _ _ => trivial); (case aO => exact HO.out); (case aB => exact HB.out); (case aS => exact HB.out.size); (case aL => have := HI.out; have := HL.out; omega); intro v45 w2 ho hb hg hat; have HO2 := Aside0.mk ho; have HB2 := Aside0.mk hb; clear ho hb hg hat)))
      go_roundg xs.length
      case measure => have := HI.out; simp at this; omega
      case rel => exact ⟨i + 1, m / 4294967296, dn ++ [m % 4294967296], xs, by first | rfl | simp, by first | rfl | rw [hwi], ⟨by have := HI.out; omega, by have := HI.out; simp at this; omega, Nat.le_refl _, by have := HI.out; simp; omega, HXS.out⟩, HX2, HF2, HO2, HB2⟩

end Go.Proofs.Ytpcekncfdcofhaa.Q
