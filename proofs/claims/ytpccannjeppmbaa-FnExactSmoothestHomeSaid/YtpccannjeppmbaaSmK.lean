/- What a course reads as where it is a map's key: every course of whole numbers reads as a key, and different ones as different keys. -/
import Derived.Test.YtpccannjeppmbaaGMapG
import Derived.Test.YtpccannjeppmbaaSmP
import Derived.DeepKeys5
namespace Go.Proofs.Ytpccannjeppmbaa.Q
open Go.RowKit Go.Maps Go.Proofs.YtpccannjeppmbaaW.PrintWords Go.Proofs.YtpccannjeppmbaaW.PrintLast Go.Proofs.YtpccannjeppmbaaW.PrintMore
set_option linter.unusedVariables false
set_option linter.unusedSimpArgs false

def valS (c : S31) : Value := .agg #[.int .i64 c.f0, .int .i64 c.f1, .int .i64 c.f2]
theorem valS_inj (x y : S31) (h : valS x = valS y) : x = y := by
  cases x; cases y
  simp only [valS, Value.agg.injEq, Array.mk.injEq, List.cons.injEq, Value.int.injEq, true_and, and_true] at h
  obtain ⟨rfl, rfl, rfl⟩ := h
  rfl
theorem laidE : laidOutB Try.prog = true := by kernel_rfl
theorem keyedC : Keyed Try.prog 31 := Keyed.of_law (deep_law_gate laidE (of_decide_eq_true (by kernel_rfl)) (of_decide_eq_true (by kernel_rfl)) (by kernel_rfl) (by kernel_rfl))
theorem wf64 {x : Int} (h : -9223372036854775808 ≤ x ∧ x ≤ 9223372036854775807) : (Lit.int .i64 x).wf = true := by
  have b1 : IntKind.i64.min = -9223372036854775808 := by decide
  have b2 : IntKind.i64.max = 9223372036854775807 := by decide
  simp [Lit.wf, b1, b2, h.1, h.2]
theorem keyOf3 {P : Program} {k t : TypeId} {fs : Array Go.Field} {f0 f1 f2 : Go.Field} (hu : P.underlying k = some (.struct fs)) (hfs : fs.toList = [f0, f1, f2]) (ht0 : f0.type = t) (ht1 : f1.type = t) (ht2 : f2.type = t) (ho0 : f0.offset = 0) (ho1 : f1.offset = 1) (ho2 : f2.offset = 2)
    (hn : fs.all (·.name != "_") = true) (ht : P.underlying t = some (.int .i64)) (k1 : P.keyType k = true) (k2 : P.cellsOf k = 3) (k3 : P.cellsOf t = 1) (hsz : 1 ≤ P.types.size)
    (x y z : Int) (h0 : (Lit.int .i64 x).wf = true) (h1 : (Lit.int .i64 y).wf = true) (h2 : (Lit.int .i64 z).wf = true) : ∃ kl, keyOf P k (.agg #[.int .i64 x, .int .i64 y, .int .i64 z]) = some kl := by
  obtain ⟨n, hn1⟩ : ∃ n, P.types.size = n + 1 := ⟨P.types.size - 1, by omega⟩
  refine ⟨.string (keyBytes ([[.int .i64 x], [.int .i64 y], [.int .i64 z]] : List (List Lit)).flatten), ?_⟩
  have hl : P.keyLits (P.types.size + 1) k [.int .i64 x, .int .i64 y, .int .i64 z] = some ([[.int .i64 x], [.int .i64 y], [.int .i64 z]] : List (List Lit)).flatten := by
    rw [hn1]
    simp [Program.keyLits, hu, hfs, ht0, ht1, ht2, ho0, ho1, ho2, hn, ht, k2, k3, h0, h1, h2]
  simp [keyOf, hu, k1, Value.formed, k2, Value.cells, hl]
theorem keyC (c : S31) (h0 : (Lit.int .i64 c.f0).wf = true) (h1 : (Lit.int .i64 c.f1).wf = true) (h2 : (Lit.int .i64 c.f2).wf = true) : ∃ kl, keyOf Try.prog 31 (valS c) = some kl :=
  keyOf3 Try.underlying31 rfl rfl rfl rfl rfl rfl rfl (by kernel_rfl) Try.underlying2 (by kernel_rfl) (by kernel_rfl) (by kernel_rfl) (of_decide_eq_true (by kernel_rfl)) c.f0 c.f1 c.f2 h0 h1 h2


/-! ### whole numbers as keys; the block of a map of maps -/
def valI (i : Int) : Value := .int .i64 i
theorem valI_inj (x y : Int) (h : valI x = valI y) : x = y := by
  simp only [valI, Value.int.injEq, true_and] at h
  exact h
theorem keyedI : Keyed Try.prog 2 := int_keyed Try.underlying2
theorem keyOfI {P : Program} {t : TypeId} (ht : P.underlying t = some (.int .i64)) (x : Int) (h0 : (Lit.int .i64 x).wf = true) : ∃ kl, keyOf P t (.int .i64 x) = some kl := by
  refine ⟨.int .i64 x, ?_⟩
  simp [keyOf, mapKey, ht, h0]
theorem keyI (x : Int) (h0 : (Lit.int .i64 x).wf = true) : ∃ kl, keyOf Try.prog 2 (valI x) = some kl :=
  keyOfI Try.underlying2 x h0

end Go.Proofs.Ytpccannjeppmbaa.Q
