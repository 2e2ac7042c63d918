/- A lemma by hand: an argument that is a struct of whole numbers and a slice of structs of whole numbers is laid open. -/
import Derived.Test.YthlbcjoogcanmaaGRow
namespace Go.Proofs.Ythlbcjoogcanmaa.Q
open Go.RowKit Go.Joins Go.ChangeShapes Go.WideShapes Go.Deep Go.Proofs.YthlbcjoogcanmaaW.PrintWords Go.Proofs.YthlbcjoogcanmaaW.PrintLast Go.Proofs.YthlbcjoogcanmaaW.PrintMore
set_option linter.unusedVariables false
set_option linter.unusedSimpArgs false

theorem open_nums_rows {H : Type} {enc : TypeId × Value → H} {P : Program} {w : World} {base : Nat} {spare : Nat → Bool} {held : Bool} {t e n0 k : Nat} {f0 f1 : Field} {r : Reach} {b0 : Nat} {v : Value} {d : DataW H} {p : List MemPlace}
    (ht : P.underlying t = some (.struct #[f0, f1])) (hc : P.cellsOf t = n0 + 1) (o0 : f0.offset = 0) (o1 : f1.offset = n0) (c0 : P.cellsOf f0.type = n0) (c1 : P.cellsOf f1.type = 1) (h0 : NumTy P f0.type n0)
    (hts : P.underlying f1.type = some (.slice e)) (hk : P.cellsOf e = k) (hN : NumTy P e k) (hv : Value.okWide P w r b0 t v) (h : DataW.Trod enc P w base spare held t v d p) :
    ∃ (zs : List Int) (A : Option Addr) (len cap : Nat) (zz : List (List Int)), v = .agg (zs.map (Value.int .i64) ++ [Value.slice A len cap]).toArray ∧ zs.length = n0 ∧ (∀ z ∈ zs, (Lit.int .i64 z).wf = true) ∧ zz.length = len ∧ len ≤ cap ∧
      (∀ zs ∈ zz, zs.length = k ∧ ∀ z ∈ zs, (Lit.int .i64 z).wf = true) ∧ ReadsRow (fun (zs : List Int) (c : List Value) => c = zs.map (Value.int .i64) ∧ zs.length = k) k w A len zz := by
  obtain ⟨cs, rfl, _⟩ := okWide_struct ht hv
  obtain ⟨fuel, hf⟩ := h
  have hf' : ∃ fuel, DataW.trod enc P w base spare held fuel t cs.toList = some (d, p) := ⟨fuel, hf⟩
  obtain ⟨fuel, hf⟩ := hf'
  obtain ⟨y0, y1, n, _, hl, t0, t1⟩ := trod_struct2 ht hf
  rw [o0, c0] at t0
  rw [o1, c1] at t1
  obtain ⟨z0, e0, l0, w0⟩ := h0 _ _ _ _ _ _ _ _ _ t0
  obtain ⟨A, len, cap, zz, hcs, hzl, hle, hzw, hR⟩ := open_num_rows hts hk hN t1
  have hp := part2 cs.toList n0 1 (hl.trans hc)
  rw [e0, hcs] at hp
  refine ⟨z0, A, len, cap, zz, ?_, l0, w0, hzl, hle, hzw, hR⟩
  rw [← hp]

end Go.Proofs.Ythlbcjoogcanmaa.Q
