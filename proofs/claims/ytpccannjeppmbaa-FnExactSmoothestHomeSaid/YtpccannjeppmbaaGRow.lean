/- Lemmas by hand: an argument that is a struct of whole numbers, or a slice of such structs, is laid open. -/
import Derived.Test.YtpccannjeppmbaaQ0
import Derived.Lib.SmallJoins
import Derived.Deep.Slices
import Derived.Deep.Fields
import Derived.Deep.Strs
import Derived.ChangeSame
import Derived.ChangeArms
import Derived.WideShapes
namespace Go.Proofs.Ytpccannjeppmbaa.Q
open Go.RowKit Go.Joins Go.ChangeShapes Go.WideShapes Go.Deep Go.Proofs.YtpccannjeppmbaaW.PrintWords Go.Proofs.YtpccannjeppmbaaW.PrintLast Go.Proofs.YtpccannjeppmbaaW.PrintMore
set_option linter.unusedVariables false
set_option linter.unusedSimpArgs false

/-- All cells of a value of type t are whole numbers; there are n of them. -/
def NumTy (P : Program) (t n : Nat) : Prop :=
  ∀ (H : Type) (enc : TypeId × Value → H) (w : World) (base : Nat) (spare : Nat → Bool) (held : Bool) (fuel : Nat) (cs : List Value) (x : DataW H × List MemPlace),
    DataW.trod enc P w base spare held fuel t cs = some x → ∃ zs : List Int, cs = zs.map (Value.int .i64) ∧ zs.length = n ∧ ∀ z ∈ zs, (Lit.int .i64 z).wf = true

theorem num_int {P : Program} {t : Nat} (ht : P.underlying t = some (.int .i64)) : NumTy P t 1 := by
  intro H enc w base spare held fuel cs x h
  obtain ⟨n, hc, _, hw⟩ := DataW.trod_int ht h
  exact ⟨[n], by rw [hc]; rfl, rfl, fun z hz => by rw [List.mem_singleton.1 hz]; exact hw⟩

theorem part2 {α : Type} (cs : List α) (n0 n1 : Nat) (h : cs.length = n0 + n1) : cs = (cs.drop 0).take n0 ++ (cs.drop n0).take n1 := by
  rw [List.drop_zero, List.take_of_length_le (l := cs.drop n0) (by simp; omega), List.take_append_drop]

theorem num_struct2 {P : Program} {t n0 n1 : Nat} {f0 f1 : Field} (ht : P.underlying t = some (.struct #[f0, f1])) (hc : P.cellsOf t = n0 + n1) (o0 : f0.offset = 0) (o1 : f1.offset = n0)
    (c0 : P.cellsOf f0.type = n0) (c1 : P.cellsOf f1.type = n1) (h0 : NumTy P f0.type n0) (h1 : NumTy P f1.type n1) : NumTy P t (n0 + n1) := by
  intro H enc w base spare held fuel cs x h
  obtain ⟨y0, y1, n, _, hl, t0, t1⟩ := trod_struct2 ht h
  rw [o0, c0] at t0
  rw [o1, c1] at t1
  obtain ⟨z0, e0, l0, w0⟩ := h0 _ _ _ _ _ _ _ _ _ t0
  obtain ⟨z1, e1, l1, w1⟩ := h1 _ _ _ _ _ _ _ _ _ t1
  have hp := part2 cs n0 n1 (hl.trans hc)
  rw [e0, e1] at hp
  refine ⟨z0 ++ z1, by rw [hp, List.map_append], by simp [l0, l1], fun z hz => ?_⟩
  rcases List.mem_append.1 hz with hz | hz
  · exact w0 z hz
  · exact w1 z hz

theorem num_struct3 {P : Program} {t n0 n1 n2 : Nat} {f0 f1 f2 : Field} (ht : P.underlying t = some (.struct #[f0, f1, f2])) (hc : P.cellsOf t = n0 + (n1 + n2)) (o0 : f0.offset = 0) (o1 : f1.offset = n0) (o2 : f2.offset = n0 + n1)
    (c0 : P.cellsOf f0.type = n0) (c1 : P.cellsOf f1.type = n1) (c2 : P.cellsOf f2.type = n2) (h0 : NumTy P f0.type n0) (h1 : NumTy P f1.type n1) (h2 : NumTy P f2.type n2) : NumTy P t (n0 + (n1 + n2)) := by
  intro H enc w base spare held fuel cs x h
  obtain ⟨y0, y1, y2, n, _, hl, t0, t1, t2⟩ := trod_struct3 ht h
  rw [o0, c0] at t0
  rw [o1, c1] at t1
  rw [o2, c2] at t2
  obtain ⟨z0, e0, l0, w0⟩ := h0 _ _ _ _ _ _ _ _ _ t0
  obtain ⟨z1, e1, l1, w1⟩ := h1 _ _ _ _ _ _ _ _ _ t1
  obtain ⟨z2, e2, l2, w2⟩ := h2 _ _ _ _ _ _ _ _ _ t2
  have hp := part2 cs n0 (n1 + n2) (hl.trans hc)
  have hq := part2 (cs.drop n0) n1 n2 (by simp [hl, hc] <;> omega)
  rw [List.take_of_length_le (l := cs.drop n0) (by simp [hl, hc] <;> omega)] at hp
  rw [List.drop_zero, List.drop_drop, e1, e2] at hq
  rw [e0, hq] at hp
  refine ⟨z0 ++ (z1 ++ z2), by rw [hp, List.map_append, List.map_append], by simp [l0, l1, l2], fun z hz => ?_⟩
  rcases List.mem_append.1 hz with hz | hz
  · exact w0 z hz
  · rcases List.mem_append.1 hz with hz | hz
    · exact w1 z hz
    · exact w2 z hz

theorem num_struct4 {P : Program} {t n0 n1 n2 n3 : Nat} {f0 f1 f2 f3 : Field} (ht : P.underlying t = some (.struct #[f0, f1, f2, f3])) (hc : P.cellsOf t = n0 + (n1 + (n2 + n3))) (o0 : f0.offset = 0) (o1 : f1.offset = n0) (o2 : f2.offset = n0 + n1) (o3 : f3.offset = n0 + n1 + n2)
    (c0 : P.cellsOf f0.type = n0) (c1 : P.cellsOf f1.type = n1) (c2 : P.cellsOf f2.type = n2) (c3 : P.cellsOf f3.type = n3) (h0 : NumTy P f0.type n0) (h1 : NumTy P f1.type n1) (h2 : NumTy P f2.type n2) (h3 : NumTy P f3.type n3) : NumTy P t (n0 + (n1 + (n2 + n3))) := by
  intro H enc w base spare held fuel cs x h
  obtain ⟨y0, y1, y2, y3, n, _, hl, t0, t1, t2, t3⟩ := trod_struct4 ht h
  rw [o0, c0] at t0
  rw [o1, c1] at t1
  rw [o2, c2] at t2
  rw [o3, c3] at t3
  obtain ⟨z0, e0, l0, w0⟩ := h0 _ _ _ _ _ _ _ _ _ t0
  obtain ⟨z1, e1, l1, w1⟩ := h1 _ _ _ _ _ _ _ _ _ t1
  obtain ⟨z2, e2, l2, w2⟩ := h2 _ _ _ _ _ _ _ _ _ t2
  obtain ⟨z3, e3, l3, w3⟩ := h3 _ _ _ _ _ _ _ _ _ t3
  have hp := part2 cs n0 (n1 + (n2 + n3)) (hl.trans hc)
  have hq := part2 (cs.drop n0) n1 (n2 + n3) (by simp [hl, hc] <;> omega)
  have hr := part2 ((cs.drop n0).drop n1) n2 n3 (by simp [hl, hc] <;> omega)
  rw [List.take_of_length_le (l := cs.drop n0) (by simp [hl, hc] <;> omega)] at hp
  rw [List.take_of_length_le (l := (cs.drop n0).drop n1) (by simp [hl, hc] <;> omega), List.drop_zero, e1] at hq
  rw [List.drop_zero, List.drop_drop, List.drop_drop, e2, e3] at hr
  rw [List.drop_drop] at hq
  rw [hr] at hq
  rw [e0, hq] at hp
  refine ⟨z0 ++ (z1 ++ (z2 ++ z3)), by rw [hp, List.map_append, List.map_append, List.map_append], by simp [l0, l1, l2, l3], fun z hz => ?_⟩
  rcases List.mem_append.1 hz with hz | hz
  · exact w0 z hz
  · rcases List.mem_append.1 hz with hz | hz
    · exact w1 z hz
    · rcases List.mem_append.1 hz with hz | hz
      · exact w2 z hz
      · exact w3 z hz

section
variable {H : Type} {enc : TypeId × Value → H} {P : Program} {w : World} {base : Nat} {spare : Nat → Bool} {held : Bool}
theorem open_nums {t n : Nat} {fs : Array Field} {r : Reach} {b0 : Nat} {v : Value} {d : DataW H} {p : List MemPlace} (hN : NumTy P t n) (hs : P.underlying t = some (.struct fs)) (hv : Value.okWide P w r b0 t v)
    (h : DataW.Trod enc P w base spare held t v d p) : ∃ zs : List Int, v = .agg (zs.map (Value.int .i64)).toArray ∧ zs.length = n ∧ ∀ z ∈ zs, (Lit.int .i64 z).wf = true := by
  obtain ⟨cs, rfl, _⟩ := okWide_struct hs hv
  obtain ⟨fuel, hf⟩ := h
  obtain ⟨zs, e, l, hw⟩ := hN _ _ _ _ _ _ _ _ _ hf
  refine ⟨zs, ?_, l, hw⟩
  have e' : cs.toList = zs.map (Value.int .i64) := e
  rw [← e']

theorem nums2 {zs : List Int} (h : zs.length = 2) (hw : ∀ z ∈ zs, (Lit.int .i64 z).wf = true) : ∃ a b, zs = [a, b] ∧ (Lit.int .i64 a).wf = true ∧ (Lit.int .i64 b).wf = true := by
  match zs, h with
  | [a, b], _ => exact ⟨a, b, rfl, hw a (by simp), hw b (by simp)⟩
theorem nums3 {zs : List Int} (h : zs.length = 3) (hw : ∀ z ∈ zs, (Lit.int .i64 z).wf = true) : ∃ a b c, zs = [a, b, c] ∧ (Lit.int .i64 a).wf = true ∧ (Lit.int .i64 b).wf = true ∧ (Lit.int .i64 c).wf = true := by
  match zs, h with
  | [a, b, c], _ => exact ⟨a, b, c, rfl, hw a (by simp), hw b (by simp), hw c (by simp)⟩
theorem nums4 {zs : List Int} (h : zs.length = 4) (hw : ∀ z ∈ zs, (Lit.int .i64 z).wf = true) : ∃ a b c d, zs = [a, b, c, d] ∧ (Lit.int .i64 a).wf = true ∧ (Lit.int .i64 b).wf = true ∧ (Lit.int .i64 c).wf = true ∧ (Lit.int .i64 d).wf = true := by
  match zs, h with
  | [a, b, c, d], _ => exact ⟨a, b, c, d, rfl, hw a (by simp), hw b (by simp), hw c (by simp), hw d (by simp)⟩
theorem nums9 {zs : List Int} (h : zs.length = 9) (hw : ∀ z ∈ zs, (Lit.int .i64 z).wf = true) : ∃ a b c d e f g i j, zs = [a, b, c, d, e, f, g, i, j] ∧ (Lit.int .i64 a).wf = true ∧ (Lit.int .i64 b).wf = true ∧ (Lit.int .i64 c).wf = true ∧ (Lit.int .i64 d).wf = true ∧
    (Lit.int .i64 e).wf = true ∧ (Lit.int .i64 f).wf = true ∧ (Lit.int .i64 g).wf = true ∧ (Lit.int .i64 i).wf = true ∧ (Lit.int .i64 j).wf = true := by
  match zs, h with
  | [a, b, c, d, e, f, g, i, j], _ => exact ⟨a, b, c, d, e, f, g, i, j, rfl, hw a (by simp), hw b (by simp), hw c (by simp), hw d (by simp), hw e (by simp), hw f (by simp), hw g (by simp), hw i (by simp), hw j (by simp)⟩

/-- A slice of such structs, as rows of whole numbers. -/
theorem open_num_rows {t e k fuel : Nat} {cs : List Value} {x : DataW H × List MemPlace} (ht : P.underlying t = some (.slice e)) (hk : P.cellsOf e = k) (hN : NumTy P e k)
    (h : DataW.trod enc P w base spare held fuel t cs = some x) :
    ∃ (A : Option Addr) (len cap : Nat) (zz : List (List Int)), cs = [.slice A len cap] ∧ zz.length = len ∧ len ≤ cap ∧ (∀ zs ∈ zz, zs.length = k ∧ ∀ z ∈ zs, (Lit.int .i64 z).wf = true) ∧
      ReadsRow (fun (zs : List Int) (c : List Value) => c = zs.map (Value.int .i64) ∧ zs.length = k) k w A len zz := by
  rcases open_slice ht h with ⟨h0, _⟩ | ⟨a, len, cap, m, n, D, Pl, hcs, hb, hl, hm, hmm, hx, hi⟩
  · exact ⟨none, 0, 0, [], h0, rfl, Nat.le_refl _, by simp, rfl, by omega, fun hn => absurd hn (by omega)⟩
  · have hle : len ≤ m := by rw [hmm]; split <;> omega
    have hex : ∀ i : Nat, ∃ zs : List Int, i < len → (zs.length = k ∧ (∀ z ∈ zs, (Lit.int .i64 z).wf = true) ∧ ∀ j u, (zs.map (Value.int .i64))[j]? = some u → w.cell? (a.add (i * k + j)) = some u) := by
      intro i
      by_cases hil : i < len
      · obtain ⟨cs', hc, ht'⟩ := hi i (by omega)
        obtain ⟨zs, e1, l1, w1⟩ := hN _ _ _ _ _ _ _ _ _ ht'
        obtain ⟨_, hcl, hat⟩ := World.cells?_some hc
        refine ⟨zs, fun _ => ⟨l1, w1, fun j u hu => ?_⟩⟩
        have hj : j < P.cellsOf e := by
          have := (List.getElem?_eq_some_iff.1 hu).1
          simp [l1] at this
          omega
        have h2 := hat j hj
        rw [e1] at h2
        rw [← Go.Deep.add_add, ← hk, h2]
        exact hu
      · exact ⟨[], fun h => absurd h hil⟩
    obtain ⟨f, hf⟩ := Classical.skolem.1 hex
    refine ⟨some a, len, cap, (List.range len).map f, hcs, by simp, hl, fun zs hz => ?_, by simp, by unfold maxLen at hm; omega, fun hn => ⟨a, rfl, fun j p hj => ?_⟩⟩
    · obtain ⟨i, hi2, rfl⟩ := List.mem_map.1 hz
      have := hf i (List.mem_range.1 hi2)
      exact ⟨this.1, this.2.1⟩
    · obtain ⟨hj1, hj2⟩ := List.getElem?_eq_some_iff.1 hj
      have hjl : j < len := by simpa using hj1
      have e2 : p = f j := by rw [← hj2]; simp
      subst e2
      have := hf j hjl
      exact ⟨_, by simp [this.1], ⟨rfl, this.1⟩, this.2.2⟩

/-- .. as a list of the printed structures. -/
theorem rows_kd {α : Type} {d : Kd α} {k : Nat} (mk : List Int → α) (hd : d.sz = k) (hK : ∀ (W : World) (zs : List Int), zs.length = k → d.K W (mk zs) (zs.map (Value.int .i64))) {A : Option Addr} {n : Nat} {zz : List (List Int)}
    (h : ReadsRow (fun (zs : List Int) (c : List Value) => c = zs.map (Value.int .i64) ∧ zs.length = k) k w A n zz) : Kd.C d w A n (zz.map mk) := by
  obtain ⟨h1, h2, h3⟩ := h
  refine ⟨by simpa using h1, h2, fun hn => ?_⟩
  obtain ⟨ad, e, hc⟩ := h3 hn
  refine ⟨ad, e, fun j p hj => ?_⟩
  rw [List.getElem?_map] at hj
  cases hz : zz[j]? with
  | none => rw [hz] at hj; cases hj
  | some zs =>
    rw [hz] at hj
    obtain rfl := Option.some.inj hj
    obtain ⟨c, hl, ⟨rfl, hk⟩, hcell⟩ := hc j zs hz
    rw [hd]
    exact ⟨_, hl, hK w zs hk, hcell⟩
end

end Go.Proofs.Ytpccannjeppmbaa.Q
