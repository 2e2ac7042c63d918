/- Plain lemmas by hand: a text cut at one byte, as the library's Split does it. -/
import Derived.Test.YtlmdoapjcnaflaaDoorQ0
import Derived.Test.YtlmdoapjcnaflaaDoorPVal
import Derived.Lib.SplitLaws
import Derived.Lib.IndexBytes
namespace Go.Proofs.YtlmdoapjcnaflaaDoor.Pure
open Go.RowKit Go.Proofs.YtlmdoapjcnaflaaDoor.Q Go.Proofs.YtlmdoapjcnaflaaDoorW.PrintWords Go.Proofs.YtlmdoapjcnaflaaDoorW.PrintLast
set_option linter.unusedVariables false
set_option linter.unusedSimpArgs false

/-- A text cut at each byte c. -/
def cutL (c : UInt8) : List UInt8 → List (List UInt8)
  | [] => [[]]
  | x :: r => if x = c then [] :: cutL c r else match cutL c r with | p :: ps => (x :: p) :: ps | [] => [[x]]
/-- .. where some bytes of the first piece came before. -/
def onto (p : List UInt8) : List (List UInt8) → List (List UInt8)
  | q :: qs => (p ++ q) :: qs
  | [] => [p]
theorem cutL_ne (c : UInt8) (l : List UInt8) : ∃ p ps, cutL c l = p :: ps := by
  induction l with
  | nil => exact ⟨[], [], rfl⟩
  | cons x r ih =>
    obtain ⟨p, ps, h⟩ := ih
    unfold cutL
    by_cases hx : x = c
    · rw [if_pos hx]; exact ⟨_, _, rfl⟩
    · rw [if_neg hx, h]; exact ⟨_, _, rfl⟩
theorem cutL_eq (c : UInt8) (r : List UInt8) : cutL c (c :: r) = [] :: cutL c r := by rw [cutL, if_pos rfl]
theorem cutL_other {c x : UInt8} (h : ¬ x = c) (r : List UInt8) : cutL c (x :: r) = onto [x] (cutL c r) := by
  obtain ⟨p, ps, hp⟩ := cutL_ne c r
  rw [cutL, if_neg h, hp]
  rfl
theorem onto_onto (p q : List UInt8) (l : List (List UInt8)) (h : ∃ a b, l = a :: b) : onto p (onto q l) = onto (p ++ q) l := by
  obtain ⟨a, b, rfl⟩ := h
  simp [onto]
theorem onto_nil (l : List (List UInt8)) (h : ∃ a b, l = a :: b) : onto [] l = l := by
  obtain ⟨a, b, rfl⟩ := h
  simp [onto]
theorem cutL_len (c : UInt8) (l : List UInt8) : ∀ p ∈ cutL c l, p.length ≤ l.length := by
  induction l with
  | nil => intro p hp; simp [cutL] at hp; subst hp; simp
  | cons x r ih =>
    intro p hp
    by_cases hx : x = c
    · subst hx
      rw [cutL_eq] at hp
      rcases List.mem_cons.1 hp with rfl | hp
      · simp
      · have := ih p hp; simp; omega
    · rw [cutL_other hx] at hp
      obtain ⟨q, qs, hq⟩ := cutL_ne c r
      rw [hq] at hp ih
      rcases List.mem_cons.1 hp with rfl | hp
      · have := ih q (by simp); simp; omega
      · have := ih p (by simp [hp]); simp; omega
theorem cutL_count (c : UInt8) (l : List UInt8) : (cutL c l).length ≤ l.length + 1 := by
  induction l with
  | nil => simp [cutL]
  | cons x r ih =>
    by_cases hx : x = c
    · subst hx; rw [cutL_eq]; simp; omega
    · rw [cutL_other hx]
      obtain ⟨q, qs, hq⟩ := cutL_ne c r
      rw [hq] at ih ⊢
      simp [onto] at ih ⊢; omega
theorem splitK_cut (c : UInt8) (l : List UInt8) : Lib.splitK [c] 0 (l.count c) l = cutL c l := by
  induction l with
  | nil => rfl
  | cons x r ih =>
    by_cases hx : x = c
    · subst hx
      have hi : Lib.index (x :: r) [x] = 0 := by rw [Lib.index_one, Lib.indexByte]; simp
      rw [cutL_eq, List.count_cons_self, Lib.splitK, hi, ← ih]
      simp
    · have hc : (x :: r).count c = r.count c := by rw [List.count_cons]; simp [hx]
      rw [cutL_other hx, hc, ← ih]
      cases hk : r.count c with
      | zero => rfl
      | succ k =>
        have hmem : c ∈ r := List.count_pos_iff.1 (by omega)
        have hge := Lib.indexByte_ge r c
        have hne : Lib.indexByte r c ≠ -1 := by
          intro e
          obtain ⟨j, hj⟩ := List.getElem?_of_mem hmem
          exact Lib.indexByte_none e j hj
        obtain ⟨i, hi⟩ : ∃ i : Nat, Lib.indexByte r c = i := ⟨(Lib.indexByte r c).toNat, by omega⟩
        have h1 : Lib.index r [c] = (i : Int) := by rw [Lib.index_one, hi]
        have h2 : Lib.index (x :: r) [c] = ((i + 1 : Nat) : Int) := by
          have hxb : (x == c) = false := beq_eq_false_iff_ne.2 hx
          rw [Lib.index_one, Lib.indexByte, hi]
          simp [hxb] <;> omega
        have b1 : ((i : Int) == -1) = false := beq_eq_false_iff_ne.2 (by omega)
        have b2 : (((i + 1 : Nat) : Int) == -1) = false := beq_eq_false_iff_ne.2 (by omega)
        rw [Lib.splitK, Lib.splitK, h1, h2, b1, b2]
        simp [onto]
theorem split_eq (c : UInt8) (l : List UInt8) (hl : l.length < 4294967281) : strings_Split.f (bs l) (bs [c]) = some ((cutL c l).map bs) := by
  unfold strings_Split.f
  rw [if_pos (by rw [bs_size]; exact hl), if_pos (by rw [bs_size]; simp)]
  have h1 := Lib.splitB_data (bs [c]) 0 (Lib.countB (bs l) (bs [c])) (bs l)
  have h2 : Lib.countB (bs l) (bs [c]) = l.count c := by
    rw [← Lib.count_one c l]
    show Lib.count (bs l).data.toList (bs [c]).data.toList = _
    rw [bs_data, bs_data]
  rw [h2, bs_data, bs_data, splitK_cut] at h1
  rw [h2, ← h1, List.map_map]
  congr 1
  symm
  rw [List.map_congr_left (g := id)]
  · simp
  · intro x _; exact (bs_of x).symm
theorem bs_extract (l : List UInt8) (a b : Nat) : (bs l).extract a b = bs ((l.drop a).take (b - a)) := by
  apply Go.WideShapes.bytes_inj
  rw [Lib.extract_data, bs_data, bs_data]
theorem piece_eq (pre p post : List UInt8) : (bs (pre ++ p ++ post)).extract ((pre.length : Int)).toNat (((pre ++ p).length : Int)).toNat = bs p := by
  have e1 : ((pre.length : Int)).toNat = pre.length := by omega
  have e2 : (((pre ++ p).length : Int)).toNat - pre.length = p.length := by rw [List.length_append]; omega
  have e3 : (pre ++ p ++ post).drop pre.length = p ++ post := by rw [List.append_assoc, List.drop_left]
  rw [bs_extract, e1, e2, e3, List.take_left]

end Go.Proofs.YtlmdoapjcnaflaaDoor.Pure
