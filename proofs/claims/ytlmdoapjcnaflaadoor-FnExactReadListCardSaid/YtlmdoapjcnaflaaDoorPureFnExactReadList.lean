/- The program's ReadList and the reference's answer alike for every text. -/
import Derived.Test.YtlmdoapjcnaflaaDoorQ0
import Derived.Test.YtlmdoapjcnaflaaDoorQ11
import Derived.Test.YtlmdoapjcnaflaaDoorQ17
import Derived.Test.YtlmdoapjcnaflaaDoorPCut
import Derived.Test.YtlmdoapjcnaflaaDoorPList
namespace Go.Proofs.YtlmdoapjcnaflaaDoor.Pure
open Go.RowKit Go.Proofs.YtlmdoapjcnaflaaDoor.Q Go.Proofs.YtlmdoapjcnaflaaDoorW.PrintWords Go.Proofs.YtlmdoapjcnaflaaDoorW.PrintLast
set_option linter.unusedVariables false
set_option linter.unusedSimpArgs false

abbrev V (w : List UInt8) : Int × Bool := readV (bs w) (-1000000000) 1000000000
/-- What the reference makes of the pieces. -/
def goN : List Int → List (List UInt8) → List Int × Bool
  | acc, [] => (acc, true)
  | acc, w :: ws => if (V w).2 = true then (if acc.length = 64 then ([], false) else goN (acc ++ [(V w).1]) ws) else ([], false)
/-- What the program makes of them. -/
def goI : List Int → List (List UInt8) → List Int × Bool
  | acc, [] => (acc, true)
  | acc, w :: ws => if (V w).2 = true then goI (acc ++ [(V w).1]) ws else ([], false)
def cap (r : List Int × Bool) : List Int × Bool := if r.2 = true then (if r.1.length > 64 then ([], false) else (r.1, true)) else ([], false)
theorem goI_len (ws : List (List UInt8)) : ∀ acc, (goI acc ws).2 = true → acc.length ≤ (goI acc ws).1.length := by
  induction ws with
  | nil => intro acc _; exact Nat.le_refl _
  | cons w ws ih =>
    intro acc h
    unfold goI at h ⊢
    by_cases hv : (V w).2 = true
    · rw [if_pos hv] at h ⊢
      have := ih _ h
      simp at this; omega
    · rw [if_neg hv] at h; cases h
theorem goN_goI (ws : List (List UInt8)) : ∀ acc, acc.length ≤ 64 → goN acc ws = cap (goI acc ws) := by
  induction ws with
  | nil => intro acc h; unfold goN goI cap; simp; omega
  | cons w ws ih =>
    intro acc h
    unfold goN goI
    by_cases hv : (V w).2 = true
    · rw [if_pos hv, if_pos hv]
      by_cases h64 : acc.length = 64
      · rw [if_pos h64]
        unfold cap
        by_cases h2 : (goI (acc ++ [(V w).1]) ws).2 = true
        · have := goI_len ws _ h2
          rw [if_pos h2, if_pos (by simp at this; omega)]
        · rw [if_neg h2]
      · rw [if_neg h64]
        exact ih _ (by simp; omega)
    · rw [if_neg hv, if_neg hv]; rfl
theorem goN_small (ws : List (List UInt8)) : ∀ acc, acc.length ≤ 64 → (goN acc ws).1.length ≤ 64 := by
  induction ws with
  | nil => intro acc h; exact h
  | cons w ws ih =>
    intro acc h
    unfold goN
    by_cases hv : (V w).2 = true
    · rw [if_pos hv]
      by_cases h64 : acc.length = 64
      · rw [if_pos h64]; simp
      · rw [if_neg h64]; exact ih _ (by simp; omega)
    · rw [if_neg hv]; simp
theorem num_at (post : List UInt8) : ∀ (pre p : List UInt8) (acc : List Int) (k : Nat), pre.length + p.length + post.length ≤ 1048576 → acc.length ≤ 64 → 110 + 2 * post.length < k →
    spec_l01Numbers.l0 k (bs (pre ++ p ++ post)) acc pre.length ((pre ++ p).length : Int) = some (goN acc (onto p (cutL 44 post))) := by
  induction post with
  | nil =>
    intro pre p acc k hp ha hk
    obtain ⟨k, rfl⟩ : ∃ m, k = m + 3 := ⟨k - 3, by omega⟩
    have hsz : ((bs (pre ++ p ++ [])).size : Int) = ((pre ++ p).length : Int) := by rw [bs_size]; simp
    have hx : (bs (pre ++ p ++ [])).extract ((pre.length : Int)).toNat (((pre ++ p).length : Int)).toNat = bs p := piece_eq pre p []
    have hll : ((pre ++ p).length : Int) = pre.length + p.length := by simp
    have e2 : wrap64 (((pre ++ p).length : Int) + 1) = ((pre ++ p).length : Int) + 1 := w64 (by simp at hp; omega)
    rw [spec_l01Numbers.l0, if_pos (by omega), if_neg (by omega), spec_l01Numbers.j1, if_neg (by simp), if_pos (by omega), if_pos (by omega), if_pos (by omega), hx, val_eq _ (k + 1) (by omega), Option.bind_some]
    have ho : onto p (cutL 44 []) = [p] := by simp [cutL, onto]
    rw [ho, goN]
    by_cases hv : (V p).2 = true
    · rw [if_pos hv, if_pos hv]
      by_cases h64 : acc.length = 64
      · rw [if_pos (by omega), if_pos h64]
      · rw [if_neg (by omega), if_neg h64, if_pos (by omega), e2, spec_l01Numbers.l0, if_neg (by omega)]
        rfl
    · rw [if_neg hv, if_neg hv]
  | cons c post ih =>
    intro pre p acc k hp ha hk
    simp only [List.length_cons] at hp hk
    obtain ⟨k, rfl⟩ : ∃ m, k = m + 2 := ⟨k - 2, by omega⟩
    have hsz : ((bs (pre ++ p ++ c :: post)).size : Int) = ((pre ++ p).length : Int) + 1 + post.length := by rw [bs_size]; simp; omega
    have h0 : (0 : Int) ≤ ((pre ++ p).length : Int) := by omega
    have hll : ((pre ++ p).length : Int) = pre.length + p.length := by simp
    have e2 : wrap64 (((pre ++ p).length : Int) + 1) = ((pre ++ p ++ [c]).length : Int) := by rw [w64 (by omega)]; simp only [List.length_append, List.length_cons, List.length_nil]; omega
    rw [spec_l01Numbers.l0, if_pos (by omega), if_pos (by omega), if_pos h0, bt_pre, spec_l01Numbers.j1]
    by_cases hc : c = 44
    · subst hc
      have hb : (((44 : UInt8).toNat : Int) != 44) = false := by decide
      have hx : (bs (pre ++ p ++ 44 :: post)).extract ((pre.length : Int)).toNat (((pre ++ p).length : Int)).toNat = bs p := piece_eq pre p _
      rw [hb, if_neg (by simp), if_pos (by omega), if_pos (by omega), if_pos (by omega), hx, val_eq _ k (by omega), Option.bind_some, cutL_eq]
      have ho : onto p ([] :: cutL 44 post) = p :: cutL 44 post := by simp [onto]
      rw [ho, goN]
      by_cases hv : (V p).2 = true
      · rw [if_pos hv, if_pos hv]
        by_cases h64 : acc.length = 64
        · rw [if_pos (by omega), if_pos h64]
        · rw [if_neg (by omega), if_neg h64, if_pos (by omega), e2]
          have := ih (pre ++ p ++ [44]) [] (acc ++ [(V p).1]) k (by simp; omega) (by simp; omega) (by omega)
          rw [onto_nil _ (cutL_ne _ _)] at this
          have e3 : pre ++ p ++ 44 :: post = pre ++ p ++ [44] ++ [] ++ post := by simp
          have e4 : ((pre ++ p ++ [44] ++ []).length : Int) = ((pre ++ p ++ [44]).length : Int) := by simp
          rw [e4] at this
          rw [e3]
          exact this
      · rw [if_neg hv, if_neg hv]
    · have hb : ((c.toNat : Int) != 44) = true := by
        rw [bne_iff_ne]
        intro e
        have e44 : (44 : UInt8).toNat = 44 := rfl
        exact hc (UInt8.toNat_inj.1 (by omega))
      rw [hb, if_pos rfl, e2, cutL_other hc, onto_onto _ _ _ (cutL_ne _ _)]
      have := ih pre (p ++ [c]) acc k (by simp; omega) ha (by omega)
      have e3 : pre ++ p ++ c :: post = pre ++ (p ++ [c]) ++ post := by simp
      have e4 : ((pre ++ p ++ [c]).length : Int) = ((pre ++ (p ++ [c])).length : Int) := by simp
      rw [e3, e4]
      exact this
theorem all_at (ws : List (List UInt8)) : ∀ (pre : List ByteArray) (acc : List Int) (k : Nat), (∀ w ∈ ws, w.length ≤ 1048576) → pre.length + ws.length ≤ 2097160 → acc.length ≤ pre.length → ws.length < k →
    impl_readAll.l0 k (-1000000000) 1000000000 acc (pre ++ ws.map bs) ((pre ++ ws.map bs).length : Int) pre.length = some (goI acc ws) := by
  induction ws with
  | nil =>
    intro pre acc k hw hp ha hk
    obtain ⟨k, rfl⟩ : ∃ m, k = m + 1 := ⟨k - 1, by omega⟩
    rw [impl_readAll.l0, if_neg (by simp)]
    rfl
  | cons w ws ih =>
    intro pre acc k hw hp ha hk
    simp only [List.length_cons] at hp hk
    obtain ⟨k, rfl⟩ : ∃ m, k = m + 1 := ⟨k - 1, by omega⟩
    have hlt : (pre.length : Int) < ((pre ++ (w :: ws).map bs).length : Int) := by simp; omega
    have h0' : (0 : Int) ≤ (pre.length : Int) := by omega
    have er : rdOf ByteArray.empty (pre ++ (w :: ws).map bs) (pre.length : Int) = bs w := by simp [rdOf]
    have e2 : wrap64 ((pre.length : Int) + 1) = ((pre ++ [bs w]).length : Int) := by rw [w64 (by omega)]; simp
    have e3 : pre ++ (w :: ws).map bs = (pre ++ [bs w]) ++ ws.map bs := by simp
    have hs := hw w (by simp)
    rw [impl_readAll.l0, if_pos hlt, if_pos h0', if_pos hlt, er]
    unfold impl_readIn.f
    rw [if_pos (by rw [bs_size]; omega), Option.bind_some, goI]
    by_cases hv : (V w).2 = true
    · rw [if_pos hv, if_pos hv, if_pos (by omega), e2, e3]
      exact ih (pre ++ [bs w]) _ k (fun x hx => hw x (by simp [hx])) (by simp; omega) (by simp; omega) (by omega)
    · rw [if_neg hv, if_neg hv]
theorem list_both (l : List UInt8) (hl : l.length ≤ 1048576) : ∃ (r : List Int) (q : Bool), r.length ≤ 64 ∧ ∀ k, 3000000 < k → spec_ReadList.f k (bs l) = some (r, q) ∧ impl_ReadList.f k (bs l) = some (r, q) := by
  by_cases h45 : (bs l).toList = ([45] : List UInt8)
  · refine ⟨[], true, by simp, fun k hk => ⟨?_, ?_⟩⟩
    · unfold spec_ReadList.f spec_l01Numbers.f; rw [if_pos h45]; rfl
    · unfold impl_ReadList.f; rw [if_pos h45]
  · refine ⟨(goN [] (cutL 44 l)).1, (goN [] (cutL 44 l)).2, goN_small _ [] (by simp), fun k hk => ⟨?_, ?_⟩⟩
    · unfold spec_ReadList.f spec_l01Numbers.f
      rw [if_neg h45]
      have := num_at l [] [] [] k (by simpa using hl) (by simp) (by omega)
      rw [onto_nil _ (cutL_ne _ _)] at this
      have e : spec_l01Numbers.l0 k (bs l) [] 0 0 = some (goN [] (cutL 44 l)) := this
      rw [e]; rfl
    · unfold impl_ReadList.f impl_readAll.f
      have e44 : (⟨#[44]⟩ : ByteArray) = bs [44] := rfl
      have hc := cutL_count 44 l
      rw [if_neg h45, e44, split_eq 44 l (by omega), Option.bind_some]
      have := all_at (cutL 44 l) [] [] k (fun w hw => Nat.le_trans (cutL_len 44 l w hw) hl) (by simp only [List.length_nil]; omega) (by simp) (by omega)
      have e : impl_readAll.l0 k (-1000000000) 1000000000 [] ((cutL 44 l).map bs) (((cutL 44 l).map bs).length : Int) 0 = some (goI [] (cutL 44 l)) := this
      rw [e, Option.bind_some, goN_goI _ [] (by simp)]
      unfold cap
      by_cases h2 : (goI [] (cutL 44 l)).2 = true
      · rw [if_pos h2, if_pos h2]
        by_cases h3 : (goI [] (cutL 44 l)).1.length > 64
        · rw [if_pos h3, if_pos (by omega)]
        · rw [if_neg h3, if_neg (by omega)]
      · rw [if_neg h2, if_neg h2]

theorem FnExactReadList (s : ByteArray) (hs : s.size ≤ 140737488351232) : ∃ k, laws_FnExactReadList.f k s = some true := by
  refine ⟨3000010, ?_⟩
  unfold laws_FnExactReadList.f
  by_cases h : (s.size : Int) > 1048576
  · rw [if_pos h]
  · have hsz : s.data.toList.length = s.size := by rw [Array.length_toList]; rfl
    obtain ⟨r, q, hr, e⟩ := list_both s.data.toList (by omega)
    rw [← bs_of s] at e
    have hbb : (q != q) = false := by cases q <;> rfl
    rw [if_neg h, (e _ (by omega)).1, Option.bind_some, (e _ (by omega)).2]
    simp only [Option.bind_some]
    rw [eqInts_self _ r (by omega) (by omega)]
    simp only [Option.bind_some, if_true, hbb]
    rw [laws_FnExactReadList.j0, if_neg (by simp), mark_eq _ r (by omega) (by omega)]
    simp only [Option.bind_some]
    rw [held_eq _ r.length (by omega) (by omega)]
    simp only [Option.bind_some]
    rw [if_neg (by omega)]
    simp only [if_true]
    rw [(e _ (by omega)).2]
    simp only [Option.bind_some]
    rw [eqInts_self _ r (by omega) (by omega)]
    simp only [Option.bind_some, if_true, hbb]
    rw [laws_FnExactReadList.j1, if_neg (by simp), held_eq _ r.length (by omega) (by omega)]
    simp only [Option.bind_some]
    rw [if_neg (by omega)]
    simp only [if_true]

end Go.Proofs.YtlmdoapjcnaflaaDoor.Pure
