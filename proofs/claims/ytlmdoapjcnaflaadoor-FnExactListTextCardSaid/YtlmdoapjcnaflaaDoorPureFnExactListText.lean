/- The program's ListText and the reference's answer alike for every list. -/
import Derived.Test.YtlmdoapjcnaflaaDoorQ0
import Derived.Test.YtlmdoapjcnaflaaDoorQ13
import Derived.Test.YtlmdoapjcnaflaaDoorPText
import Derived.Test.YtlmdoapjcnaflaaDoorPList
import Derived.Test.YtlmdoapjcnaflaaDoorPTo
import Derived.Test.YtlmdoapjcnaflaaDoorPIsList
namespace Go.Proofs.YtlmdoapjcnaflaaDoor.Pure
open Go.RowKit Go.Proofs.YtlmdoapjcnaflaaDoor.Q Go.Proofs.YtlmdoapjcnaflaaDoorW.PrintWords Go.Proofs.YtlmdoapjcnaflaaDoorW.PrintLast
set_option linter.unusedVariables false
set_option linter.unusedSimpArgs false

theorem stext_at (post : List Int) : ∀ (pre : List Int) (acc : List UInt8) (k : Nat), (∀ n ∈ post, Num n) → acc.length + 23 * post.length ≤ 10000 → pre.length + post.length ≤ 100 → 30 + post.length < k →
    spec_l01Text.l0 k (pre ++ post) (bs acc) pre.length = some (bs (acc ++ Lib.joinTail [44] (post.map Lib.itoa))) := by
  induction post with
  | nil =>
    intro pre acc k hn ha hp hk
    obtain ⟨k, rfl⟩ : ∃ m, k = m + 1 := ⟨k - 1, by omega⟩
    rw [spec_l01Text.l0, if_neg (by simp)]
    simp [tail_nil]
  | cons p post ih =>
    intro pre acc k hn ha hp hk
    simp only [List.length_cons] at ha hp hk
    obtain ⟨k, rfl⟩ : ∃ m, k = m + 1 := ⟨k - 1, by omega⟩
    have hlt : (pre.length : Int) < ((pre ++ p :: post).length : Int) := by simp; omega
    have h0' : (0 : Int) ≤ (pre.length : Int) := by omega
    have er : rd (pre ++ p :: post) (pre.length : Int) = p := by simp [rd]
    have e2 : wrap64 ((pre.length : Int) + 1) = ((pre ++ [p]).length : Int) := by rw [w64 (by omega)]; simp
    have e3 : pre ++ p :: post = (pre ++ [p]) ++ post := by simp
    have hp1 := hn p (by simp)
    have hlen := itoa_len p hp1.1 hp1.2
    have e44 : (⟨#[44]⟩ : ByteArray) = bs [44] := rfl
    rw [spec_l01Text.l0, if_pos hlt, if_pos h0', er, dec_eq p hp1.1 hp1.2 k (by omega), Option.bind_some, itoaS_bs, e44, bs_append, bs_append, bs_size, bs_size, bs_size, if_pos (by omega), if_pos (by simp; omega), e2, e3]
    rw [ih (pre ++ [p]) (acc ++ ([44] ++ Lib.itoa p)) k (fun n h => hn n (by simp [h])) (by simp; omega) (by simp; omega) (by omega), List.map_cons, tail_cons]
    simp
theorem text_both (l : List Int) : ∃ (r : ByteArray) (q : Bool), ∀ k, l.length + 200 < k → l.length ≤ 1048576 → spec_ListText.f k l = some (r, q) ∧ impl_ListText.f k l = some (r, q) := by
  cases hv : listB l with
  | false =>
    refine ⟨⟨#[]⟩, false, fun k hk hl => ⟨?_, ?_⟩⟩
    · unfold spec_ListText.f; rw [slist_eq k l (by omega) (by omega), hv]; rfl
    · unfold impl_ListText.f; rw [ilist_eq, hv]; rfl
  | true =>
    have hv' := hv
    unfold listB at hv'
    rw [Bool.and_eq_true, List.all_eq_true] at hv'
    obtain ⟨h64, hall⟩ := hv'
    have h64 : l.length ≤ 64 := by have := of_decide_eq_true h64; omega
    have hn : ∀ n ∈ l, Num n := fun n h => by have := inR_iff (hall n h); unfold Num; omega
    cases l with
    | nil =>
      refine ⟨⟨#[45]⟩, true, fun k hk hl => ⟨?_, ?_⟩⟩
      · unfold spec_ListText.f; rw [slist_eq k [] (by omega) (by omega), hv]; rfl
      · unfold impl_ListText.f; rw [ilist_eq, hv]; rfl
    | cons p post =>
      have hne : ¬ (((p :: post).length : Int) = 0) := by simp only [List.length_cons]; omega
      have hp0 : (0 : Int) < ((p :: post).length : Int) := by simp only [List.length_cons]; omega
      have hp1 := hn p (by simp)
      have hlen := itoa_len p hp1.1 hp1.2
      simp only [List.length_cons] at h64
      refine ⟨bs (Lib.join ((p :: post).map Lib.itoa) [44]), true, fun k hk hl => ⟨?_, ?_⟩⟩
      · unfold spec_ListText.f
        rw [slist_eq k (p :: post) (by omega) (by omega), hv, Option.bind_some, if_pos rfl]
        unfold spec_l01Text.f
        have er : rd (p :: post) 0 = p := by simp [rd]
        rw [if_neg hne, if_pos hp0, er, dec_eq p hp1.1 hp1.2 k (by omega), Option.bind_some, itoaS_bs]
        have := stext_at post [p] (Lib.itoa p) k (fun n h => hn n (by simp [h])) (by omega) (by simp only [List.length_cons, List.length_nil]; omega) (by simp only [List.length_cons] at hk; omega)
        have e5 : spec_l01Text.l0 k (p :: post) (bs (Lib.itoa p)) 1 = some (bs (Lib.itoa p ++ Lib.joinTail [44] (post.map Lib.itoa))) := this
        rw [e5, List.map_cons, Lib.join_cons]
        rfl
      · unfold impl_ListText.f
        have e44 : (⟨#[44]⟩ : ByteArray) = bs [44] := rfl
        rw [ilist_eq, hv, Option.bind_some, if_pos rfl, if_neg hne, e44, decimals_eq [44] (by simp) (p :: post) k hn (by simp only [List.length_cons]; omega) (by omega)]
        rfl

theorem FnExactListText (l : List Int) (hm : l.length ≤ 9223372036854775807) (_ : ∀ z ∈ l, (Lit.int .i64 z).wf = true) : ∃ k, laws_FnExactListText.f k l = some true := by
  refine ⟨l.length + 210, ?_⟩
  unfold laws_FnExactListText.f
  by_cases hl : (l.length : Int) > 1048576
  · rw [if_pos hl]
  · obtain ⟨r, q, e⟩ := text_both l
    have hbb : (q != q) = false := by cases q <;> rfl
    obtain ⟨e1, e2⟩ := e (l.length + 210) (by omega) (by omega)
    rw [if_neg hl, to_eq _ l (by omega) (by omega), Option.bind_some, e1, Option.bind_some, Option.bind_some, e2]
    simp only [Option.bind_some, if_true, hbb]
    rw [laws_FnExactListText.j0, if_neg (by simp), to_eq _ l (by omega) (by omega)]
    simp only [Option.bind_some]
    rw [eqInts_self _ l (by omega) (by omega)]
    rfl

end Go.Proofs.YtlmdoapjcnaflaaDoor.Pure
