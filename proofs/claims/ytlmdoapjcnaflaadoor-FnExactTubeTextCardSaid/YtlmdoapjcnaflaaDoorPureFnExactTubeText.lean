/- The program's TubeText and the reference's answer alike for every tube. -/
import Derived.Test.YtlmdoapjcnaflaaDoorQ0
import Derived.Test.YtlmdoapjcnaflaaDoorQ1
import Derived.Test.YtlmdoapjcnaflaaDoorQ15
import Derived.Test.YtlmdoapjcnaflaaDoorPText
import Derived.Test.YtlmdoapjcnaflaaDoorPTubeT
namespace Go.Proofs.YtlmdoapjcnaflaaDoor.Pure
open Go.RowKit Go.Proofs.YtlmdoapjcnaflaaDoor.Q Go.Proofs.YtlmdoapjcnaflaaDoorW.PrintWords Go.Proofs.YtlmdoapjcnaflaaDoorW.PrintLast
set_option linter.unusedVariables false
set_option linter.unusedSimpArgs false

/-- A ring's text. -/
def ringTx (x : S71) : List UInt8 := (if x.f0 = 0 then [115] else [116]) ++ Lib.itoa x.f1
theorem ring_num {x : S71} (h : ringB x.f0 x.f1 = true) : (x.f0 = 0 ∨ x.f0 = 1) ∧ 0 ≤ x.f1 ∧ x.f1 ≤ 15 := by
  simp only [ringB, Bool.and_eq_true] at h
  have h1 := inR_iff h.1
  have h2 := inR_iff h.2
  omega
theorem ringTx_len {x : S71} (h : ringB x.f0 x.f1 = true) : (ringTx x).length ≤ 23 := by
  obtain ⟨_, h1, h2⟩ := ring_num h
  have := itoa_len x.f1 (by omega) (by omega)
  unfold ringTx
  split <;> simp <;> omega
theorem iring_tx {x : S71} (h : ringB x.f0 x.f1 = true) : impl_ringText.f x.f0 x.f1 = some (bs (ringTx x)) := by
  obtain ⟨h0, h1, h2⟩ := ring_num h
  have hl := itoa_len x.f1 (by omega) (by omega)
  have e0 : ((⟨#[115, 116]⟩ : ByteArray).extract 0 1) = bs [115] := by decide
  have e1 : ((⟨#[115, 116]⟩ : ByteArray).extract 1 2) = bs [116] := by decide
  unfold impl_ringText.f ringTx
  rcases h0 with h0 | h0
  · have ew : wrap64 (x.f0 + 1) = 1 := by rw [h0]; exact w64 (by omega)
    rw [ew, h0, if_pos (by omega), if_pos (by omega), if_pos (by omega), idec_eq x.f1 (by omega) (by omega), Option.bind_some, itoaS_bs]
    have e : ((⟨#[115, 116]⟩ : ByteArray).extract (0 : Int).toNat (1 : Int).toNat) = bs [115] := e0
    rw [e, bs_append, bs_size, bs_size, if_pos (by simp; omega), if_pos rfl]
  · have ew : wrap64 (x.f0 + 1) = 2 := by rw [h0]; exact w64 (by omega)
    rw [ew, h0, if_pos (by omega), if_pos (by omega), if_pos (by omega), idec_eq x.f1 (by omega) (by omega), Option.bind_some, itoaS_bs]
    have e : ((⟨#[115, 116]⟩ : ByteArray).extract (1 : Int).toNat (2 : Int).toNat) = bs [116] := e1
    rw [e, bs_append, bs_size, bs_size, if_pos (by simp; omega), if_neg (by omega)]
theorem itube_at (post : List S71) : ∀ (pre : List S71) (acc : List (List UInt8)) (k : Nat), (∀ x ∈ post, ringB x.f0 x.f1 = true) → (∀ x ∈ acc, x.length ≤ 30) → acc.length ≤ pre.length → pre.length + post.length ≤ 100 → post.length < k →
    impl_TubeText.l0 k (acc.map bs) (pre ++ post) ((pre ++ post).length : Int) pre.length = some (bs (Lib.join (acc ++ post.map ringTx) [32]), true) := by
  induction post with
  | nil =>
    intro pre acc k hn ha hl hp hk
    obtain ⟨k, rfl⟩ : ∃ m, k = m + 1 := ⟨k - 1, by omega⟩
    have e32 : (⟨#[32]⟩ : ByteArray) = bs [32] := rfl
    rw [impl_TubeText.l0, if_neg (by simp), e32, join_eq acc [32] (by simp at hp; omega) ha (by simp)]
    simp
  | cons p post ih =>
    intro pre acc k hn ha hl hp hk
    simp only [List.length_cons] at hp hk
    obtain ⟨k, rfl⟩ : ∃ m, k = m + 1 := ⟨k - 1, by omega⟩
    have hlt : (pre.length : Int) < ((pre ++ p :: post).length : Int) := by simp; omega
    have h0' : (0 : Int) ≤ (pre.length : Int) := by omega
    have e2 : wrap64 ((pre.length : Int) + 1) = ((pre ++ [p]).length : Int) := by rw [w64 (by omega)]; simp
    have e3 : pre ++ p :: post = (pre ++ [p]) ++ post := by simp
    have hp1 := hn p (by simp)
    have e4 : (acc.map bs) ++ [bs (ringTx p)] = (acc ++ [ringTx p]).map bs := by simp
    rw [impl_TubeText.l0, if_pos hlt, if_pos h0', if_pos hlt, rd71_at, iring_tx hp1, Option.bind_some, if_pos (by simp; omega), e2, e3, e4]
    rw [ih (pre ++ [p]) (acc ++ [ringTx p]) k (fun n h => hn n (by simp [h])) (fun x hx => by
      rcases List.mem_append.1 hx with hx | hx
      · exact ha x hx
      · rw [List.mem_singleton.1 hx]; have := ringTx_len hp1; omega) (by simp; omega) (by simp; omega) (by omega)]
    simp
theorem step_tx (x : S71) (h : ringB x.f0 x.f1 = true) (acc : List UInt8) (ha : acc.length ≤ 10000) (k : Nat) (hk : 25 < k) (G : ByteArray → Option ByteArray) :
    (if x.f0 = 0 then (if (bs acc).size + 1 ≤ 9223372036854775807 then ((spec_l01Dec.f k x.f1).bind fun t => (if ((bs acc) ++ (⟨#[115]⟩ : ByteArray)).size + t.size ≤ 9223372036854775807 then G (((bs acc) ++ (⟨#[115]⟩ : ByteArray)) ++ t) else none)) else none)
      else (if (bs acc).size + 1 ≤ 9223372036854775807 then ((spec_l01Dec.f k x.f1).bind fun t => (if ((bs acc) ++ (⟨#[116]⟩ : ByteArray)).size + t.size ≤ 9223372036854775807 then G (((bs acc) ++ (⟨#[116]⟩ : ByteArray)) ++ t) else none)) else none)) = G (bs (acc ++ ringTx x)) := by
  obtain ⟨h0, h1, h2⟩ := ring_num h
  have hl := itoa_len x.f1 (by omega) (by omega)
  have e5 : (⟨#[115]⟩ : ByteArray) = bs [115] := rfl
  have e6 : (⟨#[116]⟩ : ByteArray) = bs [116] := rfl
  rw [dec_eq x.f1 (by omega) (by omega) k hk]
  simp only [Option.bind_some, itoaS_bs, e5, e6, bs_append, bs_size, List.length_append, List.length_cons, List.length_nil]
  unfold ringTx
  by_cases hc : x.f0 = 0
  · rw [if_pos hc, if_pos (by omega), if_pos (by omega), if_pos hc, List.append_assoc]
  · rw [if_neg hc, if_pos (by omega), if_pos (by omega), if_neg hc, List.append_assoc]
theorem stube_at (post : List S71) : ∀ (pre : List S71) (acc : List UInt8) (k : Nat), 0 < pre.length → (∀ x ∈ post, ringB x.f0 x.f1 = true) → acc.length + 24 * post.length ≤ 9000 → pre.length + post.length ≤ 100 → 30 + post.length < k →
    spec_l03Text.l0 k (pre ++ post) (bs acc) pre.length = some (bs (acc ++ Lib.joinTail [32] (post.map ringTx))) := by
  induction post with
  | nil =>
    intro pre acc k h1 hn ha hp hk
    obtain ⟨k, rfl⟩ : ∃ m, k = m + 1 := ⟨k - 1, by omega⟩
    rw [spec_l03Text.l0, if_neg (by simp)]
    simp [tail_nil]
  | cons p post ih =>
    intro pre acc k h1 hn ha hp hk
    simp only [List.length_cons] at ha hp hk
    obtain ⟨k, rfl⟩ : ∃ m, k = m + 1 := ⟨k - 1, by omega⟩
    have hlt : (pre.length : Int) < ((pre ++ p :: post).length : Int) := by simp; omega
    have h0' : (0 : Int) ≤ (pre.length : Int) := by omega
    have e2 : wrap64 ((pre.length : Int) + 1) = ((pre ++ [p]).length : Int) := by rw [w64 (by omega)]; simp
    have e3 : pre ++ p :: post = (pre ++ [p]) ++ post := by simp
    have hp1 := hn p (by simp)
    have hlen := ringTx_len hp1
    have e32 : (⟨#[32]⟩ : ByteArray) = bs [32] := rfl
    rw [spec_l03Text.l0, if_pos hlt, if_pos (by omega), if_pos (by rw [bs_size]; omega), if_pos h0', rd71_at, e32, bs_append, step_tx p hp1 (acc ++ [32]) (by simp; omega) k (by omega) (fun t => spec_l03Text.l0 k (pre ++ p :: post) t (wrap64 ((pre.length : Int) + 1)))]
    rw [e2, e3, ih (pre ++ [p]) (acc ++ [32] ++ ringTx p) k (by simp) (fun n h => hn n (by simp [h])) (by simp; omega) (by simp; omega) (by omega), List.map_cons, tail_cons]
    simp
theorem tx_both (l : List S71) (hl : l.length ≤ 1048576) : ∃ (r : ByteArray) (q : Bool), ∀ k, l.length + 200 < k → spec_TubeText.f k l = some (r, q) ∧ impl_TubeText.f k l = some (r, q) := by
  cases hv : tubeV l with
  | false =>
    refine ⟨⟨#[]⟩, false, fun k hk => ⟨?_, ?_⟩⟩
    · unfold spec_TubeText.f; rw [stube_eq k l (by omega) (by omega), hv]; rfl
    · unfold impl_TubeText.f; rw [itube_eq k l (by omega) (by omega), hv]; rfl
  | true =>
    obtain ⟨v1, v2⟩ := tubeV_iff hv
    refine ⟨bs (Lib.join (l.map ringTx) [32]), true, fun k hk => ⟨?_, ?_⟩⟩
    · unfold spec_TubeText.f
      rw [stube_eq k l (by omega) (by omega), hv, Option.bind_some, if_pos rfl]
      unfold spec_l03Text.f
      cases l with
      | nil =>
        obtain ⟨k, rfl⟩ : ∃ m, k = m + 1 := ⟨k - 1, by omega⟩
        rw [spec_l03Text.l0, if_neg (by simp)]
        rfl
      | cons p post =>
        simp only [List.length_cons] at v2 hk
        obtain ⟨k, rfl⟩ : ∃ m, k = m + 1 := ⟨k - 1, by omega⟩
        have hp1 := v1 p (by simp)
        have hlen := ringTx_len hp1
        have e0 : (⟨#[]⟩ : ByteArray) = bs [] := rfl
        have er : rd_T71 (p :: post) 0 = p := by simp [rd_T71]
        rw [spec_l03Text.l0, if_pos (by simp only [List.length_cons]; omega), if_neg (by omega), if_pos (by omega), er, e0, step_tx p hp1 [] (by simp) k (by omega) (fun t => spec_l03Text.l0 k (p :: post) t (wrap64 (0 + 1)))]
        have ew : wrap64 (0 + 1) = (([p] : List S71).length : Int) := by rw [w64 (by omega)]; rfl
        have := stube_at post [p] ([] ++ ringTx p) k (by simp) (fun n h => v1 n (by simp [h])) (by simp; omega) (by simp only [List.length_cons, List.length_nil]; omega) (by omega)
        have e5 : spec_l03Text.l0 k (p :: post) (bs ([] ++ ringTx p)) (wrap64 (0 + 1)) = some (bs ([] ++ ringTx p ++ Lib.joinTail [32] (post.map ringTx))) := by rw [ew]; exact this
        rw [e5, List.map_cons, Lib.join_cons]
        rfl
    · unfold impl_TubeText.f
      rw [itube_eq k l (by omega) (by omega), hv, Option.bind_some, if_pos rfl]
      exact itube_at l [] [] k v1 (by simp) (by simp) (by simp only [List.length_nil]; omega) (by omega)

theorem FnExactTubeText (l : List S73) (hm : l.length ≤ 9223372036854775807) (_ : ∀ z ∈ l, (Lit.int .i64 z.f0).wf = true ∧ (Lit.int .i64 z.f1).wf = true) : ∃ k, laws_FnExactTubeText.f k l = some true := by
  refine ⟨l.length + 210, ?_⟩
  unfold laws_FnExactTubeText.f
  rw [szR_eq l hm]
  simp only [Option.bind_some]
  by_cases h : (l.length : Int) > 1048576
  · rw [if_pos h, if_pos (by omega)]
  · have hll : (l.map ringOf).length = l.length := by simp
    obtain ⟨r, q, e⟩ := tx_both (l.map ringOf) (by omega)
    obtain ⟨e1, e2⟩ := e (l.length + 210) (by omega)
    have hbb : (q != q) = false := by cases q <;> rfl
    rw [if_neg h, if_neg (by omega), toRings_eq _ l (by omega) (by omega)]
    simp only [Option.bind_some, e1, e2, if_true, hbb]
    rw [laws_FnExactTubeText.j0, if_neg (by simp), toRings_eq _ l (by omega) (by omega), Option.bind_some, eqRs_self _ (l.map ringOf) (by omega) (by omega)]
    rfl

end Go.Proofs.YtlmdoapjcnaflaaDoor.Pure
