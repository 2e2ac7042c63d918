/- The program's ReadTube and the reference's answer alike for every text. -/
import Derived.Test.YtlmdoapjcnaflaaDoorQ0
import Derived.Test.YtlmdoapjcnaflaaDoorQ5
import Derived.Test.YtlmdoapjcnaflaaDoorQ22
import Derived.Test.YtlmdoapjcnaflaaDoorPCut
import Derived.Test.YtlmdoapjcnaflaaDoorPTubeM
namespace Go.Proofs.YtlmdoapjcnaflaaDoor.Pure
open Go.RowKit Go.Proofs.YtlmdoapjcnaflaaDoor.Q Go.Proofs.YtlmdoapjcnaflaaDoorW.PrintWords Go.Proofs.YtlmdoapjcnaflaaDoorW.PrintLast
set_option linter.unusedVariables false
set_option linter.unusedSimpArgs false

abbrev V (w : List UInt8) : Int × Bool := readV (bs w) (-1000000000) 1000000000
/-- The ring of a word, as the reference reads it. -/
def ringW : List UInt8 → S71
  | [] => ⟨-1, 0⟩
  | c :: r => if (V r).2 = true then (if c = 115 then ⟨0, (V r).1⟩ else if c = 116 then ⟨1, (V r).1⟩ else ⟨-1, 0⟩) else ⟨-1, 0⟩
theorem bt_head (c : UInt8) (r : List UInt8) : bt (bs (c :: r)) 0 = (c.toNat : Int) := bt_pre [] r c
theorem rest_eq (c : UInt8) (r : List UInt8) : (bs (c :: r)).extract 1 (bs (c :: r)).size = bs r := by
  rw [bs_extract, bs_size]
  simp
theorem c115 {c : UInt8} : ((c.toNat : Int) = 115) ↔ c = 115 := by
  have e : (115 : UInt8).toNat = 115 := rfl
  exact ⟨fun h => UInt8.toNat_inj.1 (by omega), fun h => by rw [h]; rfl⟩
theorem c116 {c : UInt8} : ((c.toNat : Int) = 116) ↔ c = 116 := by
  have e : (116 : UInt8).toNat = 116 := rfl
  exact ⟨fun h => UInt8.toNat_inj.1 (by omega), fun h => by rw [h]; rfl⟩
theorem sword_eq (w : List UInt8) (k : Nat) (hk : 110 < k) : spec_l03Word.f k (bs w) = some ((ringW w).f0, (ringW w).f1) := by
  unfold spec_l03Word.f
  cases w with
  | nil => rw [bs_size, if_pos (by simp)]; rfl
  | cons c r =>
    have hs : ((bs (c :: r)).size : Int) = r.length + 1 := by rw [bs_size]; simp
    rw [if_neg (by omega), if_pos (by omega), rest_eq, val_eq _ k (by omega), Option.bind_some, ringW, if_pos (show (0 : Int) < ((bs (c :: r)).size : Int) by omega), bt_head]
    by_cases hv : (V r).2 = true
    · rw [if_pos hv, if_pos hv]
      by_cases h5 : c = 115
      · rw [if_pos (c115.2 h5), if_pos h5]
      · rw [if_neg (fun h => h5 (c115.1 h)), if_neg h5]
        by_cases h6 : c = 116
        · rw [if_pos (c116.2 h6), if_pos h6]
        · rw [if_neg (fun h => h6 (c116.1 h)), if_neg h6]
    · rw [if_neg hv, if_neg hv]
theorem ringB_neg : ringB (-1) 0 = false := by decide
/-- The program reads the same ring, if it is valid. -/
theorem iring_eq2 (w : List UInt8) (k : Nat) (hk : 2 < k) (hl : w.length ≤ 1048576) : ∃ r : Int × Int × Bool, impl_readRing.f k (bs w) = some r ∧ r.2.2 = ringB (ringW w).f0 (ringW w).f1 ∧ (r.2.2 = true → (⟨r.1, r.2.1⟩ : S71) = ringW w) := by
  obtain ⟨k, rfl⟩ : ∃ m, k = m + 1 := ⟨k - 1, by omega⟩
  unfold impl_readRing.f
  cases w with
  | nil =>
    refine ⟨(0, 0, false), ?_, ?_, by simp⟩
    · rw [if_pos (by rw [bytes_toList, bs_data]), impl_readRing.j0, if_pos rfl]
    · simp [ringW, ringB_neg]
  | cons c r =>
    have hs : ((bs (c :: r)).size : Int) = r.length + 1 := by rw [bs_size]; simp
    simp only [List.length_cons] at hl
    have hne : ¬ ((bs (c :: r)).toList = ([] : List UInt8)) := by rw [bytes_toList, bs_data]; simp
    have hrd : impl_ReadDecimal.f (bs r) = some (V r) := by
      unfold impl_ReadDecimal.f impl_readIn.f
      rw [if_pos (by rw [bs_size]; omega)]
      rfl
    rw [if_neg hne, if_pos (by omega), bt_head, ringW]
    by_cases h5 : c = 115
    · subst h5
      rw [if_pos (c115.2 rfl), impl_readRing.j0, if_neg (by simp), if_pos (by omega), rest_eq, hrd, Option.bind_some, if_pos (by omega), bt_head, if_neg (by decide)]
      by_cases hv : (V r).2 = true
      · rw [if_pos hv, if_pos hv, iring_eq, if_pos rfl]
        exact ⟨_, rfl, rfl, fun _ => rfl⟩
      · rw [if_neg hv, if_neg hv]
        exact ⟨_, rfl, ringB_neg.symm, fun h => by cases h⟩
    · rw [if_neg (fun h => h5 (c115.1 h))]
      by_cases h6 : c = 116
      · subst h6
        have hb : (((116 : UInt8).toNat : Int) != 116) = false := by decide
        rw [hb, impl_readRing.j0, if_neg (by simp), if_pos (by omega), rest_eq, hrd, Option.bind_some, if_pos (by omega), bt_head, if_pos (c116.2 rfl), if_neg h5]
        by_cases hv : (V r).2 = true
        · rw [if_pos hv, if_pos hv, iring_eq, if_pos rfl]
          exact ⟨_, rfl, rfl, fun _ => rfl⟩
        · rw [if_neg hv, if_neg hv]
          exact ⟨_, rfl, ringB_neg.symm, fun h => by cases h⟩
      · have hb : ((c.toNat : Int) != 116) = true := by rw [bne_iff_ne]; exact fun h => h6 (c116.1 h)
        rw [hb, impl_readRing.j0, if_pos rfl, if_neg h5, if_neg h6]
        refine ⟨_, rfl, ?_, fun h => by cases h⟩
        by_cases hv : (V r).2 = true
        · rw [if_pos hv]; exact ringB_neg.symm
        · rw [if_neg hv]; exact ringB_neg.symm
def fin (l : List S71) : List S71 × Bool := if tubeV l = true then (l, true) else ([], false)
theorem fin_small (l : List S71) : (fin l).1.length ≤ 60 := by
  unfold fin
  by_cases h : tubeV l = true
  · rw [if_pos h]; exact (tubeV_iff h).2
  · rw [if_neg h]; simp
theorem fin_long (l : List S71) (h : 60 < l.length) : fin l = ([], false) := by
  unfold fin
  rw [if_neg]
  intro hv
  have := (tubeV_iff hv).2
  omega
theorem fin_bad (l : List S71) (x : S71) (hx : x ∈ l) (h : ringB x.f0 x.f1 = false) : fin l = ([], false) := by
  unfold fin
  rw [if_neg]
  intro hv
  have := (tubeV_iff hv).1 x hx
  rw [h] at this
  cases this
theorem send (acc : List S71) (k : Nat) (hk : acc.length + 115 < k) (ha : acc.length ≤ 60) (x0 : ByteArray) (a b : Int) : spec_l03Read.j1 k x0 acc a b false = some (fin acc) := by
  obtain ⟨k, rfl⟩ : ∃ m, k = m + 1 := ⟨k - 1, by omega⟩
  rw [spec_l03Read.j1, if_neg (by simp), stube_eq k acc (by omega) (by omega), Option.bind_some]
  unfold fin
  by_cases h : tubeV acc = true
  · rw [if_pos h, if_pos h]
  · rw [if_neg h, if_neg h]
theorem read_at (post : List UInt8) : ∀ (pre p : List UInt8) (acc : List S71) (k : Nat), 0 < pre.length + p.length + post.length → pre.length + p.length + post.length ≤ 1048576 → acc.length ≤ 60 → 210 + 3 * post.length < k →
    spec_l03Read.l0 k (bs (pre ++ p ++ post)) acc pre.length ((pre ++ p).length : Int) = some (fin (acc ++ (onto p (cutL 32 post)).map ringW)) := by
  induction post with
  | nil =>
    intro pre p acc k hq hp ha hk
    obtain ⟨k, rfl⟩ : ∃ m, k = m + 4 := ⟨k - 4, by omega⟩
    have hll : ((pre ++ p).length : Int) = pre.length + p.length := by simp
    have hsz : ((bs (pre ++ p ++ [])).size : Int) = ((pre ++ p).length : Int) := by rw [bs_size]; simp
    have hx : (bs (pre ++ p ++ [])).extract ((pre.length : Int)).toNat (((pre ++ p).length : Int)).toNat = bs p := piece_eq pre p []
    simp only [List.length_nil] at hq hp
    have e2 : wrap64 (((pre ++ p).length : Int) + 1) = ((pre ++ p).length : Int) + 1 := w64 (by omega)
    have ho : onto p (cutL 32 []) = [p] := by simp [cutL, onto]
    have hd : decide (((bs (pre ++ p ++ [])).size : Int) > 0) = true := decide_eq_true (by omega)
    rw [spec_l03Read.l0, if_pos (by omega), hd, spec_l03Read.j1, if_pos rfl, if_neg (by omega), spec_l03Read.j2, if_neg (by simp), ho]
    by_cases h60 : acc.length = 60
    · rw [if_pos (by omega), fin_long _ (by simp; omega)]
    · rw [if_neg (by omega), if_pos (by omega), if_pos (by omega), if_pos (by omega), hx, sword_eq p (k + 1) (by omega), Option.bind_some, if_pos (by omega), e2, spec_l03Read.l0, if_neg (by omega), send _ k (by simp; omega) (by simp; omega)]
      simp
  | cons c post ih =>
    intro pre p acc k hq hp ha hk
    simp only [List.length_cons] at hq hp hk
    obtain ⟨k, rfl⟩ : ∃ m, k = m + 3 := ⟨k - 3, by omega⟩
    have hsz : ((bs (pre ++ p ++ c :: post)).size : Int) = ((pre ++ p).length : Int) + 1 + post.length := by rw [bs_size]; simp; omega
    have h0 : (0 : Int) ≤ ((pre ++ p).length : Int) := by omega
    have hll : ((pre ++ p).length : Int) = pre.length + p.length := by simp
    have e2 : wrap64 (((pre ++ p).length : Int) + 1) = ((pre ++ p ++ [c]).length : Int) := by rw [w64 (by omega)]; simp only [List.length_append, List.length_cons, List.length_nil]; omega
    have hd : decide (((bs (pre ++ p ++ c :: post)).size : Int) > 0) = true := decide_eq_true (by omega)
    rw [spec_l03Read.l0, if_pos (by omega), hd, spec_l03Read.j1, if_pos rfl, if_pos (by omega), if_pos h0, bt_pre, spec_l03Read.j2]
    by_cases hc : c = 32
    · subst hc
      have hb : (((32 : UInt8).toNat : Int) != 32) = false := by decide
      have hx : (bs (pre ++ p ++ 32 :: post)).extract ((pre.length : Int)).toNat (((pre ++ p).length : Int)).toNat = bs p := piece_eq pre p _
      have ho : onto p ([] :: cutL 32 post) = p :: cutL 32 post := by simp [onto]
      rw [hb, if_neg (by simp), cutL_eq, ho]
      by_cases h60 : acc.length = 60
      · rw [if_pos (by omega), fin_long _ (by simp; omega)]
      · rw [if_neg (by omega), if_pos (by omega), if_pos (by omega), if_pos (by omega), hx, sword_eq p k (by omega), Option.bind_some, if_pos (by omega), e2]
        have := ih (pre ++ p ++ [32]) [] (acc ++ [ringW p]) k (by simp only [List.length_append, List.length_cons, List.length_nil]; omega) (by simp; omega) (by simp; omega) (by omega)
        rw [onto_nil _ (cutL_ne _ _)] at this
        have e3 : pre ++ p ++ 32 :: post = pre ++ p ++ [32] ++ [] ++ post := by simp
        have e4 : ((pre ++ p ++ [32] ++ []).length : Int) = ((pre ++ p ++ [32]).length : Int) := by simp
        have e5 : acc ++ [ringW p] ++ (cutL 32 post).map ringW = acc ++ (p :: cutL 32 post).map ringW := by simp
        rw [e4, e5] at this
        rw [e3]
        exact this
    · have hb : ((c.toNat : Int) != 32) = true := by
        rw [bne_iff_ne]
        intro e
        have e32 : (32 : UInt8).toNat = 32 := rfl
        exact hc (UInt8.toNat_inj.1 (by omega))
      rw [hb, if_pos rfl, e2, cutL_other hc, onto_onto _ _ _ (cutL_ne _ _)]
      have := ih pre (p ++ [c]) acc k (by simp only [List.length_append, List.length_cons, List.length_nil]; omega) (by simp; omega) ha (by omega)
      have e3 : pre ++ p ++ c :: post = pre ++ (p ++ [c]) ++ post := by simp
      have e4 : ((pre ++ p ++ [c]).length : Int) = ((pre ++ (p ++ [c])).length : Int) := by simp
      rw [e3, e4]
      exact this
theorem iread_at (ws : List (List UInt8)) : ∀ (pre : List ByteArray) (acc : List S71) (k : Nat), (∀ w ∈ ws, w.length ≤ 1048576) → pre.length + ws.length ≤ 2097160 → acc.length = pre.length → 2 * ws.length + acc.length + 215 < k →
    impl_ReadTube.l0 k acc (pre ++ ws.map bs) ((pre ++ ws.map bs).length : Int) pre.length = some (fin (acc ++ ws.map ringW)) := by
  induction ws with
  | nil =>
    intro pre acc k hw hp ha hk
    obtain ⟨k, rfl⟩ : ∃ m, k = m + 1 := ⟨k - 1, by omega⟩
    simp only [List.length_nil] at hp hk
    rw [impl_ReadTube.l0, if_neg (by simp), itube_eq k acc (by omega) (by omega), Option.bind_some]
    unfold fin
    simp only [List.map_nil, List.append_nil]
    by_cases h : tubeV acc = true
    · rw [if_pos h, if_pos h]
    · rw [if_neg h, if_neg h]
  | cons w ws ih =>
    intro pre acc k hw hp ha hk
    simp only [List.length_cons] at hp hk
    obtain ⟨k, rfl⟩ : ∃ m, k = m + 1 := ⟨k - 1, by omega⟩
    have hlt : (pre.length : Int) < ((pre ++ (w :: ws).map bs).length : Int) := by simp; omega
    have h0' : (0 : Int) ≤ (pre.length : Int) := by omega
    have er : rdOf ByteArray.empty (pre ++ (w :: ws).map bs) (pre.length : Int) = bs w := by simp [rdOf]
    have e2 : wrap64 ((pre.length : Int) + 1) = ((pre ++ [bs w]).length : Int) := by rw [w64 (by omega)]; simp
    have e3 : pre ++ (w :: ws).map bs = (pre ++ [bs w]) ++ ws.map bs := by simp
    obtain ⟨r, r1, r2, r3⟩ := iring_eq2 w k (by omega) (hw w (by simp))
    rw [impl_ReadTube.l0, if_pos hlt, if_pos h0', if_pos hlt, er, r1, Option.bind_some]
    by_cases hv : r.2.2 = true
    · rw [if_pos hv, if_pos (by omega), r3 hv, e2, e3, ih (pre ++ [bs w]) (acc ++ [ringW w]) k (fun x hx => hw x (by simp [hx])) (by simp; omega) (by simp; omega) (by simp; omega)]
      simp
    · rw [if_neg hv, fin_bad _ (ringW w) (by simp)]
      rw [← r2]
      simpa using hv
theorem tube_both (l : List UInt8) (hl : l.length ≤ 1048576) : ∃ (r : List S71) (q : Bool), r.length ≤ 60 ∧ ∀ k, 9000000 < k → spec_ReadTube.f k (bs l) = some (r, q) ∧ impl_ReadTube.f k (bs l) = some (r, q) := by
  cases l with
  | nil =>
    refine ⟨[], true, by simp, fun k hk => ⟨?_, ?_⟩⟩
    · obtain ⟨k, rfl⟩ : ∃ m, k = m + 1 := ⟨k - 1, by omega⟩
      unfold spec_ReadTube.f spec_l03Read.f
      have hsz : ((bs []).size : Int) = 0 := by rw [bs_size]; rfl
      have hd : decide (((bs []).size : Int) > 0) = false := decide_eq_false (by omega)
      rw [spec_l03Read.l0, if_pos (by omega), hd, send [] k (by simp; omega) (by simp)]
      rfl
    · unfold impl_ReadTube.f
      rw [Option.bind_some, if_pos (by rw [bytes_toList, bs_data])]
  | cons c r =>
    have hne : ¬ ((bs (c :: r)).toList = ([] : List UInt8)) := by rw [bytes_toList, bs_data]; simp
    have hc := cutL_count 32 (c :: r)
    refine ⟨(fin ((cutL 32 (c :: r)).map ringW)).1, (fin ((cutL 32 (c :: r)).map ringW)).2, fin_small _, fun k hk => ⟨?_, ?_⟩⟩
    · unfold spec_ReadTube.f spec_l03Read.f
      have := read_at (c :: r) [] [] [] k (by simp) (by simpa using hl) (by simp) (by omega)
      rw [onto_nil _ (cutL_ne _ _)] at this
      have e : spec_l03Read.l0 k (bs (c :: r)) [] 0 0 = some (fin ((cutL 32 (c :: r)).map ringW)) := this
      rw [e]; rfl
    · unfold impl_ReadTube.f
      have e32 : (⟨#[32]⟩ : ByteArray) = bs [32] := rfl
      rw [Option.bind_some, if_neg hne, e32, split_eq 32 (c :: r) (by omega), Option.bind_some]
      exact iread_at (cutL 32 (c :: r)) [] [] k (fun w hw => Nat.le_trans (cutL_len 32 _ w hw) hl) (by simp only [List.length_nil]; omega) rfl (by simp only [List.length_nil]; omega)

theorem FnExactReadTube (s : ByteArray) (hs : s.size ≤ 140737488351232) : ∃ k, laws_FnExactReadTube.f k s = some true := by
  refine ⟨9000010, ?_⟩
  unfold laws_FnExactReadTube.f
  by_cases h : (s.size : Int) > 1048576
  · rw [if_pos h]
  · have hsz : s.data.toList.length = s.size := by rw [Array.length_toList]; rfl
    obtain ⟨r, q, hr, e⟩ := tube_both s.data.toList (by omega)
    rw [← bs_of s] at e
    have hbb : (q != q) = false := by cases q <;> rfl
    rw [if_neg h, (e _ (by omega)).1, Option.bind_some, (e _ (by omega)).2]
    simp only [Option.bind_some]
    rw [eqRs_self _ r (by omega) (by omega)]
    simp only [Option.bind_some, if_true, hbb]
    rw [laws_FnExactReadTube.j0, if_neg (by simp), markR_eq _ r (by omega) (by omega)]
    simp only [Option.bind_some]
    rw [heldR_eq _ r.length (by omega) (by omega)]
    simp only [Option.bind_some]
    rw [if_neg (by omega)]
    simp only [if_true]
    rw [(e _ (by omega)).2]
    simp only [Option.bind_some]
    rw [eqRs_self _ r (by omega) (by omega)]
    simp only [Option.bind_some, if_true, hbb]
    rw [laws_FnExactReadTube.j1, if_neg (by simp), heldR_eq _ r.length (by omega) (by omega)]
    simp only [Option.bind_some]
    rw [if_neg (by omega)]
    simp only [if_true]

end Go.Proofs.YtlmdoapjcnaflaaDoor.Pure
