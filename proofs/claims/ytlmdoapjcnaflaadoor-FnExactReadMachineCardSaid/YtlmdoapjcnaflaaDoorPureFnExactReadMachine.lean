/- The program's ReadMachine and the reference's answer alike for every text. -/
import Derived.Test.YtlmdoapjcnaflaaDoorQ0
import Derived.Test.YtlmdoapjcnaflaaDoorQ5
import Derived.Test.YtlmdoapjcnaflaaDoorQ8
import Derived.Test.YtlmdoapjcnaflaaDoorQ11
import Derived.Test.YtlmdoapjcnaflaaDoorQ18
import Derived.Test.YtlmdoapjcnaflaaDoorQ19
import Derived.Test.YtlmdoapjcnaflaaDoorQ20
import Derived.Test.YtlmdoapjcnaflaaDoorQ21
import Derived.Test.YtlmdoapjcnaflaaDoorPNum
import Derived.Test.YtlmdoapjcnaflaaDoorPMachT
namespace Go.Proofs.YtlmdoapjcnaflaaDoor.Pure
open Go.RowKit Go.Proofs.YtlmdoapjcnaflaaDoor.Q Go.Proofs.YtlmdoapjcnaflaaDoorW.PrintWords Go.Proofs.YtlmdoapjcnaflaaDoorW.PrintLast
set_option linter.unusedVariables false
set_option linter.unusedSimpArgs false

abbrev V (w : List UInt8) : Int × Bool := readV (bs w) (-1000000000) 1000000000
def poseTx (a b c d : Int) : List UInt8 := Lib.itoa a ++ [44] ++ Lib.itoa b ++ [44] ++ Lib.itoa c ++ [44] ++ Lib.itoa d
def machTx (a0 a1 a2 a3 a4 a5 a6 a7 a8 : Int) : List UInt8 := poseTx a0 a1 a2 a3 ++ [47] ++ poseTx a4 a5 a6 a7 ++ [47] ++ Lib.itoa a8
theorem poseTx_len {a b c d : Int} (ha : Num a) (hb : Num b) (hc : Num c) (hd : Num d) : (poseTx a b c d).length ≤ 91 := by
  have h1 := itoa_len a ha.1 ha.2
  have h2 := itoa_len b hb.1 hb.2
  have h3 := itoa_len c hc.1 hc.2
  have h4 := itoa_len d hd.1 hd.2
  unfold poseTx
  simp only [List.length_append, List.length_cons, List.length_nil]
  omega
theorem spose_tx {a b c d : Int} (ha : Num a) (hb : Num b) (hc : Num c) (hd : Num d) (k : Nat) (hk : 25 < k) : spec_l04PoseText.f k a b c d = some (bs (poseTx a b c d)) := by
  have h1 := itoa_len a ha.1 ha.2
  have h2 := itoa_len b hb.1 hb.2
  have h3 := itoa_len c hc.1 hc.2
  have h4 := itoa_len d hd.1 hd.2
  have e44 : (⟨#[44]⟩ : ByteArray) = bs [44] := rfl
  unfold spec_l04PoseText.f poseTx
  rw [dec_eq a ha.1 ha.2 k hk, dec_eq b hb.1 hb.2 k hk, dec_eq c hc.1 hc.2 k hk, dec_eq d hd.1 hd.2 k hk]
  simp only [Option.bind_some, itoaS_bs, e44, bs_append, bs_size, List.length_append, List.length_cons, List.length_nil]
  rw [if_pos (by omega), if_pos (by omega), if_pos (by omega), if_pos (by omega), if_pos (by omega), if_pos (by omega)]
theorem mtext_eq {a0 a1 a2 a3 a4 a5 a6 a7 a8 : Int} (n0 : Num a0) (n1 : Num a1) (n2 : Num a2) (n3 : Num a3) (n4 : Num a4) (n5 : Num a5) (n6 : Num a6) (n7 : Num a7) (n8 : Num a8) (k : Nat) (hk : 25 < k) :
    spec_l04Text.f k a0 a1 a2 a3 a4 a5 a6 a7 a8 = some (bs (machTx a0 a1 a2 a3 a4 a5 a6 a7 a8)) := by
  have e47 : (⟨#[47]⟩ : ByteArray) = bs [47] := rfl
  have l1 := poseTx_len n0 n1 n2 n3
  have l2 := poseTx_len n4 n5 n6 n7
  have l3 := itoa_len a8 n8.1 n8.2
  unfold spec_l04Text.f machTx
  rw [spose_tx n0 n1 n2 n3 k hk, spose_tx n4 n5 n6 n7 k hk, dec_eq a8 n8.1 n8.2 k hk]
  simp only [Option.bind_some, itoaS_bs, e47, bs_append, bs_size, List.length_append, List.length_cons, List.length_nil]
  rw [if_pos (by omega), if_pos (by omega), if_pos (by omega), if_pos (by omega)]

/-- The pieces, joined again. -/
def joinC (c : UInt8) : List (List UInt8) → List UInt8
  | [] => []
  | [p] => p
  | p :: q :: r => p ++ c :: joinC c (q :: r)
theorem joinC_cut (c : UInt8) (l : List UInt8) : joinC c (cutL c l) = l := by
  induction l with
  | nil => rfl
  | cons x r ih =>
    obtain ⟨p, ps, hp⟩ := cutL_ne c r
    rw [hp] at ih
    by_cases hx : x = c
    · subst hx
      rw [cutL_eq, hp]
      show [] ++ x :: joinC x (p :: ps) = x :: r
      rw [ih]; rfl
    · rw [cutL_other hx, hp]
      cases ps with
      | nil => show [x] ++ p = x :: r; rw [show p = r from ih]; rfl
      | cons q qs =>
        show [x] ++ p ++ c :: joinC c (q :: qs) = x :: r
        have : p ++ c :: joinC c (q :: qs) = r := ih
        rw [← this]; simp
theorem cut_none {c : UInt8} (a : List UInt8) (h : c ∉ a) : cutL c a = [a] := by
  induction a with
  | nil => rfl
  | cons x r ih =>
    have hx : ¬ x = c := fun e => h (by simp [e])
    rw [cutL_other hx, ih (fun hh => h (by simp [hh]))]; rfl
theorem cut_first {c : UInt8} (a b : List UInt8) (h : c ∉ a) : cutL c (a ++ c :: b) = a :: cutL c b := by
  induction a with
  | nil => exact cutL_eq c b
  | cons x r ih =>
    have hx : ¬ x = c := fun e => h (by simp [e])
    rw [List.cons_append, cutL_other hx, ih (fun hh => h (by simp [hh]))]; rfl
theorem itoa_bytes (v : Int) : ∀ x ∈ Lib.itoa v, x = 45 ∨ isDig x = true := by
  unfold Lib.itoa
  by_cases h : v < 0
  · rw [if_pos h]
    intro x hx
    rcases List.mem_cons.1 hx with e | hx
    · exact Or.inl e
    · exact Or.inr (List.all_eq_true.1 (dec_all _) x hx)
  · rw [if_neg h]
    intro x hx
    exact Or.inr (List.all_eq_true.1 (dec_all _) x hx)
theorem itoa_44 (v : Int) : (44 : UInt8) ∉ Lib.itoa v := fun h => by
  rcases itoa_bytes v _ h with e | e
  · exact absurd e (by decide)
  · exact absurd e (by decide)
theorem itoa_47 (v : Int) : (47 : UInt8) ∉ Lib.itoa v := fun h => by
  rcases itoa_bytes v _ h with e | e
  · exact absurd e (by decide)
  · exact absurd e (by decide)
theorem pose_47 (a b c d : Int) : (47 : UInt8) ∉ poseTx a b c d := by
  unfold poseTx
  simp [itoa_47]
theorem cut_pose (a b c d : Int) : cutL 44 (poseTx a b c d) = [Lib.itoa a, Lib.itoa b, Lib.itoa c, Lib.itoa d] := by
  have e : poseTx a b c d = Lib.itoa a ++ 44 :: (Lib.itoa b ++ 44 :: (Lib.itoa c ++ 44 :: Lib.itoa d)) := by simp [poseTx]
  rw [e, cut_first _ _ (itoa_44 a), cut_first _ _ (itoa_44 b), cut_first _ _ (itoa_44 c), cut_none _ (itoa_44 d)]
theorem cut_mach (a0 a1 a2 a3 a4 a5 a6 a7 a8 : Int) : cutL 47 (machTx a0 a1 a2 a3 a4 a5 a6 a7 a8) = [poseTx a0 a1 a2 a3, poseTx a4 a5 a6 a7, Lib.itoa a8] := by
  have e : machTx a0 a1 a2 a3 a4 a5 a6 a7 a8 = poseTx a0 a1 a2 a3 ++ 47 :: (poseTx a4 a5 a6 a7 ++ 47 :: Lib.itoa a8) := by simp [machTx]
  rw [e, cut_first _ _ (pose_47 _ _ _ _), cut_first _ _ (pose_47 _ _ _ _), cut_none _ (itoa_47 a8)]

def R9 (v : Int) : Prop := -1000000000 ≤ v ∧ v ≤ 1000000000
theorem V_yes {v : Int} (h : R9 v) : V (Lib.itoa v) = (v, true) := read_yes ⟨h, itoaS_bs v⟩
theorem V_inv {w : List UInt8} (h : (V w).2 = true) : R9 (V w).1 ∧ w = Lib.itoa (V w).1 := by
  by_cases hv : ∃ v, IsTx (bs w) v
  · obtain ⟨v, hv⟩ := hv
    have e : V w = (v, true) := read_yes hv
    rw [e]
    refine ⟨hv.1, ?_⟩
    have h2 := congrArg (fun x : ByteArray => x.data.toList) hv.2
    simpa [itoaS, bs] using h2.symm
  · have e : V w = (0, false) := read_no (fun v hh => hv ⟨v, hh⟩)
    rw [e] at h; cases h
/-- What the program makes of the pieces. -/
def goI : List Int → List (List UInt8) → List Int × Bool
  | acc, [] => (acc, true)
  | acc, w :: ws => if (V w).2 = true then goI (acc ++ [(V w).1]) ws else ([], false)
theorem all_at (ws : List (List UInt8)) : ∀ (pre : List ByteArray) (acc : List Int) (k : Nat), (∀ w ∈ ws, w.length ≤ 1048576) → pre.length + ws.length ≤ 2097160 → acc.length ≤ pre.length → ws.length < k →
    impl_readAll.l0 k (-1000000000) 1000000000 acc (pre ++ ws.map bs) ((pre ++ ws.map bs).length : Int) pre.length = some (goI acc ws) := by
  induction ws with
  | nil =>
    intro pre acc k hw hp ha hk
    obtain ⟨k, rfl⟩ : ∃ m, k = m + 1 := ⟨k - 1, by omega⟩
    rw [impl_readAll.l0, if_neg (by simp)]
    rfl
  | cons w ws ih =>
    intro pre acc k hw hp ha hk
    simp only [List.length_cons] at hp hk
    obtain ⟨k, rfl⟩ : ∃ m, k = m + 1 := ⟨k - 1, by omega⟩
    have hlt : (pre.length : Int) < ((pre ++ (w :: ws).map bs).length : Int) := by simp; omega
    have h0' : (0 : Int) ≤ (pre.length : Int) := by omega
    have er : rdOf ByteArray.empty (pre ++ (w :: ws).map bs) (pre.length : Int) = bs w := by simp [rdOf]
    have e2 : wrap64 ((pre.length : Int) + 1) = ((pre ++ [bs w]).length : Int) := by rw [w64 (by omega)]; simp
    have e3 : pre ++ (w :: ws).map bs = (pre ++ [bs w]) ++ ws.map bs := by simp
    have hs := hw w (by simp)
    rw [impl_readAll.l0, if_pos hlt, if_pos h0', if_pos hlt, er]
    unfold impl_readIn.f
    rw [if_pos (by rw [bs_size]; omega), Option.bind_some, goI]
    by_cases hv : (V w).2 = true
    · rw [if_pos hv, if_pos hv, if_pos (by omega), e2, e3]
      exact ih (pre ++ [bs w]) _ k (fun x hx => hw x (by simp [hx])) (by simp; omega) (by simp; omega) (by omega)
    · rw [if_neg hv, if_neg hv]
theorem goI_spec (ws : List (List UInt8)) : ∀ acc, goI acc ws = if ws.all (fun w => (V w).2) = true then (acc ++ ws.map (fun w => (V w).1), true) else ([], false) := by
  induction ws with
  | nil => intro acc; simp [goI]
  | cons w ws ih =>
    intro acc
    rw [goI, ih]
    by_cases hv : (V w).2 = true
    · rw [if_pos hv, List.all_cons, hv, Bool.true_and]
      by_cases h2 : ws.all (fun w => (V w).2) = true
      · rw [if_pos h2, if_pos h2]; simp
      · rw [if_neg h2, if_neg h2]
    · rw [if_neg hv, List.all_cons, if_neg (by simp [hv])]
def PosTx (p : List UInt8) (a b c d : Int) : Prop := (R9 a ∧ R9 b ∧ R9 c ∧ R9 d) ∧ p = poseTx a b c d
theorem rpose_core (p : List UInt8) (hp : p.length ≤ 1048576) (k : Nat) (hk : 2000000 < k) : impl_readAll.f k (bs p) (⟨#[44]⟩ : ByteArray) (-1000000000) 1000000000 = some (goI [] (cutL 44 p)) := by
  have e44 : (⟨#[44]⟩ : ByteArray) = bs [44] := rfl
  have hc := cutL_count 44 p
  unfold impl_readAll.f
  rw [e44, split_eq 44 p (by omega), Option.bind_some]
  exact all_at (cutL 44 p) [] [] k (fun w hw => Nat.le_trans (cutL_len 44 p w hw) hp) (by simp only [List.length_nil]; omega) (by simp) (by omega)
theorem rpose_yes (p : List UInt8) (hp : p.length ≤ 1048576) {a b c d : Int} (h : PosTx p a b c d) (k : Nat) (hk : 2000000 < k) : impl_readPose.f k (bs p) = some (a, b, c, d, true) := by
  obtain ⟨⟨h1, h2, h3, h4⟩, rfl⟩ := h
  unfold impl_readPose.f
  rw [rpose_core _ hp k hk, Option.bind_some, cut_pose, goI_spec]
  simp only [List.all_cons, List.all_nil, List.map_cons, List.map_nil, V_yes h1, V_yes h2, V_yes h3, V_yes h4]
  rfl
theorem rpose_no (p : List UInt8) (hp : p.length ≤ 1048576) (h : ∀ a b c d, ¬ PosTx p a b c d) (k : Nat) (hk : 2000000 < k) : impl_readPose.f k (bs p) = some (0, 0, 0, 0, false) := by
  unfold impl_readPose.f
  rw [rpose_core _ hp k hk, Option.bind_some, goI_spec]
  by_cases hall : (cutL 44 p).all (fun w => (V w).2) = true
  · rw [if_pos hall, if_pos rfl]
    by_cases h4 : (cutL 44 p).length = 4
    · exfalso
      have hj := joinC_cut 44 p
      match hw : cutL 44 p, h4 with
      | [w0, w1, w2, w3], _ =>
        rw [hw] at hall hj
        simp only [List.all_cons, List.all_nil, Bool.and_true, Bool.and_eq_true] at hall
        obtain ⟨g0, g1, g2, g3⟩ := hall
        have i0 := V_inv g0; have i1 := V_inv g1; have i2 := V_inv g2; have i3 := V_inv g3
        refine h (V w0).1 (V w1).1 (V w2).1 (V w3).1 ⟨⟨i0.1, i1.1, i2.1, i3.1⟩, ?_⟩
        unfold poseTx
        rw [← i0.2, ← i1.2, ← i2.2, ← i3.2, ← hj]
        simp [joinC]
    · rw [if_neg (by simp; omega)]
  · rw [if_neg hall, if_neg (by simp)]

/-- The machine whose text it is. -/
def MacTx (s : List UInt8) (a0 a1 a2 a3 a4 a5 a6 a7 a8 : Int) : Prop := machB a0 a1 a2 a3 a4 a5 a6 a7 a8 = true ∧ s = machTx a0 a1 a2 a3 a4 a5 a6 a7 a8
theorem mach_range {a0 a1 a2 a3 a4 a5 a6 a7 a8 : Int} (h : machB a0 a1 a2 a3 a4 a5 a6 a7 a8 = true) :
    ((-100000 ≤ a0 ∧ a0 ≤ 100000) ∧ (-100000 ≤ a1 ∧ a1 ≤ 100000) ∧ (-400 ≤ a2 ∧ a2 ≤ 400) ∧ (-400 ≤ a3 ∧ a3 ≤ 400)) ∧ ((-100000 ≤ a4 ∧ a4 ≤ 100000) ∧ (-100000 ≤ a5 ∧ a5 ≤ 100000) ∧ (-400 ≤ a6 ∧ a6 ≤ 400) ∧ (-400 ≤ a7 ∧ a7 ≤ 400)) ∧ (0 ≤ a8 ∧ a8 ≤ 2400) := by
  unfold machB at h
  simp only [Bool.and_eq_true] at h
  exact ⟨poseB_iff h.1, poseB_iff h.2.1, inR_iff h.2.2.1⟩
theorem imv_eq (a0 a1 a2 a3 a4 a5 a6 a7 a8 : Int) : impl_Machine_valid.f a0 a1 a2 a3 a4 a5 a6 a7 a8 = some (if machB a0 a1 a2 a3 a4 a5 a6 a7 a8 = true then (a0, a1, a2, a3, a4, a5, a6, a7, a8, true) else (0, 0, 0, 0, 0, 0, 0, 0, 0, false)) := by
  unfold impl_Machine_valid.f
  rw [imach_eq, Option.bind_some]
  by_cases h : machB a0 a1 a2 a3 a4 a5 a6 a7 a8 = true
  · rw [if_pos h, if_pos h]
  · rw [if_neg h, if_neg h]
theorem rdec (w : List UInt8) (hw : w.length ≤ 1048576) : impl_ReadDecimal.f (bs w) = some (V w) := by
  unfold impl_ReadDecimal.f impl_readIn.f
  rw [if_pos (by rw [bs_size]; omega)]
  rfl
theorem imp_yes (s : List UInt8) (hs : s.length ≤ 1048576) {a0 a1 a2 a3 a4 a5 a6 a7 a8 : Int} (h : MacTx s a0 a1 a2 a3 a4 a5 a6 a7 a8) (k : Nat) (hk : 2000000 < k) : impl_ReadMachine.f k (bs s) = some (a0, a1, a2, a3, a4, a5, a6, a7, a8, true) := by
  obtain ⟨hv, e⟩ := h
  have hr := mach_range hv
  have hcut := cut_mach a0 a1 a2 a3 a4 a5 a6 a7 a8
  rw [← e] at hcut
  have hl := cutL_len 47 s
  rw [hcut] at hl
  have e47 : (⟨#[47]⟩ : ByteArray) = bs [47] := rfl
  have p1 := rpose_yes (poseTx a0 a1 a2 a3) (Nat.le_trans (hl _ (by simp)) hs) ⟨⟨⟨by omega, by omega⟩, ⟨by omega, by omega⟩, ⟨by omega, by omega⟩, ⟨by omega, by omega⟩⟩, rfl⟩ k hk
  have p2 := rpose_yes (poseTx a4 a5 a6 a7) (Nat.le_trans (hl _ (by simp)) hs) ⟨⟨⟨by omega, by omega⟩, ⟨by omega, by omega⟩, ⟨by omega, by omega⟩, ⟨by omega, by omega⟩⟩, rfl⟩ k hk
  have p3 := rdec (Lib.itoa a8) (Nat.le_trans (hl _ (by simp)) hs)
  rw [V_yes (v := a8) ⟨by omega, by omega⟩] at p3
  unfold impl_ReadMachine.f
  rw [e47, split_eq 47 s (by omega), Option.bind_some, hcut]
  simp only [List.map_cons, List.map_nil]
  have r0 : rdOf ByteArray.empty [bs (poseTx a0 a1 a2 a3), bs (poseTx a4 a5 a6 a7), bs (Lib.itoa a8)] 0 = bs (poseTx a0 a1 a2 a3) := rfl
  have r1 : rdOf ByteArray.empty [bs (poseTx a0 a1 a2 a3), bs (poseTx a4 a5 a6 a7), bs (Lib.itoa a8)] 1 = bs (poseTx a4 a5 a6 a7) := rfl
  have r2 : rdOf ByteArray.empty [bs (poseTx a0 a1 a2 a3), bs (poseTx a4 a5 a6 a7), bs (Lib.itoa a8)] 2 = bs (Lib.itoa a8) := rfl
  have z3 : (([bs (poseTx a0 a1 a2 a3), bs (poseTx a4 a5 a6 a7), bs (Lib.itoa a8)] : List ByteArray).length : Int) = 3 := rfl
  rw [r0, r1, r2, p1, p2, p3, z3, if_pos (show (3 : Int) = 3 from rfl), if_pos (show (0 : Int) < 3 by decide), Option.bind_some, if_pos (show (1 : Int) < 3 by decide), Option.bind_some, if_pos (show (2 : Int) < 3 by decide), Option.bind_some, if_pos rfl, if_pos rfl, if_pos rfl, imv_eq, if_pos hv]
  rfl
theorem imp_no (s : List UInt8) (hs : s.length ≤ 1048576) (h : ∀ a0 a1 a2 a3 a4 a5 a6 a7 a8, ¬ MacTx s a0 a1 a2 a3 a4 a5 a6 a7 a8) (k : Nat) (hk : 2000000 < k) : impl_ReadMachine.f k (bs s) = some (0, 0, 0, 0, 0, 0, 0, 0, 0, false) := by
  have hl := cutL_len 47 s
  have hj := joinC_cut 47 s
  have e47 : (⟨#[47]⟩ : ByteArray) = bs [47] := rfl
  unfold impl_ReadMachine.f
  rw [e47, split_eq 47 s (by omega), Option.bind_some]
  by_cases h3 : (cutL 47 s).length = 3
  · match hw : cutL 47 s, h3 with
    | [w0, w1, w2], _ =>
      rw [hw] at hl hj
      have l0 := Nat.le_trans (hl w0 (by simp)) hs
      have l1 := Nat.le_trans (hl w1 (by simp)) hs
      have l2 := Nat.le_trans (hl w2 (by simp)) hs
      simp only [List.map_cons, List.map_nil]
      have r0 : rdOf ByteArray.empty [bs w0, bs w1, bs w2] 0 = bs w0 := rfl
      have r1 : rdOf ByteArray.empty [bs w0, bs w1, bs w2] 1 = bs w1 := rfl
      have r2 : rdOf ByteArray.empty [bs w0, bs w1, bs w2] 2 = bs w2 := rfl
      have z3 : (([bs w0, bs w1, bs w2] : List ByteArray).length : Int) = 3 := rfl
      rw [r0, r1, r2, rdec w2 l2, z3, if_pos (show (3 : Int) = 3 from rfl), if_pos (show (0 : Int) < 3 by decide)]
      by_cases g0 : ∃ a b c d, PosTx w0 a b c d
      · obtain ⟨a0, a1, a2, a3, g0⟩ := g0
        rw [rpose_yes w0 l0 g0 k hk, Option.bind_some, if_pos (show (1 : Int) < 3 by decide)]
        by_cases g1 : ∃ a b c d, PosTx w1 a b c d
        · obtain ⟨a4, a5, a6, a7, g1⟩ := g1
          rw [rpose_yes w1 l1 g1 k hk, Option.bind_some, if_pos (show (2 : Int) < 3 by decide), Option.bind_some, if_pos rfl, if_pos rfl]
          by_cases g2 : (V w2).2 = true
          · have i2 := V_inv g2
            rw [if_pos g2, imv_eq, if_neg]
            · rfl
            · intro hm
              refine h a0 a1 a2 a3 a4 a5 a6 a7 (V w2).1 ⟨hm, ?_⟩
              unfold machTx
              rw [← g0.2, ← g1.2, ← i2.2, ← hj]
              simp [joinC]
          · rw [if_neg g2]
        · rw [rpose_no w1 l1 (fun a b c d hh => g1 ⟨a, b, c, d, hh⟩) k hk, Option.bind_some, if_pos (show (2 : Int) < 3 by decide), Option.bind_some, if_pos rfl, if_neg (by simp)]
      · rw [rpose_no w0 l0 (fun a b c d hh => g0 ⟨a, b, c, d, hh⟩) k hk, Option.bind_some, if_pos (show (1 : Int) < 3 by decide)]
        by_cases g1 : ∃ a b c d, PosTx w1 a b c d
        · obtain ⟨a4, a5, a6, a7, g1⟩ := g1
          rw [rpose_yes w1 l1 g1 k hk, Option.bind_some, if_pos (show (2 : Int) < 3 by decide), Option.bind_some, if_neg (by simp)]
        · rw [rpose_no w1 l1 (fun a b c d hh => g1 ⟨a, b, c, d, hh⟩) k hk, Option.bind_some, if_pos (show (2 : Int) < 3 by decide), Option.bind_some, if_neg (by simp)]
  · rw [if_neg (by rw [List.length_map]; omega)]
theorem nums_mach {a0 a1 a2 a3 a4 a5 a6 a7 a8 : Int} (h : machB a0 a1 a2 a3 a4 a5 a6 a7 a8 = true) (k : Nat) (hk : 2000 < k) : spec_l02Numbers.f k (bs (machTx a0 a1 a2 a3 a4 a5 a6 a7 a8)) = some [a0, a1, a2, a3, a4, a5, a6, a7, a8] := by
  have hr := mach_range h
  have e : machTx a0 a1 a2 a3 a4 a5 a6 a7 a8 = [] ++ Lib.itoa a0 ++ tl [(44, a1), (44, a2), (44, a3), (47, a4), (44, a5), (44, a6), (44, a7), (47, a8)] := by simp [machTx, poseTx, tl]
  have ht : ∀ x ∈ [((44 : UInt8), a1), (44, a2), (44, a3), (47, a4), (44, a5), (44, a6), (44, a7), (47, a8)], (x.1 = 44 ∨ x.1 = 47) ∧ -99999999 ≤ x.2 ∧ x.2 ≤ 99999999 := by
    intro x hx
    simp only [List.mem_cons, List.not_mem_nil, or_false] at hx
    rcases hx with rfl | rfl | rfl | rfl | rfl | rfl | rfl | rfl <;> refine ⟨by simp, ?_, ?_⟩ <;> simp only <;> omega
  obtain ⟨n, hn, hstep⟩ := num_step a0 (by omega) (by omega)
  have hlen := tl_len _ (fun x hx => (ht x hx).2)
  have h0 := itoa_short a0 (by omega) (by omega)
  obtain ⟨k, rfl⟩ : ∃ m, k = m + n + 5 := ⟨k - (n + 5), by omega⟩
  unfold spec_l02Numbers.f
  rw [e]
  have s1 := hstep [] (tl [(44, a1), (44, a2), (44, a3), (47, a4), (44, a5), (44, a6), (44, a7), (47, a8)]) [] k (tl_stop _ (fun x hx => (ht x hx).1)) (by simp) (by simp only [List.length_nil, List.length_cons] at hlen ⊢; omega)
  have s2 := nums_at [(44, a1), (44, a2), (44, a3), (47, a4), (44, a5), (44, a6), (44, a7), (47, a8)] ([] ++ Lib.itoa a0) ([] ++ [a0]) k ht (by simp) (by simp; omega) (by simp; omega)
  exact s1.trans s2
theorem num_of {a : Int} (h : -1000000 ≤ a ∧ a ≤ 1000000) : Num a := ⟨by omega, by omega⟩
theorem mach_text {a0 a1 a2 a3 a4 a5 a6 a7 a8 : Int} (h : machB a0 a1 a2 a3 a4 a5 a6 a7 a8 = true) (k : Nat) (hk : 25 < k) : spec_l04Text.f k a0 a1 a2 a3 a4 a5 a6 a7 a8 = some (bs (machTx a0 a1 a2 a3 a4 a5 a6 a7 a8)) := by
  have hr := mach_range h
  exact mtext_eq (num_of (by omega)) (num_of (by omega)) (num_of (by omega)) (num_of (by omega)) (num_of (by omega)) (num_of (by omega)) (num_of (by omega)) (num_of (by omega)) (num_of (by omega)) k hk
theorem spec_yes (s : List UInt8) {a0 a1 a2 a3 a4 a5 a6 a7 a8 : Int} (h : MacTx s a0 a1 a2 a3 a4 a5 a6 a7 a8) (k : Nat) (hk : 2000 < k) : spec_ReadMachine.f k (bs s) = some (a0, a1, a2, a3, a4, a5, a6, a7, a8, true) := by
  obtain ⟨hv, rfl⟩ := h
  obtain ⟨k, rfl⟩ : ∃ m, k = m + 6 := ⟨k - 6, by omega⟩
  unfold spec_ReadMachine.f
  rw [nums_mach hv _ (by omega), Option.bind_some]
  have e0 : rd [a0, a1, a2, a3, a4, a5, a6, a7, a8] 0 = a0 := rfl
  have e1 : rd [a0, a1, a2, a3, a4, a5, a6, a7, a8] 1 = a1 := rfl
  have e2 : rd [a0, a1, a2, a3, a4, a5, a6, a7, a8] 2 = a2 := rfl
  have e3 : rd [a0, a1, a2, a3, a4, a5, a6, a7, a8] 3 = a3 := rfl
  have e4 : rd [a0, a1, a2, a3, a4, a5, a6, a7, a8] 4 = a4 := rfl
  have e5 : rd [a0, a1, a2, a3, a4, a5, a6, a7, a8] 5 = a5 := rfl
  have e6 : rd [a0, a1, a2, a3, a4, a5, a6, a7, a8] 6 = a6 := rfl
  have e7 : rd [a0, a1, a2, a3, a4, a5, a6, a7, a8] 7 = a7 := rfl
  have e8 : rd [a0, a1, a2, a3, a4, a5, a6, a7, a8] 8 = a8 := rfl
  have el : (([a0, a1, a2, a3, a4, a5, a6, a7, a8] : List Int).length : Int) = 9 := rfl
  rw [e0, e1, e2, e3, e4, e5, e6, e7, e8, el, if_pos rfl, if_pos (by decide), if_pos (by decide), if_pos (by decide), if_pos (by decide), if_pos (by decide), if_pos (by decide), if_pos (by decide), if_pos (by decide), if_pos (by decide), smach_eq, Option.bind_some, if_pos hv, mach_text hv _ (by omega), Option.bind_some, if_pos rfl]
theorem spec_no (s : List UInt8) (hs : s.length ≤ 1048576) (h : ∀ a0 a1 a2 a3 a4 a5 a6 a7 a8, ¬ MacTx s a0 a1 a2 a3 a4 a5 a6 a7 a8) (k : Nat) (hk : 50000000 < k) : spec_ReadMachine.f k (bs s) = some (0, 0, 0, 0, 0, 0, 0, 0, 0, false) := by
  obtain ⟨k, rfl⟩ : ∃ m, k = m + 6 := ⟨k - 6, by omega⟩
  have hsz := bs_size s
  obtain ⟨L, hL⟩ := nums_tot (bs s) (by omega) 1048576 0 [] (k + 6) (by omega) (by omega) (by omega) (by simp) (by omega)
  unfold spec_ReadMachine.f spec_l02Numbers.f
  rw [hL, Option.bind_some]
  by_cases h9 : (L.length : Int) = 9
  · rw [if_pos h9, if_pos (by omega), if_pos (by omega), if_pos (by omega), if_pos (by omega), if_pos (by omega), if_pos (by omega), if_pos (by omega), if_pos (by omega), if_pos (by omega), smach_eq, Option.bind_some]
    by_cases hv : machB (rd L 0) (rd L 1) (rd L 2) (rd L 3) (rd L 4) (rd L 5) (rd L 6) (rd L 7) (rd L 8) = true
    · rw [if_pos hv, mach_text hv _ (by omega), Option.bind_some, if_neg]
      intro he
      have e := bytes_eq he
      have e2 := congrArg (fun x : ByteArray => x.data.toList) e
      simp only [bs_data] at e2
      exact h _ _ _ _ _ _ _ _ _ ⟨hv, e2.symm⟩
    · rw [if_neg hv]
  · rw [if_neg h9]
theorem eqm (a0 a1 a2 a3 a4 a5 a6 a7 a8 : Int) : laws_eqMachine.f a0 a1 a2 a3 a4 a5 a6 a7 a8 a0 a1 a2 a3 a4 a5 a6 a7 a8 = some true := by
  unfold laws_eqMachine.f laws_eqPose.f
  simp

theorem FnExactReadMachine (s : ByteArray) (hs : s.size ≤ 140737488351232) : ∃ k, laws_FnExactReadMachine.f k s = some true := by
  refine ⟨50000010, ?_⟩
  unfold laws_FnExactReadMachine.f
  by_cases h : (s.size : Int) > 1048576
  · rw [if_pos h]
  · have hsz : s.data.toList.length = s.size := by rw [Array.length_toList]; rfl
    rw [if_neg h]
    have hb := bs_of s
    have hl : s.data.toList.length ≤ 1048576 := by omega
    generalize s.data.toList = l at hb hl
    subst hb
    by_cases hm : ∃ a0 a1 a2 a3 a4 a5 a6 a7 a8, MacTx l a0 a1 a2 a3 a4 a5 a6 a7 a8
    · obtain ⟨a0, a1, a2, a3, a4, a5, a6, a7, a8, hm⟩ := hm
      rw [spec_yes l hm _ (by omega), Option.bind_some, imp_yes l hl hm _ (by omega), Option.bind_some]
      simp only
      rw [eqm, Option.bind_some]
      rfl
    · have hm' : ∀ a0 a1 a2 a3 a4 a5 a6 a7 a8, ¬ MacTx l a0 a1 a2 a3 a4 a5 a6 a7 a8 := fun a0 a1 a2 a3 a4 a5 a6 a7 a8 hh => hm ⟨a0, a1, a2, a3, a4, a5, a6, a7, a8, hh⟩
      rw [spec_no l hl hm' _ (by omega), Option.bind_some, imp_no l hl hm' _ (by omega), Option.bind_some]
      simp only
      rw [eqm, Option.bind_some]
      rfl

end Go.Proofs.YtlmdoapjcnaflaaDoor.Pure
