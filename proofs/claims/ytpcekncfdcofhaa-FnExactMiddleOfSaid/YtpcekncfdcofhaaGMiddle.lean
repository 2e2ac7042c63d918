/- Contracts by hand for slices.Values and slices.Sorted over numbers, and for impl.MiddleOf: a new slice holds the list's numbers, sorted; the middle one is told; nothing that was there changes. -/
import Derived.Test.YtpcekncfdcofhaaQ0
import Derived.Test.YtpcekncfdcofhaaGWithin
import Derived.Test.YtpcekncfdcofhaaGLaySort
import Derived.Test.YtpcekncfdcofhaaGSeq
import Derived.RangeFuncBox
import Derived.RangeFuncLeaves
import Derived.RangeFuncGives
import Derived.Shelf.Abstract
import Derived.WalkKit
import Derived.OwnWalkIn
import Derived.TacticsInMore
import Derived.LoopNIn
import Derived.LoopIn
import Derived.Shelf.SlIterI.Sorted
import Derived.Shelf.SortM.Plain
import Derived.Shelf.SortM.SortNone
namespace Go.Proofs.Ytpcekncfdcofhaa.Q
open Go.RowKit Go.Maps Go.Sort Go.Shelf Go.Proofs.YtpcekncfdcofhaaW.PrintWords Go.Proofs.YtpcekncfdcofhaaW.PrintLast Go.Proofs.YtpcekncfdcofhaaW.PrintMore
set_option linter.unusedVariables false
set_option linter.unusedSimpArgs false

section
attribute [local go_sem] Oper.semAt_some

/-- What has come when k rounds are over. -/
def upto (f : Nat → Int) (k : Nat) : List Int := (List.range k).map f
theorem upto_succ (f : Nat → Int) (k : Nat) : upto f (k + 1) = upto f k ++ [f k] := by simp [upto, List.range_succ]
theorem upto_length (f : Nat → Int) (k : Nat) : (upto f k).length = k := by simp [upto]
theorem upto_all (zs : List Int) : upto (fun j => zs[j]?.getD 0) zs.length = zs := by
  apply List.ext_getElem
  · simp [upto]
  · intro i h1 h2
    simp [upto, h2]

theorem add_block (ad : Addr) (k : Nat) : (ad.add k).block = ad.block := by unfold Addr.add; split <;> rfl

set_option maxRecDepth 100000 in
set_option maxHeartbeats 2000000 in
/-- The closure of slices.Values: all numbers come, in order, to a loop body that leaves alone what lay there. -/
theorem vals_in (F : Fence) (n : Nat) (h7 : F.fn 28) (hro : F.round = none) (hn : 1 ≤ n) (l Bs len cap : Nat) (ad : Addr) (zs : List Int) (hreach : len * 8 ≤ 140737488351232) (w0 : World) (hb : ad.block < w0.heap.size) (J : List Int → World → Prop) (hJB : ∀ ss W, J ss W → Below w0.heap.size w0 W)
    (hY : ∀ pre x W, J pre W → pre.length < len → YieldAt F (n - 1) Try.prog l #[.int .i64 x] W fun e W' => e = .returned (.bool true) ∧ J (pre ++ [x]) W')
    (W : World) (hBs : W.cell? ⟨Bs, 0, none⟩ = some (.slice (some ad) len cap)) (hc : ∀ j, j < len → w0.cell? (ad.add j) = some (.int .i64 (zs[j]?.getD 0))) (h0 : J [] W) :
    CallsIn F n Try.prog 28 #[.func (.yield l) #[] #[], .pointer (some ⟨Bs, 0, none⟩)] W fun e W' => (∃ v, e = .returned v) ∧ J (upto (fun j => zs[j]?.getD 0) len) W' := by
  refine callsIn_of_wp Try.func28 rfl h7 ?_ hro
  simp only [Try.ntmps28, List.size_toArray, List.length_cons, List.length_nil, Nat.reduceAdd, Nat.reduceSub, Array.replicate_succ, Array.replicate_zero, List.push_toArray, List.append_toArray, List.nil_append, List.cons_append]
  gi_wp2
  gi_loopw [7] (fun i wr => ∃ k : Nat, k ≤ len ∧ i = .int .i64 k ∧ J (upto (fun j => zs[j]?.getD 0) k) wr)
    (fun i _ => len - (intOf i).toNat)
  case atStart => exact ⟨0, Nat.zero_le _, rfl, h0⟩
  case round =>
    obtain ⟨k, hk, rfl, hJs⟩ := hrel
    have hnx := hJB _ _ hJs
    have hcx : k < len → wr.cell? (ad.add k) = some (.int .i64 (zs[k]?.getD 0)) := fun h => (hnx.cell (p := ad.add k) (by rw [add_block]; exact hb)).trans (hc k h)
    by_cases hlt : k < len
    · obtain ⟨fn, tmps, assign, body, hy, hR⟩ := hY _ (zs[k]?.getD 0) wr hJs (by rw [upto_length]; exact hlt)
      have hcx' := hcx hlt
      clear hnx
      gi_wp2
      refine hR.mono ?_
      rintro e W3 ⟨rfl, hJ3⟩
      gi_wp2
      go_roundw
      case rel => exact ⟨k + 1, by omega, by simp, by rw [upto_succ]; exact hJ3⟩
      case measure => simp [intOf]; omega
    · obtain rfl : k = len := by omega
      clear hnx
      gi_wp2
      go_end0
      exact ⟨⟨_, rfl⟩, hJs⟩

set_option maxHeartbeats 1000000 in
/-- slices.Values: the slice is put into a box, which the function value captures. -/
theorem values_in (F : Fence) (n : Nat) (h5 : F.fn 21) (hro : F.round = none) (a : Option Addr) (len cap : Nat) (w : World) :
    CallsIn F n Try.prog 21 #[.slice a len cap] w fun e w' => e = .returned (.func (.func 28) #[] #[.pointer (some ⟨w.heap.size, 0, none⟩)]) ∧ w' = w.alloc (.cells #[.slice a len cap] 25) := by
  refine callsIn_of_wp Try.func21 rfl h5 ?_ hro
  simp only [Try.ntmps21, List.size_toArray, List.length_cons, List.length_nil, Nat.reduceAdd, Nat.reduceSub, Array.replicate_succ, Array.replicate_zero, List.push_toArray, List.append_toArray, List.nil_append, List.cons_append]
  gi_wp2
  go_ret
  exact ⟨rfl, rfl⟩

theorem values_gives (F : Fence) (n : Nat) (h7 : F.fn 28) (hro : F.round = none) (hn : 1 ≤ n) (Bs cap : Nat) (ad : Addr) (zs : List Int) (hreach : zs.length * 8 ≤ 140737488351232) (w : World) (hBs : Bs < w.heap.size) (hb : ad.block < w.heap.size)
    (hc : w.cell? ⟨Bs, 0, none⟩ = some (.slice (some ad) zs.length cap)) (hI : ∀ j, j < zs.length → w.cell? (ad.add j) = some (.int .i64 (zs[j]?.getD 0))) :
    GivesB F n Try.prog 28 #[.pointer (some ⟨Bs, 0, none⟩)] zs w := fun l J W hW hJB hY h0 => by
  have hc' := (hW.cell (p := ⟨Bs, 0, none⟩) hBs).trans hc
  refine (vals_in F n h7 hro hn l Bs zs.length cap ad zs hreach w hb J hJB hY W hc' hI h0).mono ?_
  rintro e W' ⟨he, hj⟩
  rw [upto_all] at hj
  exact ⟨he, hj⟩

/-- slices.Sort's two contracts at this program. -/
theorem sorts (m : Nat) : AnyZI.SortsIn Try.prog Try.laysZ6_ren Fence.wide m :=
  ⟨fun blk off cap ss W hH hblk hsz => callsIn_wide.2 (AnyM.slices_Sort_int Try.laysM5 blk off cap ss W hH hblk hsz),
   fun p cap W => callsIn_wide.2 (AnyM.slices_Sort_int_none Try.laysM5 p cap W)⟩

def sortL (l : List Int) : List Int := l.mergeSort (fun x y => decide (x ≤ y))

/-- slices.Sorted(slices.Values(list)), of a list that is not empty. -/
theorem sorted_calls (w : World) (ad : Addr) (cap : Nat) (zs : List Int) (hpos : 0 < zs.length) (hsmall : zs.length ≤ 64) (hb : ad.block < w.heap.size) (hI : ∀ j, j < zs.length → w.cell? (ad.add j) = some (.int .i64 (zs[j]?.getD 0)))
    (w1 : World) (hw1 : w1 = w.alloc (.cells #[.slice (some ad) zs.length cap] 25)) :
    Calls Try.prog 20 #[.func (.func 28) #[] #[.pointer (some ⟨w.heap.size, 0, none⟩)]] w1 fun e w' => ∃ ad' cap', e = .returned (.slice (some ad') zs.length cap') ∧
      (∀ j, j < zs.length → w'.cell? (ad'.add j) = some (.int .i64 ((sortL zs)[j]?.getD 0))) ∧ Below w1.heap.size w1 w' := by
  have hB : Below w.heap.size w w1 := by rw [hw1]; exact (Below.refl _ w).alloc (Nat.le_refl _) _
  have hseq : GivesB Fence.wide 3 Try.prog 28 #[.pointer (some ⟨w.heap.size, 0, none⟩)] zs w1 :=
    values_gives Fence.wide 3 trivial rfl (by omega) w.heap.size cap ad zs (by omega) w1 (by rw [hw1]; simp) (Nat.lt_of_lt_of_le hb hB.size) (by rw [hw1]; simp) (fun j hj => (hB.cell (p := ad.add j) (by rw [add_block]; exact hb)).trans (hI j hj))
  have cS := seq_sorted_in Try.laysZ6 Fence.wide 6 trivial trivial trivial trivial rfl (by omega) (sorts _) (enters_of Try.func27 (by kernel_rfl) rfl) 28 #[.pointer (some ⟨w.heap.size, 0, none⟩)] trivial (enters_of Try.func28 (by kernel_rfl) rfl) zs (by unfold maxLen; omega) (by omega) w1 hseq
  refine (callsIn_wide (n := 6)).1 (cS.mono ?_)
  rintro e w' ⟨v, rfl, hrow, hnil, hb'⟩
  have hrow' : w'.ownsRow w1.heap.size (Try.laysZ6_ren.t 26) 1 v (sortL zs).length (nums .i64 (sortL zs)) := by
    have e : (sortL zs).length = zs.length := by unfold sortL; exact List.length_mergeSort _
    rw [e]
    exact hrow
  obtain ⟨A, c, rfl, hr⟩ := own_reads hrow'
  have hl : (sortL zs).length = zs.length := by unfold sortL; exact List.length_mergeSort _
  obtain ⟨ad', rfl, hc⟩ := hr.2.2 (by omega)
  rw [hl] at hc ⊢
  refine ⟨ad', c, rfl, fun j hj => ?_, hb'⟩
  have h2 := hc j hj
  rw [List.getD_eq_getElem?_getD] at h2
  exact h2
end

def isL (l : List Int) : Bool := decide ((l.length : Int) ≤ 64) && l.all (inR (-1000000000) 1000000000)

set_option maxHeartbeats 1000000 in
theorem isl_calls (A0 : Option Addr) (c0 : Nat) (l0 : List Int) (w : World) (hr0 : Kd.C (Kd.int .i64) w A0 l0.length l0) (hc0 : l0.length ≤ c0) :
    Calls Try.prog 19 #[.slice A0 l0.length c0] w fun e w' => e = .returned (.bool (isL l0)) ∧ Below w.heap.size w w' := by
  have HR := Aside0.mk hr0
  have HC := Aside0.mk hc0
  clear hr0 hc0
  by_cases h64 : (l0.length : Int) ≤ 64
  · have hd : decide ((l0.length : Int) ≤ 64) = true := decide_eq_true h64
    have e : isL l0 = l0.all (inR (-1000000000) 1000000000) := by unfold isL; rw [hd]; rfl
    rw [e]
    go_enter Try.func19, Try.ntmps19
    go_wp2_with (go_at_call 25; refine (impl_areWithin.calls A0 c0 l0 (-1000000000) 1000000000 _ _ HR.out HC.out rfl).mono ?_; rintro e w' ⟨rfl, hb⟩)
    go_ret
    exact ⟨rfl, hb⟩
  · have hd : decide ((l0.length : Int) ≤ 64) = false := decide_eq_false h64
    have e : isL l0 = false := by unfold isL; rw [hd]; rfl
    rw [e]
    go_enter Try.func19, Try.ntmps19
    go_wp2
    go_ret
    exact ⟨rfl, Below.refl _ _⟩

theorem values_calls (a : Option Addr) (len cap : Nat) (w : World) :
    Calls Try.prog 21 #[.slice a len cap] w fun e w' => e = .returned (.func (.func 28) #[] #[.pointer (some ⟨w.heap.size, 0, none⟩)]) ∧ w' = w.alloc (.cells #[.slice a len cap] 25) :=
  (callsIn_wide (n := 6)).1 (values_in Fence.wide 6 trivial rfl a len cap w)

def midL (l : List Int) : Int := (sortL l)[(l.length - 1) / 2]?.getD 0

def impl_MiddleOf.f (l0 : List Int) : Option (Int × Bool) := if isL l0 = true ∧ l0 ≠ [] then some (midL l0, true) else some (0, false)

set_option maxHeartbeats 2000000 in
theorem mid_calls (ad : Addr) (c0 : Nat) (l0 : List Int) (w : World) (hr0 : Kd.C (Kd.int .i64) w (some ad) l0.length l0) (hc0 : l0.length ≤ c0) (hi : isL l0 = true) (hpos : 0 < l0.length) :
    Calls Try.prog 10 #[.slice (some ad) l0.length c0] w fun e w' => e = .returned (.tuple #[.int .i64 (midL l0), .bool true]) ∧ Below w.heap.size w w' := by
  have h64 : l0.length ≤ 64 := by
    unfold isL at hi
    rw [Bool.and_eq_true] at hi
    have := of_decide_eq_true hi.1
    omega
  have hI : ∀ j, j < l0.length → w.cell? (ad.add j) = some (.int .i64 (l0[j]?.getD 0)) := fun j hj => by
    obtain ⟨a, ea, hc⟩ := Kd.at_int hr0 (j : Int) (by omega) (by omega)
    cases ea
    have e : Go.Proofs.YtpcekncfdcofhaaW.PrintWords.rd l0 (j : Int) = l0[j]?.getD 0 := by unfold Go.Proofs.YtpcekncfdcofhaaW.PrintWords.rd; rw [List.getD_eq_getElem?_getD]; simp
    rw [e] at hc
    simpa using hc
  have hb : ad.block < w.heap.size := by
    have := World.block_lt_of_cell? w (ad.add 0) (hI 0 hpos)
    rwa [add_block] at this
  have hz : ((l0.length : Int) == 0) = false := by
    rw [beq_eq_false_iff_ne]; omega
  have hw1 : wrap64 ((l0.length : Int) - 1) = (l0.length : Int) - 1 := by unfold wrap64; omega
  have hq : Int.tdiv ((l0.length : Int) - 1) 2 = (((l0.length - 1) / 2 : Nat) : Int) := by
    have : (l0.length : Int) - 1 = ((l0.length - 1 : Nat) : Int) := by omega
    rw [this]
    rfl
  have HR := Aside0.mk hr0
  have HC := Aside0.mk hc0
  have HI := Aside0.mk hI
  clear hr0 hc0 hI
  generalize hm : (l0.length - 1) / 2 = m at hq
  have hml : m < l0.length := by omega
  have hmid : midL l0 = (sortL l0)[m]?.getD 0 := by unfold midL; rw [hm]
  rw [hmid]
  clear hmid hm
  go_enter Try.func10, Try.ntmps10
  go_wp2_with (first
    | (go_at_call 19; refine (isl_calls (some ad) c0 l0 _ HR.out HC.out).mono ?_; rintro e w' ⟨rfl, hb1⟩; rw [hi])
    | (go_at_call 21; refine (values_calls _ _ _ _).mono ?_; rintro e w' ⟨rfl, rfl⟩)
    | (go_at_call 20; refine (sorted_calls _ ad c0 l0 hpos h64 (Nat.lt_of_lt_of_le hb hb1.size) (fun j hj => (hb1.cell (p := ad.add j) (by rw [add_block]; exact hb)).trans (HI.out j hj)) _ rfl).mono ?_; rintro e w' ⟨ad', cap', rfl, hS, hb2⟩; have hS' := hS m hml))
  go_ret2
  exact ⟨rfl, ((hb1.trans ((Below.refl _ _).alloc (Nat.le_refl _) _ |>.mono hb1.size)).trans (hb2.mono (by simp; exact Nat.le_succ_of_le hb1.size)))⟩

set_option maxHeartbeats 2000000 in
theorem no_calls (A0 : Option Addr) (c0 : Nat) (l0 : List Int) (w : World) (hr0 : Kd.C (Kd.int .i64) w A0 l0.length l0) (hc0 : l0.length ≤ c0) (hi : ¬ (isL l0 = true ∧ l0 ≠ [])) :
    Calls Try.prog 10 #[.slice A0 l0.length c0] w fun e w' => e = .returned (.tuple #[.int .i64 0, .bool false]) ∧ Below w.heap.size w w' := by
  have HR := Aside0.mk hr0
  have HC := Aside0.mk hc0
  clear hr0 hc0
  by_cases hT : isL l0 = true
  · have hz : ((l0.length : Int) == 0) = true := by
      have : l0 = [] := by
        by_cases e : l0 = []
        · exact e
        · exact absurd ⟨hT, e⟩ hi
      rw [this]; rfl
    clear hi
    go_enter Try.func10, Try.ntmps10
    go_wp2_with (go_at_call 19; refine (isl_calls A0 c0 l0 _ HR.out HC.out).mono ?_; rintro e w' ⟨rfl, hb1⟩; rw [hT])
    go_ret2
    exact ⟨rfl, hb1⟩
  · have hF : isL l0 = false := by simpa using hT
    clear hi hT
    go_enter Try.func10, Try.ntmps10
    go_wp2_with (go_at_call 19; refine (isl_calls A0 c0 l0 _ HR.out HC.out).mono ?_; rintro e w' ⟨rfl, hb1⟩; rw [hF])
    go_ret2
    exact ⟨rfl, hb1⟩

theorem impl_MiddleOf.calls (A0 : Option Addr) (c0 : Nat) (l0 : List Int) (r1 : Int) (r2 : Bool) (w : World) (hr0 : Kd.C (Kd.int .i64) w A0 l0.length l0) (hc0 : l0.length ≤ c0) (h : impl_MiddleOf.f l0 = some (r1, r2)) :
    Calls Try.prog 10 #[.slice A0 l0.length c0] w fun e w' => e = .returned (.tuple #[.int .i64 r1, .bool r2]) ∧ Below w.heap.size w w' := by
  unfold impl_MiddleOf.f at h
  by_cases hi : isL l0 = true ∧ l0 ≠ []
  · rw [if_pos hi] at h
    obtain ⟨rfl, rfl⟩ := Prod.mk.inj (Option.some.inj h)
    have hpos : 0 < l0.length := List.length_pos_iff.2 hi.2
    obtain ⟨ad, rfl, _⟩ := Kd.at_int hr0 0 (by omega) (by omega)
    exact mid_calls ad c0 l0 w hr0 hc0 hi.1 hpos
  · rw [if_neg hi] at h
    obtain ⟨rfl, rfl⟩ := Prod.mk.inj (Option.some.inj h)
    exact no_calls A0 c0 l0 w hr0 hc0 hi

end Go.Proofs.Ytpcekncfdcofhaa.Q
