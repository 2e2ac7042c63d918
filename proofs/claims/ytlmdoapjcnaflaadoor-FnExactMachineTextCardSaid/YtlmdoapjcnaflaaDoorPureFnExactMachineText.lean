/- The program's MachineText and the reference's answer alike for every machine. -/
import Derived.Test.YtlmdoapjcnaflaaDoorQ0
import Derived.Test.YtlmdoapjcnaflaaDoorQ6
import Derived.Test.YtlmdoapjcnaflaaDoorQ8
import Derived.Test.YtlmdoapjcnaflaaDoorQ14
import Derived.Test.YtlmdoapjcnaflaaDoorPText
import Derived.Test.YtlmdoapjcnaflaaDoorPMachT
namespace Go.Proofs.YtlmdoapjcnaflaaDoor.Pure
open Go.RowKit Go.Proofs.YtlmdoapjcnaflaaDoor.Q Go.Proofs.YtlmdoapjcnaflaaDoorW.PrintWords Go.Proofs.YtlmdoapjcnaflaaDoorW.PrintLast
set_option linter.unusedVariables false
set_option linter.unusedSimpArgs false

def poseTx (a b c d : Int) : List UInt8 := Lib.itoa a ++ [44] ++ Lib.itoa b ++ [44] ++ Lib.itoa c ++ [44] ++ Lib.itoa d
theorem poseTx_len {a b c d : Int} (ha : Num a) (hb : Num b) (hc : Num c) (hd : Num d) : (poseTx a b c d).length ≤ 91 := by
  have h1 := itoa_len a ha.1 ha.2
  have h2 := itoa_len b hb.1 hb.2
  have h3 := itoa_len c hc.1 hc.2
  have h4 := itoa_len d hd.1 hd.2
  unfold poseTx
  simp only [List.length_append, List.length_cons, List.length_nil]
  omega
theorem spose_tx {a b c d : Int} (ha : Num a) (hb : Num b) (hc : Num c) (hd : Num d) (k : Nat) (hk : 25 < k) : spec_l04PoseText.f k a b c d = some (bs (poseTx a b c d)) := by
  have h1 := itoa_len a ha.1 ha.2
  have h2 := itoa_len b hb.1 hb.2
  have h3 := itoa_len c hc.1 hc.2
  have h4 := itoa_len d hd.1 hd.2
  have e44 : (⟨#[44]⟩ : ByteArray) = bs [44] := rfl
  unfold spec_l04PoseText.f poseTx
  rw [dec_eq a ha.1 ha.2 k hk, dec_eq b hb.1 hb.2 k hk, dec_eq c hc.1 hc.2 k hk, dec_eq d hd.1 hd.2 k hk]
  simp only [Option.bind_some, itoaS_bs, e44, bs_append, bs_size, List.length_append, List.length_cons, List.length_nil]
  rw [if_pos (by omega), if_pos (by omega), if_pos (by omega), if_pos (by omega), if_pos (by omega), if_pos (by omega)]
theorem ipose_tx {a b c d : Int} (ha : Num a) (hb : Num b) (hc : Num c) (hd : Num d) (k : Nat) (hk : 25 < k) : impl_decimals.f k [a, b, c, d] (bs [44]) = some (bs (poseTx a b c d)) := by
  rw [decimals_eq [44] (by simp) [a, b, c, d] k (by intro n hn; simp at hn; rcases hn with rfl | rfl | rfl | rfl <;> assumption) (by simp) (by simp; omega)]
  simp only [List.map_cons, List.map_nil, Lib.join_cons, tail_cons, tail_nil, poseTx, List.append_nil, List.append_assoc]

theorem FnExactMachineText (a0 a1 a2 a3 a4 a5 a6 a7 a8 : Int) (h0 : (Lit.int .i64 a0).wf = true) (h1 : (Lit.int .i64 a1).wf = true) (h2 : (Lit.int .i64 a2).wf = true) (h3 : (Lit.int .i64 a3).wf = true) (h4 : (Lit.int .i64 a4).wf = true) (h5 : (Lit.int .i64 a5).wf = true) (h6 : (Lit.int .i64 a6).wf = true) (h7 : (Lit.int .i64 a7).wf = true) (h8 : (Lit.int .i64 a8).wf = true) : ∃ k, laws_FnExactMachineText.f k a0 a1 a2 a3 a4 a5 a6 a7 a8 = some true := by
  have n0 := wf64 h0; have n1 := wf64 h1; have n2 := wf64 h2; have n3 := wf64 h3; have n4 := wf64 h4; have n5 := wf64 h5; have n6 := wf64 h6; have n7 := wf64 h7; have n8 := wf64 h8
  refine ⟨106, ?_⟩
  unfold laws_FnExactMachineText.f laws_toMachine.f laws_toPose.f spec_MachineText.f impl_MachineText.f
  simp only [Option.bind_some]
  rw [smach_eq a0 a1 a2 a3 a4 a5 a6 a7 a8 100, imach_eq]
  cases machB a0 a1 a2 a3 a4 a5 a6 a7 a8 with
  | false => simp
  | true =>
    have e47 : (⟨#[47]⟩ : ByteArray) = bs [47] := rfl
    have e44 : (⟨#[44]⟩ : ByteArray) = bs [44] := rfl
    have l1 := poseTx_len n0 n1 n2 n3
    have l2 := poseTx_len n4 n5 n6 n7
    have l3 := itoa_len a8 n8.1 n8.2
    have s1 : spec_l04Text.f 106 a0 a1 a2 a3 a4 a5 a6 a7 a8 = some (bs (poseTx a0 a1 a2 a3 ++ [47] ++ poseTx a4 a5 a6 a7 ++ [47] ++ Lib.itoa a8)) := by
      unfold spec_l04Text.f
      rw [spose_tx n0 n1 n2 n3 106 (by omega), spose_tx n4 n5 n6 n7 106 (by omega), dec_eq a8 n8.1 n8.2 106 (by omega)]
      simp only [Option.bind_some, itoaS_bs, e47, bs_append, bs_size, List.length_append, List.length_cons, List.length_nil]
      rw [if_pos (by omega), if_pos (by omega), if_pos (by omega), if_pos (by omega)]
    have s2 : impl_machineText.f 106 a0 a1 a2 a3 a4 a5 a6 a7 a8 = some (bs (poseTx a0 a1 a2 a3 ++ [47] ++ poseTx a4 a5 a6 a7 ++ [47] ++ Lib.itoa a8)) := by
      unfold impl_machineText.f impl_Pose_numbers.f
      simp only [Option.bind_some]
      rw [e44, ipose_tx n0 n1 n2 n3 106 (by omega), ipose_tx n4 n5 n6 n7 106 (by omega), idec_eq a8 n8.1 n8.2]
      simp only [Option.bind_some, itoaS_bs, e47, bs_append, bs_size, List.length_append, List.length_cons, List.length_nil]
      rw [if_pos (by omega), if_pos (by omega), if_pos (by omega), if_pos (by omega)]
    simp only [Option.bind_some, if_true, s1, s2]
    simp

end Go.Proofs.YtlmdoapjcnaflaaDoor.Pure
