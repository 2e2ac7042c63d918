/- Plain: whole numbers that fit are not wrapped. -/
import Derived.Test.YtpccannjeppmbaaQ0
namespace Go.Proofs.Ytpccannjeppmbaa.Pure
open Go.RowKit
theorem w64 {x : Int} (h : -9223372036854775808 ≤ x ∧ x ≤ 9223372036854775807) : wrap64 x = x := by unfold wrap64; omega
end Go.Proofs.Ytpccannjeppmbaa.Pure
