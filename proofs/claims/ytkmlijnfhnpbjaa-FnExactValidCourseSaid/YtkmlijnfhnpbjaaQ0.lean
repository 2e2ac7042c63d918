-- Written by a program of this claim's session (gprint.py over the kit's print); not typed by hand; Lean checks it.
import Derived.Test.YtkmlijnfhnpbjaaProg
import Derived.Below
import Derived.Deep.Draws
import Derived.Deep.AppendLies
import Derived.Maps.AppendAt
import Derived.OwnWalk
import Derived.Laws.BytesArg
import Derived.Laws.MakeOwn
import Derived.Laws.OwnMore
import Derived.Deep.OwnRows
import Derived.Tactics
import Derived.Lib.ConvBytes
import Derived.Laws.Slices
import Derived.WalkKit
import Derived.KernelRfl
import Derived.RowKit3
import Derived.Deep.LoopGhost
import Derived.Deep.QuietTactic
import Derived.BigQuiet
import Derived.WideLaws
import Derived.Deep.DeepCutAuto
import Derived.Deep.CutBlock
import Derived.Deep.RegionHeld3
import Derived.Laws.Rows
import Derived.Lib.AppendStr
import Derived.ArgAppend
import Derived.Laws.IdiomCopy
import Derived.OrdersHeld
import Derived.Laws.BitsLemmas
import Derived.RowKit
import Derived.Test.YtkmlijnfhnpbjaaWWords
import Derived.Test.YtkmlijnfhnpbjaaWLast
import Derived.Test.YtkmlijnfhnpbjaaWTab
import Derived.Test.YtkmlijnfhnpbjaaWFour
import Derived.Test.YtkmlijnfhnpbjaaWQPut
import Derived.Test.YtkmlijnfhnpbjaaWApart
import Derived.Test.YtkmlijnfhnpbjaaWArr
import Derived.Test.YtkmlijnfhnpbjaaWZeros
import Derived.Test.YtkmlijnfhnpbjaaWFoot
import Derived.Test.YtkmlijnfhnpbjaaWKept
import Derived.Test.YtkmlijnfhnpbjaaWShare
import Derived.Test.YtkmlijnfhnpbjaaWN
import Derived.Test.YtkmlijnfhnpbjaaWFootNe
import Derived.Test.YtkmlijnfhnpbjaaWAt
import Derived.Test.YtkmlijnfhnpbjaaWEqStruct
import Derived.Test.YtkmlijnfhnpbjaaWRepsOne
import Derived.Test.YtkmlijnfhnpbjaaWInv
import Derived.Test.YtkmlijnfhnpbjaaWInvWords
import Derived.Test.YtkmlijnfhnpbjaaWGuard
import Derived.Test.YtkmlijnfhnpbjaaWNEv
import Derived.Test.YtkmlijnfhnpbjaaWMore
namespace Go.Proofs.Ytkmlijnfhnpbjaa.Q
open Go.RowKit Go.Proofs.YtkmlijnfhnpbjaaW.PrintWords Go.Proofs.YtkmlijnfhnpbjaaW.PrintLast Go.Proofs.YtkmlijnfhnpbjaaW.PrintMore
attribute [local go_sem] max2_int min2_int max_two min_two max_three min_three max_four min_four   -- for this text's walks alone
set_option linter.unusedVariables false
set_option linter.unusedSimpArgs false



def errW : Option Int → Value
  | none => .nilIface
  | some c => .iface 0 (.int .i64 c)
theorem errW_none : errW none = .nilIface := rfl
theorem errW_some (c : Int) : errW (some c) = .iface 0 (.int .i64 c) := rfl

-- the values' own types

end Go.Proofs.Ytkmlijnfhnpbjaa.Q
