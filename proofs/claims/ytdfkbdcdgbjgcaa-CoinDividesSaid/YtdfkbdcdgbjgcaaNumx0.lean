/- Printed by this session's wip/drive.py over the translation; some functions by hand. -/
import Derived.Test.YtdfkbdcdgbjgcaaProg
import Derived.Test.YtdfkbdcdgbjgcaaShelf
import Derived.WalkSmall
import Derived.Below
import Derived.Deep.Draws
import Derived.Deep.AppendLies
import Derived.Maps.AppendAt
import Derived.OwnWalk
import Derived.Laws.BytesArg
import Derived.Laws.MakeOwn
import Derived.Laws.OwnMore
import Derived.Deep.OwnRows
import Derived.Tactics
import Derived.Lib.ConvBytes
import Derived.Laws.Slices
import Derived.WalkKit
import Derived.KernelRfl
import Derived.RowKit3
import Derived.Deep.LoopGhost
import Derived.Deep.QuietTactic
import Derived.BigQuiet
import Derived.WideLaws
import Derived.Deep.DeepCutAuto
import Derived.Deep.CutBlock
import Derived.Deep.RegionHeld3
import Derived.Laws.Rows
import Derived.Lib.AppendStr
import Derived.ArgAppend
import Derived.Laws.IdiomCopy
import Derived.OrdersHeld
import Derived.Laws.BitsLemmas
import Derived.RowKit
import Derived.Test.YtdfkbdcdgbjgcaaWWords
import Derived.Test.YtdfkbdcdgbjgcaaWLast
import Derived.Test.YtdfkbdcdgbjgcaaWTab
import Derived.Test.YtdfkbdcdgbjgcaaWFour
import Derived.Test.YtdfkbdcdgbjgcaaWQPut
import Derived.Test.YtdfkbdcdgbjgcaaWApart
import Derived.Test.YtdfkbdcdgbjgcaaWArr
import Derived.Test.YtdfkbdcdgbjgcaaWZeros
import Derived.Test.YtdfkbdcdgbjgcaaWFoot
import Derived.Test.YtdfkbdcdgbjgcaaWKept
import Derived.Test.YtdfkbdcdgbjgcaaWShare
import Derived.Test.YtdfkbdcdgbjgcaaWN
import Derived.Test.YtdfkbdcdgbjgcaaWFootNe
import Derived.Test.YtdfkbdcdgbjgcaaWAt
import Derived.Test.YtdfkbdcdgbjgcaaWEqStruct
import Derived.Test.YtdfkbdcdgbjgcaaWRepsOne
import Derived.Test.YtdfkbdcdgbjgcaaWInv
import Derived.Test.YtdfkbdcdgbjgcaaWInvWords
import Derived.Test.YtdfkbdcdgbjgcaaWGuard
import Derived.Test.YtdfkbdcdgbjgcaaWNEv
import Derived.Test.YtdfkbdcdgbjgcaaWMore
namespace Go.Proofs.Ytdfkbdcdgbjgcaa.Num
open Go.RowKit Go.Proofs.YtdfkbdcdgbjgcaaW.PrintWords Go.Proofs.YtdfkbdcdgbjgcaaW.PrintLast Go.Proofs.YtdfkbdcdgbjgcaaW.PrintMore
attribute [local go_sem] max2_int min2_int max_two min_two max_three min_three max_four min_four   -- for this text's walks alone
set_option linter.unusedVariables false
set_option linter.unusedSimpArgs false



def errW : Option Int → Value
  | none => .nilIface
  | some c => .iface 0 (.int .i64 c)
theorem errW_none : errW none = .nilIface := rfl
theorem errW_some (c : Int) : errW (some c) = .iface 0 (.int .i64 c) := rfl

-- the values' own types

end Go.Proofs.Ytdfkbdcdgbjgcaa.Num
