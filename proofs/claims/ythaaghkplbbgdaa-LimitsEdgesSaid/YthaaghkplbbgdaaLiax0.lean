/- Printed by this session's wip/drive.py over the translation; some functions by hand. -/
import Derived.Test.YthaaghkplbbgdaaProg
import Derived.Test.YthaaghkplbbgdaaShelf
import Derived.WalkSmall
import Derived.Below
import Derived.Deep.Draws
import Derived.Deep.AppendLies
import Derived.Maps.AppendAt
import Derived.OwnWalk
import Derived.Laws.BytesArg
import Derived.Laws.MakeOwn
import Derived.Laws.OwnMore
import Derived.Deep.OwnRows
import Derived.Tactics
import Derived.Lib.ConvBytes
import Derived.Laws.Slices
import Derived.WalkKit
import Derived.KernelRfl
import Derived.RowKit3
import Derived.Deep.LoopGhost
import Derived.Deep.QuietTactic
import Derived.BigQuiet
import Derived.WideLaws
import Derived.Deep.DeepCutAuto
import Derived.Deep.CutBlock
import Derived.Deep.RegionHeld3
import Derived.Laws.Rows
import Derived.Lib.AppendStr
import Derived.ArgAppend
import Derived.Laws.IdiomCopy
import Derived.OrdersHeld
import Derived.Laws.BitsLemmas
import Derived.RowKit
import Derived.Test.YthaaghkplbbgdaaWWords
import Derived.Test.YthaaghkplbbgdaaWLast
import Derived.Test.YthaaghkplbbgdaaWTab
import Derived.Test.YthaaghkplbbgdaaWFour
import Derived.Test.YthaaghkplbbgdaaWQPut
import Derived.Test.YthaaghkplbbgdaaWApart
import Derived.Test.YthaaghkplbbgdaaWArr
import Derived.Test.YthaaghkplbbgdaaWZeros
import Derived.Test.YthaaghkplbbgdaaWFoot
import Derived.Test.YthaaghkplbbgdaaWKept
import Derived.Test.YthaaghkplbbgdaaWShare
import Derived.Test.YthaaghkplbbgdaaWN
import Derived.Test.YthaaghkplbbgdaaWFootNe
import Derived.Test.YthaaghkplbbgdaaWAt
import Derived.Test.YthaaghkplbbgdaaWEqStruct
import Derived.Test.YthaaghkplbbgdaaWRepsOne
import Derived.Test.YthaaghkplbbgdaaWInv
import Derived.Test.YthaaghkplbbgdaaWInvWords
import Derived.Test.YthaaghkplbbgdaaWGuard
import Derived.Test.YthaaghkplbbgdaaWNEv
import Derived.Test.YthaaghkplbbgdaaWMore
namespace Go.Proofs.Ythaaghkplbbgdaa.Lia
open Go.RowKit Go.Proofs.YthaaghkplbbgdaaW.PrintWords Go.Proofs.YthaaghkplbbgdaaW.PrintLast Go.Proofs.YthaaghkplbbgdaaW.PrintMore
attribute [local go_sem] max2_int min2_int max_two min_two max_three min_three max_four min_four   -- for this text's walks alone
set_option linter.unusedVariables false
set_option linter.unusedSimpArgs false



def errW : Option Int → Value
  | none => .nilIface
  | some c => .iface 0 (.int .i64 c)
theorem errW_none : errW none = .nilIface := rfl
theorem errW_some (c : Int) : errW (some c) = .iface 0 (.int .i64 c) := rfl

-- the values' own types

end Go.Proofs.Ythaaghkplbbgdaa.Lia
