/- A part of the proof; no condition. -/
import Derived.Test.YtlihfiajbhpokaaZWInv
import Derived.Test.YtlihfiajbhpokaaZWFootNe
namespace Go.Proofs.YtlihfiajbhpokaaW.PrintWords
open Go.RowKit
end Go.Proofs.YtlihfiajbhpokaaW.PrintWords
namespace Go.Proofs.YtlihfiajbhpokaaW.PrintLast
section
variable {ops : Array Oper} {a : Act} {o og : Oper} {g : Nat} {t : Tmp} {u : Bool}
end
end Go.Proofs.YtlihfiajbhpokaaW.PrintLast
