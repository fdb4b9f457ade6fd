/- A part of the proof; no condition. -/
import Derived.Test.YtjjnbcaemognhaaZWInv
import Derived.Test.YtjjnbcaemognhaaZWFootNe
namespace Go.Proofs.YtjjnbcaemognhaaW.PrintWords
open Go.RowKit
end Go.Proofs.YtjjnbcaemognhaaW.PrintWords
namespace Go.Proofs.YtjjnbcaemognhaaW.PrintLast
section
variable {ops : Array Oper} {a : Act} {o og : Oper} {g : Nat} {t : Tmp} {u : Bool}
end
end Go.Proofs.YtjjnbcaemognhaaW.PrintLast
