/- A part of the proof; no condition. -/
import Derived.Test.YtlihfiajbhpokaaZWWords
namespace Go.Proofs.YtlihfiajbhpokaaW.PrintWords
open Go.RowKit
section
variable {P : Program} {ops : Array Oper} {rest : List Oper} {o : Oper} {a : Act} {Q : Exit → Act → World → Prop} {W : World}
end
end Go.Proofs.YtlihfiajbhpokaaW.PrintWords
