/- A part of the proof; no condition. -/
import Derived.Shelf.Strconv.Itoa0
import Derived.Shelf.Bits.Mul64
import Derived.Test.YtlihfiajbhpokaaProg
namespace Go.Proofs
open Go.Shelf
end Go.Proofs
