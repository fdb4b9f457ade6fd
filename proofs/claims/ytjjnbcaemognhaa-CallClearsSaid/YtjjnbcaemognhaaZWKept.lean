/- A part of the proof; no condition. -/
import Derived.Test.YtjjnbcaemognhaaZWFoot
namespace Go.Proofs.YtjjnbcaemognhaaW.PrintWords
open Go.RowKit
section
variable {w W W2 : World} {S S2 S' : Nat → Prop}
end
namespace Kd
section
variable {α : Type} {d : Kd α} {e base n c : Nat} {ok oki S S2 : Nat → Prop} {w w0 W W1 W2 : World} {v : Value} {A : Option Addr} {xs : List α} {i : Int} {cs : List Value}
end
end Kd
end Go.Proofs.YtjjnbcaemognhaaW.PrintWords
