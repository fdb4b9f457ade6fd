/- The pure statement of LadderOrder. -/
import Derived.Test.YtlihfiajbhpokaaZLdox14
import Derived.Test.YtlihfiajbhpokaaZLdoOpens
namespace Go.Proofs.Ytlihfiajbhpokaa.Ldo
open Go.RowKit Go.Proofs.YtlihfiajbhpokaaW.PrintWords
def jobberlaw13_LadderOrder.Pure : Prop := ∀ (x0 : List (S33)) (x1 : Int), (x0.length ≤ maxLen ∧ ∀ y_ ∈ x0, WF33 y_) → (Lit.int .u8 x1).wf = true → jobberlaw13_LadderOrder.f x0 x1 = some true
end Go.Proofs.Ytlihfiajbhpokaa.Ldo
