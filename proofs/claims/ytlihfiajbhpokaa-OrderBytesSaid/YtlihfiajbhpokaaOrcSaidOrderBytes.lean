/- The pure statement of OrderBytes. -/
import Derived.Test.YtlihfiajbhpokaaOrcx12
import Derived.Test.YtlihfiajbhpokaaOrcOpens
namespace Go.Proofs.Ytlihfiajbhpokaa.Orc
open Go.RowKit Go.Proofs.YtlihfiajbhpokaaW.PrintWords
def jobberlaw12_OrderBytes.Pure : Prop := ∀ (x0 : List (S33)) (x1 : List Int), (x0.length ≤ maxLen ∧ ∀ y_ ∈ x0, WF33 y_) → (x1.length ≤ maxLen ∧ ∀ y_ ∈ x1, (Lit.int .u8 y_).wf = true) → ∃ k, jobberlaw12_OrderBytes.f k x0 x1 = some true
end Go.Proofs.Ytlihfiajbhpokaa.Orc
