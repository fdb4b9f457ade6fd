/- The pure statement of OrderSorts. -/
import Derived.Test.YtlihfiajbhpokaaOrsx11
import Derived.Test.YtlihfiajbhpokaaOrsOpens
namespace Go.Proofs.Ytlihfiajbhpokaa.Ors
open Go.RowKit Go.Proofs.YtlihfiajbhpokaaW.PrintWords
def jobberlaw12_OrderSorts.Pure : Prop := ∀ (x0 : List (S33)), (x0.length ≤ maxLen ∧ ∀ y_ ∈ x0, WF33 y_) → ∃ k, jobberlaw12_OrderSorts.f k x0 = some true
end Go.Proofs.Ytlihfiajbhpokaa.Ors
