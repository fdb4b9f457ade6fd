/- The pure statement of OrderReads. -/
import Derived.Test.YtlihfiajbhpokaaOrbx12
import Derived.Test.YtlihfiajbhpokaaOrbOpens
namespace Go.Proofs.Ytlihfiajbhpokaa.Orb
open Go.RowKit Go.Proofs.YtlihfiajbhpokaaW.PrintWords
def jobberlaw12_OrderReads.Pure : Prop := ∀ (x0 : List Int), (x0.length ≤ maxLen ∧ ∀ y_ ∈ x0, (Lit.int .u8 y_).wf = true) → ∃ k, jobberlaw12_OrderReads.f k x0 = some true
end Go.Proofs.Ytlihfiajbhpokaa.Orb
