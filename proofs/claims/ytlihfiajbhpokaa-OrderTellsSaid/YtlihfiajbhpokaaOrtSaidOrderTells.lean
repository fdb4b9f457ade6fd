/- The pure statement of OrderTells. -/
import Derived.Test.YtlihfiajbhpokaaOrtx7
import Derived.Test.YtlihfiajbhpokaaOrtOpens
namespace Go.Proofs.Ytlihfiajbhpokaa.Ort
open Go.RowKit Go.Proofs.YtlihfiajbhpokaaW.PrintWords
def jobberlaw12_OrderTells.Pure : Prop := ∀ (x0 : S33) (x1 : S33), WF33 x0 → WF33 x1 → ∃ k, jobberlaw12_OrderTells.f k x0.f0 x0.f1 x0.f2 x0.f3 x0.f4 x0.f5 x1.f0 x1.f1 x1.f2 x1.f3 x1.f4 x1.f5 = some true
end Go.Proofs.Ytlihfiajbhpokaa.Ort
