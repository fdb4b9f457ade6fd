/- The pure statement of OrderRank. -/
import Derived.Test.YtlihfiajbhpokaaOrrx5
import Derived.Test.YtlihfiajbhpokaaOrrOpens
namespace Go.Proofs.Ytlihfiajbhpokaa.Orr
open Go.RowKit Go.Proofs.YtlihfiajbhpokaaW.PrintWords
def jobberlaw12_OrderRank.Pure : Prop := ∀ (x0 : S33) (x1 : S33) (x2 : S33) (x3 : Int), WF33 x0 → WF33 x1 → WF33 x2 → (Lit.int .i64 x3).wf = true → ∃ k, jobberlaw12_OrderRank.f k x0.f0 x0.f1 x0.f2 x0.f3 x0.f4 x0.f5 x1.f0 x1.f1 x1.f2 x1.f3 x1.f4 x1.f5 x2.f0 x2.f1 x2.f2 x2.f3 x2.f4 x2.f5 x3 = some true
end Go.Proofs.Ytlihfiajbhpokaa.Orr
