/- The pure statement of CoinNear. -/
import Derived.Test.YtdfkbdcdgbjgcaaCoinx2
import Derived.Test.YtdfkbdcdgbjgcaaCoinOpens
namespace Go.Proofs.Ytdfkbdcdgbjgcaa.Coin
open Go.RowKit Go.Proofs.YtdfkbdcdgbjgcaaW.PrintWords
def jobberlaw01_CoinNear.Pure : Prop := ∀ (x0 : Int) (x1 : Int) (x2 : Int), (Lit.int .i64 x0).wf = true → (Lit.int .i64 x1).wf = true → (Lit.int .i64 x2).wf = true → ∃ k, jobberlaw01_CoinNear.f k x0 x1 x2 = some true
end Go.Proofs.Ytdfkbdcdgbjgcaa.Coin
