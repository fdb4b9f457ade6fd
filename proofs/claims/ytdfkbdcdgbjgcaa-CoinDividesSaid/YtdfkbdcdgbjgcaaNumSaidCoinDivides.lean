/- The pure statement of CoinDivides. -/
import Derived.Test.YtdfkbdcdgbjgcaaNumx5
import Derived.Test.YtdfkbdcdgbjgcaaNumOpens
namespace Go.Proofs.Ytdfkbdcdgbjgcaa.Num
open Go.RowKit Go.Proofs.YtdfkbdcdgbjgcaaW.PrintWords
def jobberlaw01_CoinDivides.Pure : Prop := ∀ (x0 : Int) (x1 : Int) (x2 : Int) (x3 : Int), (Lit.int .i64 x0).wf = true → (Lit.int .i64 x1).wf = true → (Lit.int .i64 x2).wf = true → (Lit.int .i64 x3).wf = true → ∃ k, jobberlaw01_CoinDivides.f k x0 x1 x2 x3 = some true
end Go.Proofs.Ytdfkbdcdgbjgcaa.Num
