/- The pure statement of CoinAdds. -/
import Derived.Test.YtdfkbdcdgbjgcaaNumx4
import Derived.Test.YtdfkbdcdgbjgcaaNumOpens
namespace Go.Proofs.Ytdfkbdcdgbjgcaa.Num
open Go.RowKit Go.Proofs.YtdfkbdcdgbjgcaaW.PrintWords
def jobberlaw01_CoinAdds.Pure : Prop := ∀ (x0 : Int) (x1 : Int), (Lit.int .i64 x0).wf = true → (Lit.int .i64 x1).wf = true → ∃ k, jobberlaw01_CoinAdds.f k x0 x1 = some true
end Go.Proofs.Ytdfkbdcdgbjgcaa.Num
