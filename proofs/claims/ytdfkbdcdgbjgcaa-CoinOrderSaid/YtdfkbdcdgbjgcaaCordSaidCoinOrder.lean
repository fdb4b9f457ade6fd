/- The pure statement of CoinOrder. -/
import Derived.Test.YtdfkbdcdgbjgcaaCordx3
import Derived.Test.YtdfkbdcdgbjgcaaCordOpens
namespace Go.Proofs.Ytdfkbdcdgbjgcaa.Cord
open Go.RowKit Go.Proofs.YtdfkbdcdgbjgcaaW.PrintWords
def jobberlaw01_CoinOrder.Pure : Prop := ∀ (x0 : List Int) (x1 : Int) (x2 : Int), (x0.length ≤ maxLen ∧ ∀ y_ ∈ x0, (Lit.int .i64 y_).wf = true) → (Lit.int .i64 x1).wf = true → (Lit.int .i64 x2).wf = true → ∃ k, jobberlaw01_CoinOrder.f k x0 x1 x2 = some true
end Go.Proofs.Ytdfkbdcdgbjgcaa.Cord
