/- The pure statement of OwnMeets. -/
import Derived.Test.YtdfkbdcdgbjgcaaOwnMx4
import Derived.Test.YtdfkbdcdgbjgcaaOwnMOpens
namespace Go.Proofs.Ytdfkbdcdgbjgcaa.OwnM
open Go.RowKit Go.Proofs.YtdfkbdcdgbjgcaaW.PrintWords
def jobberlaw17_OwnMeets.Pure : Prop := ∀ (x0 : Int) (x1 : Int) (x2 : List (S73)), (Lit.int .i64 x0).wf = true → (Lit.int .i64 x1).wf = true → (x2.length ≤ maxLen ∧ ∀ y_ ∈ x2, WF73 y_) → ∃ k, jobberlaw17_OwnMeets.f k x0 x1 x2 = some true
end Go.Proofs.Ytdfkbdcdgbjgcaa.OwnM
