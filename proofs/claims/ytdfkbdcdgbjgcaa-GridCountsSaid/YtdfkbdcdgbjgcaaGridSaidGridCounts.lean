/- The pure statement of GridCounts. -/
import Derived.Test.YtdfkbdcdgbjgcaaGridx8
import Derived.Test.YtdfkbdcdgbjgcaaGridOpens
namespace Go.Proofs.Ytdfkbdcdgbjgcaa.Grid
open Go.RowKit Go.Proofs.YtdfkbdcdgbjgcaaW.PrintWords
def jobberlaw06_GridCounts.Pure : Prop := ∀ (x0 : List (S94)) (x1 : Int) (x2 : Int) (x3 : Int), (x0.length ≤ maxLen ∧ ∀ y_ ∈ x0, WF94 y_) → (Lit.int .i64 x1).wf = true → (Lit.int .i64 x2).wf = true → (Lit.int .i64 x3).wf = true → ∃ k, jobberlaw06_GridCounts.f k x0 x1 x2 x3 = some true
end Go.Proofs.Ytdfkbdcdgbjgcaa.Grid
