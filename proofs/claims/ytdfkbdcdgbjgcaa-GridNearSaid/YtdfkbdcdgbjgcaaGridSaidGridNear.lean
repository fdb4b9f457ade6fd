/- The pure statement of GridNear. -/
import Derived.Test.YtdfkbdcdgbjgcaaGridx9
import Derived.Test.YtdfkbdcdgbjgcaaGridOpens
namespace Go.Proofs.Ytdfkbdcdgbjgcaa.Grid
open Go.RowKit Go.Proofs.YtdfkbdcdgbjgcaaW.PrintWords
def jobberlaw06_GridNear.Pure : Prop := ∀ (x0 : List (S94)) (x1 : Int), (x0.length ≤ maxLen ∧ ∀ y_ ∈ x0, WF94 y_) → (Lit.int .i64 x1).wf = true → ∃ k, jobberlaw06_GridNear.f k x0 x1 = some true
end Go.Proofs.Ytdfkbdcdgbjgcaa.Grid
