/- The pure statement of OwnReaches. -/
import Derived.Test.YtdfkbdcdgbjgcaaOwnx4
import Derived.Test.YtdfkbdcdgbjgcaaOwnOpens
namespace Go.Proofs.Ytdfkbdcdgbjgcaa.Own
open Go.RowKit Go.Proofs.YtdfkbdcdgbjgcaaW.PrintWords
def jobberlaw17_OwnReaches.Pure : Prop := ∀ (x0 : Int) (x1 : Int) (x2 : List (S73)) (x3 : Int), (Lit.int .i64 x0).wf = true → (Lit.int .i64 x1).wf = true → (x2.length ≤ maxLen ∧ ∀ y_ ∈ x2, WF73 y_) → (Lit.int .i64 x3).wf = true → ∃ k, jobberlaw17_OwnReaches.f k x0 x1 x2 x3 = some true
end Go.Proofs.Ytdfkbdcdgbjgcaa.Own
