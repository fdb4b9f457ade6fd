/- The pure statement of CallClears. -/
import Derived.Test.YtjjnbcaemognhaaZClrx13
import Derived.Test.YtjjnbcaemognhaaZClrOpens
namespace Go.Proofs.Ytjjnbcaemognhaa.Clr
open Go.RowKit Go.Proofs.YtjjnbcaemognhaaW.PrintWords
def jobberlaw19_CallClears.Pure : Prop := ∀ (x0 : List (S42)) (x1 : Int) (x2 : Int) (x3 : Int), (x0.length ≤ maxLen ∧ ∀ y_ ∈ x0, WF42 y_) → (Lit.int .i64 x1).wf = true → (Lit.int .i64 x2).wf = true → (Lit.int .i64 x3).wf = true → ∃ k, jobberlaw19_CallClears.f k x0 x1 x2 x3 = some true
end Go.Proofs.Ytjjnbcaemognhaa.Clr
