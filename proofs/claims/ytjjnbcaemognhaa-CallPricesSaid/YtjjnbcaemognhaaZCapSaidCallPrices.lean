/- The pure statement of CallPrices. -/
import Derived.Test.YtjjnbcaemognhaaZCapx18
import Derived.Test.YtjjnbcaemognhaaZCapOpens
namespace Go.Proofs.Ytjjnbcaemognhaa.Cap
open Go.RowKit Go.Proofs.YtjjnbcaemognhaaW.PrintWords
def jobberlaw19_CallPrices.Pure : Prop := ∀ (x0 : List (S42)) (x1 : Int), (x0.length ≤ maxLen ∧ ∀ y_ ∈ x0, WF42 y_) → (Lit.int .i64 x1).wf = true → ∃ k, jobberlaw19_CallPrices.f k x0 x1 = some true
end Go.Proofs.Ytjjnbcaemognhaa.Cap
