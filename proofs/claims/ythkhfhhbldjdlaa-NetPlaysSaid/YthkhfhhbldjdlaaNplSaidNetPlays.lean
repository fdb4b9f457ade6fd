/- The pure statement of NetPlays. -/
import Derived.Test.YthkhfhhbldjdlaaNplx7
import Derived.Test.YthkhfhhbldjdlaaNplOpens
namespace Go.Proofs.Ythkhfhhbldjdlaa.Npl
open Go.RowKit Go.Proofs.YthkhfhhbldjdlaaW.PrintWords
def jobberlaw37_NetPlays.Pure : Prop := ∀ (x0 : List (S46)), (x0.length ≤ maxLen ∧ ∀ y_ ∈ x0, WF46 y_) → jobberlaw37_NetPlays.f x0 = some true
end Go.Proofs.Ythkhfhhbldjdlaa.Npl
