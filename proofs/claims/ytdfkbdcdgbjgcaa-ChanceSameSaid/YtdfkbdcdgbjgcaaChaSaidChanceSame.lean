/- The pure statement of ChanceSame. -/
import Derived.Test.YtdfkbdcdgbjgcaaChax3
import Derived.Test.YtdfkbdcdgbjgcaaChaOpens
namespace Go.Proofs.Ytdfkbdcdgbjgcaa.Cha
open Go.RowKit Go.Proofs.YtdfkbdcdgbjgcaaW.PrintWords
def jobberlaw05_ChanceSame.Pure : Prop := ∀ (x0 : List Int) (x1 : List (S34)), (x0.length ≤ maxLen ∧ ∀ y_ ∈ x0, (Lit.int .u8 y_).wf = true) → (x1.length ≤ maxLen ∧ ∀ y_ ∈ x1, WF34 y_) → jobberlaw05_ChanceSame.f x0 x1 = some true
end Go.Proofs.Ytdfkbdcdgbjgcaa.Cha
