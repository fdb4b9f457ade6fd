/- The pure statement of ChanceBounds. -/
import Derived.Test.YtdfkbdcdgbjgcaaChax3
import Derived.Test.YtdfkbdcdgbjgcaaChaOpens
namespace Go.Proofs.Ytdfkbdcdgbjgcaa.Cha
open Go.RowKit Go.Proofs.YtdfkbdcdgbjgcaaW.PrintWords
def jobberlaw05_ChanceBounds.Pure : Prop := ∀ (x0 : List Int) (x1 : S34), (x0.length ≤ maxLen ∧ ∀ y_ ∈ x0, (Lit.int .u8 y_).wf = true) → WF34 x1 → jobberlaw05_ChanceBounds.f x0 x1.f0 x1.f1 x1.f2 x1.f3 x1.f4 = some true
end Go.Proofs.Ytdfkbdcdgbjgcaa.Cha
