/- The pure statement of FeesTell. -/
import Derived.Test.YthaaghkplbbgdaaFeesx8
import Derived.Test.YthaaghkplbbgdaaFeesOpens
namespace Go.Proofs.Ythaaghkplbbgdaa.Fees
open Go.RowKit Go.Proofs.YthaaghkplbbgdaaW.PrintWords
def jobberlaw08_FeesTell.Pure : Prop := ∀ (x0 : List (S64)) (x1 : Int), (x0.length ≤ maxLen ∧ ∀ y_ ∈ x0, WF64 y_) → (Lit.int .i64 x1).wf = true → ∃ k, jobberlaw08_FeesTell.f k x0 x1 = some true
end Go.Proofs.Ythaaghkplbbgdaa.Fees
