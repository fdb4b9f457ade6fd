/- The pure statement of ShareTime. -/
import Derived.Test.YthaaghkplbbgdaaShax5
import Derived.Test.YthaaghkplbbgdaaShaOpens
namespace Go.Proofs.Ythaaghkplbbgdaa.Sha
open Go.RowKit Go.Proofs.YthaaghkplbbgdaaW.PrintWords
def jobberlaw16_ShareTime.Pure : Prop := ∀ (x0 : List (S46)) (x1 : Int) (x2 : Int), (x0.length ≤ maxLen ∧ ∀ y_ ∈ x0, WF46 y_) → (Lit.int .i64 x1).wf = true → (Lit.int .i64 x2).wf = true → ∃ k, jobberlaw16_ShareTime.f k x0 x1 x2 = some true
end Go.Proofs.Ythaaghkplbbgdaa.Sha
