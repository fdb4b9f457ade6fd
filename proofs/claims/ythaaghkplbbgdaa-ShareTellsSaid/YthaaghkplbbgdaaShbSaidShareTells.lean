/- The pure statement of ShareTells. -/
import Derived.Test.YthaaghkplbbgdaaShbx8
import Derived.Test.YthaaghkplbbgdaaShbOpens
namespace Go.Proofs.Ythaaghkplbbgdaa.Shb
open Go.RowKit Go.Proofs.YthaaghkplbbgdaaW.PrintWords
def jobberlaw16_ShareTells.Pure : Prop := ∀ (x0 : Int) (x1 : List (S46)) (x2 : Int) (x3 : Int), (Lit.int .i64 x0).wf = true → (x1.length ≤ maxLen ∧ ∀ y_ ∈ x1, WF46 y_) → (Lit.int .i64 x2).wf = true → (Lit.int .i64 x3).wf = true → ∃ k, jobberlaw16_ShareTells.f k x0 x1 x2 x3 = some true
end Go.Proofs.Ythaaghkplbbgdaa.Shb
