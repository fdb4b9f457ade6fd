/- The pure statement of LimitsEdges. -/
import Derived.Test.YthaaghkplbbgdaaLiax7
import Derived.Test.YthaaghkplbbgdaaLiaOpens
namespace Go.Proofs.Ythaaghkplbbgdaa.Lia
open Go.RowKit Go.Proofs.YthaaghkplbbgdaaW.PrintWords
def jobberlaw07_LimitsEdges.Pure : Prop := ∀ (x0 : Int) (x1 : Int) (x2 : Int), (Lit.int .i64 x0).wf = true → (Lit.int .i64 x1).wf = true → (Lit.int .i64 x2).wf = true → ∃ k, jobberlaw07_LimitsEdges.f k x0 x1 x2 = some true
end Go.Proofs.Ythaaghkplbbgdaa.Lia
