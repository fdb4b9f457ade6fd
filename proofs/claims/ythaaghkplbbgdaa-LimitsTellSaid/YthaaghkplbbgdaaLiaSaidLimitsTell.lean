/- The pure statement of LimitsTell. -/
import Derived.Test.YthaaghkplbbgdaaLiax5
import Derived.Test.YthaaghkplbbgdaaLiaOpens
namespace Go.Proofs.Ythaaghkplbbgdaa.Lia
open Go.RowKit Go.Proofs.YthaaghkplbbgdaaW.PrintWords
def jobberlaw07_LimitsTell.Pure : Prop := ∀ (x0 : Int) (x1 : Int) (x2 : Int) (x3 : Int) (x4 : Int), (Lit.int .i64 x0).wf = true → (Lit.int .i64 x1).wf = true → (Lit.int .i64 x2).wf = true → (Lit.int .i64 x3).wf = true → (Lit.int .i64 x4).wf = true → ∃ k, jobberlaw07_LimitsTell.f k x0 x1 x2 x3 x4 = some true
end Go.Proofs.Ythaaghkplbbgdaa.Lia
