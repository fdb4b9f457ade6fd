/- The pure statement of LimitsTrim. -/
import Derived.Test.YthaaghkplbbgdaaLimx3
import Derived.Test.YthaaghkplbbgdaaLimOpens
namespace Go.Proofs.Ythaaghkplbbgdaa.Lim
open Go.RowKit Go.Proofs.YthaaghkplbbgdaaW.PrintWords
def jobberlaw07_LimitsTrim.Pure : Prop := ∀ (x0 : Int) (x1 : Int), (Lit.int .i64 x0).wf = true → (Lit.int .i64 x1).wf = true → ∃ k, jobberlaw07_LimitsTrim.f k x0 x1 = some true
end Go.Proofs.Ythaaghkplbbgdaa.Lim
