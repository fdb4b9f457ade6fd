/- The pure statement of FeesCost. -/
import Derived.Test.YthaaghkplbbgdaaFebx9
import Derived.Test.YthaaghkplbbgdaaFebOpens
namespace Go.Proofs.Ythaaghkplbbgdaa.Feb
open Go.RowKit Go.Proofs.YthaaghkplbbgdaaW.PrintWords
def jobberlaw08_FeesCost.Pure : Prop := ∀ (x0 : List (S64)) (x1 : Int) (x2 : Int) (x3 : Int) (x4 : Int), (x0.length ≤ maxLen ∧ ∀ y_ ∈ x0, WF64 y_) → (Lit.int .i64 x1).wf = true → (Lit.int .i64 x2).wf = true → (Lit.int .i64 x3).wf = true → (Lit.int .i64 x4).wf = true → ∃ k, jobberlaw08_FeesCost.f k x0 x1 x2 x3 x4 = some true
end Go.Proofs.Ythaaghkplbbgdaa.Feb
