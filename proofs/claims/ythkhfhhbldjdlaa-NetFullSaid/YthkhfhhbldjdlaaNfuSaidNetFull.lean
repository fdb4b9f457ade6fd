/- The pure statement of NetFull. -/
import Derived.Test.YthkhfhhbldjdlaaNfux4
import Derived.Test.YthkhfhhbldjdlaaNfuOpens
namespace Go.Proofs.Ythkhfhhbldjdlaa.Nfu
open Go.RowKit Go.Proofs.YthkhfhhbldjdlaaW.PrintWords
def jobberlaw37_NetFull.Pure : Prop := ∀ (x0 : Int) (x1 : Int) (x2 : List Int), (Lit.int .i64 x0).wf = true → (Lit.int .i64 x1).wf = true → (x2.length ≤ maxLen ∧ ∀ y_ ∈ x2, (Lit.int .u8 y_).wf = true) → jobberlaw37_NetFull.f x0 x1 x2 = some true
end Go.Proofs.Ythkhfhhbldjdlaa.Nfu
