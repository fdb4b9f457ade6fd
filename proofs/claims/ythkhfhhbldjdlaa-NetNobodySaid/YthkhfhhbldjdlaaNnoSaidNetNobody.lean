/- The pure statement of NetNobody. -/
import Derived.Test.YthkhfhhbldjdlaaNnox4
import Derived.Test.YthkhfhhbldjdlaaNnoOpens
namespace Go.Proofs.Ythkhfhhbldjdlaa.Nno
open Go.RowKit Go.Proofs.YthkhfhhbldjdlaaW.PrintWords
def jobberlaw37_NetNobody.Pure : Prop := ∀ (x0 : Int) (x1 : Int) (x2 : List Int), (Lit.int .i64 x0).wf = true → (Lit.int .i64 x1).wf = true → (x2.length ≤ maxLen ∧ ∀ y_ ∈ x2, (Lit.int .u8 y_).wf = true) → jobberlaw37_NetNobody.f x0 x1 x2 = some true
end Go.Proofs.Ythkhfhhbldjdlaa.Nno
