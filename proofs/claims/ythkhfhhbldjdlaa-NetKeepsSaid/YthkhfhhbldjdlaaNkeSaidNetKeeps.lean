/- The pure statement of NetKeeps. -/
import Derived.Test.YthkhfhhbldjdlaaNkex4
import Derived.Test.YthkhfhhbldjdlaaNkeOpens
namespace Go.Proofs.Ythkhfhhbldjdlaa.Nke
open Go.RowKit Go.Proofs.YthkhfhhbldjdlaaW.PrintWords
def jobberlaw37_NetKeeps.Pure : Prop := ∀ (x0 : List Int) (x1 : Int), (x0.length ≤ maxLen ∧ ∀ y_ ∈ x0, (Lit.int .u8 y_).wf = true) → (Lit.int .u8 x1).wf = true → jobberlaw37_NetKeeps.f x0 x1 = some true
end Go.Proofs.Ythkhfhhbldjdlaa.Nke
