/- The pure statement of ChainTells. -/
import Derived.Test.YthkhfhhbldjdlaaChtx6
import Derived.Test.YthkhfhhbldjdlaaChtOpens
namespace Go.Proofs.Ythkhfhhbldjdlaa.Cht
open Go.RowKit Go.Proofs.YthkhfhhbldjdlaaW.PrintWords
def jobberlaw38_ChainTells.Pure : Prop := ∀ (x0 : S60) (x1 : Int) (x2 : Int) (x3 : Int), WF60 x0 → (Lit.int .u64 x1).wf = true → (Lit.int .u64 x2).wf = true → (Lit.int .i64 x3).wf = true → jobberlaw38_ChainTells.f x0.f0 x0.f1 x0.f2 x0.f3 x1 x2 x3 = some true
end Go.Proofs.Ythkhfhhbldjdlaa.Cht
