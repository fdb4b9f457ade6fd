/- The pure statement of ChainNobody. -/
import Derived.Test.YthkhfhhbldjdlaaChnx2
import Derived.Test.YthkhfhhbldjdlaaChnOpens
namespace Go.Proofs.Ythkhfhhbldjdlaa.Chn
open Go.RowKit Go.Proofs.YthkhfhhbldjdlaaW.PrintWords
def jobberlaw38_ChainNobody.Pure : Prop := ∀ (x0 : Int) (x1 : Int) (x2 : S60), (Lit.int .u64 x0).wf = true → (Lit.int .u64 x1).wf = true → WF60 x2 → jobberlaw38_ChainNobody.f x0 x1 x2.f0 x2.f1 x2.f2 x2.f3 = some true
end Go.Proofs.Ythkhfhhbldjdlaa.Chn
