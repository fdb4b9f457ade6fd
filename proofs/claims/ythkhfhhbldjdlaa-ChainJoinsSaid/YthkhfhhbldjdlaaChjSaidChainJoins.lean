/- The pure statement of ChainJoins. -/
import Derived.Test.YthkhfhhbldjdlaaChjx6
import Derived.Test.YthkhfhhbldjdlaaChjOpens
namespace Go.Proofs.Ythkhfhhbldjdlaa.Chj
open Go.RowKit Go.Proofs.YthkhfhhbldjdlaaW.PrintWords
def jobberlaw38_ChainJoins.Pure : Prop := ∀ (x0 : S60) (x1 : S60), WF60 x0 → WF60 x1 → jobberlaw38_ChainJoins.f x0.f0 x0.f1 x0.f2 x0.f3 x1.f0 x1.f1 x1.f2 x1.f3 = some true
end Go.Proofs.Ythkhfhhbldjdlaa.Chj
