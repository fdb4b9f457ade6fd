/- The pure statement of ChainPlays. -/
import Derived.Test.YthkhfhhbldjdlaaChpx8
import Derived.Test.YthkhfhhbldjdlaaChpOpens
namespace Go.Proofs.Ythkhfhhbldjdlaa.Chp
open Go.RowKit Go.Proofs.YthkhfhhbldjdlaaW.PrintWords
def jobberlaw38_ChainPlays.Pure : Prop := ∀ (x0 : S60) (x1 : List (S84)), WF60 x0 → (x1.length ≤ maxLen ∧ ∀ y_ ∈ x1, WF84 y_) → jobberlaw38_ChainPlays.f x0.f0 x0.f1 x0.f2 x0.f3 x1 = some true
end Go.Proofs.Ythkhfhhbldjdlaa.Chp
