/- The plain side of ChainNobody: whatever comes in, the law's function tells true (it is shown so in the walk). No condition. -/
import Derived.Test.YthkhfhhbldjdlaaChnSaidChainNobody
namespace Go.Proofs.Ythkhfhhbldjdlaa.Chn.Pure
open Go.RowKit Go.Proofs.Ythkhfhhbldjdlaa.Chn Go.Proofs.YthkhfhhbldjdlaaW.PrintWords Go.Proofs.YthkhfhhbldjdlaaW.PrintLast

theorem ChainNobody : jobberlaw38_ChainNobody.Pure := by
  intro x0 x1 x2 _ _ _
  rfl

end Go.Proofs.Ythkhfhhbldjdlaa.Chn.Pure
