/- The plain side of NetFull: the law's function tells true, whatever comes in. No condition. -/
import Derived.Test.YthkhfhhbldjdlaaNfuSaidNetFull
namespace Go.Proofs.Ythkhfhhbldjdlaa.Nfu.Pure
open Go.RowKit Go.Proofs.Ythkhfhhbldjdlaa.Nfu Go.Proofs.YthkhfhhbldjdlaaW.PrintWords Go.Proofs.YthkhfhhbldjdlaaW.PrintLast

theorem NetFull : jobberlaw37_NetFull.Pure := by
  intro x0 x1 x2 _ _ _
  rfl

end Go.Proofs.Ythkhfhhbldjdlaa.Nfu.Pure
