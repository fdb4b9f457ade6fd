/- The plain side of NetNobody: the law's function tells true, whatever comes in. No condition. -/
import Derived.Test.YthkhfhhbldjdlaaNnoSaidNetNobody
namespace Go.Proofs.Ythkhfhhbldjdlaa.Nno.Pure
open Go.RowKit Go.Proofs.Ythkhfhhbldjdlaa.Nno Go.Proofs.YthkhfhhbldjdlaaW.PrintWords Go.Proofs.YthkhfhhbldjdlaaW.PrintLast

theorem NetNobody : jobberlaw37_NetNobody.Pure := by
  intro x0 x1 x2 _ _ _
  rfl

end Go.Proofs.Ythkhfhhbldjdlaa.Nno.Pure
