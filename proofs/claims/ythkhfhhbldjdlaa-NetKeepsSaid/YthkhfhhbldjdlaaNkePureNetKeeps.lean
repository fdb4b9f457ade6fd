/- The plain side of NetKeeps: the law's function tells true, whatever comes in. No condition. -/
import Derived.Test.YthkhfhhbldjdlaaNkeSaidNetKeeps
namespace Go.Proofs.Ythkhfhhbldjdlaa.Nke.Pure
open Go.RowKit Go.Proofs.Ythkhfhhbldjdlaa.Nke Go.Proofs.YthkhfhhbldjdlaaW.PrintWords Go.Proofs.YthkhfhhbldjdlaaW.PrintLast

theorem NetKeeps : jobberlaw37_NetKeeps.Pure := by
  intro x0 x1 _ _
  rfl

end Go.Proofs.Ythkhfhhbldjdlaa.Nke.Pure
