/- The plain law of LadderSides: the walk shows the law true; no condition. -/
import Derived.Test.YtlihfiajbhpokaaZLdsSaidLadderSides
namespace Go.Proofs.Ytlihfiajbhpokaa.Lds.Pure
open Go.RowKit Go.Proofs.Ytlihfiajbhpokaa.Lds Go.Proofs.YtlihfiajbhpokaaW.PrintWords Go.Proofs.YtlihfiajbhpokaaW.PrintLast
theorem LadderSides : jobberlaw13_LadderSides.Pure := fun _ _ _ _ _ _ => rfl
end Go.Proofs.Ytlihfiajbhpokaa.Lds.Pure
