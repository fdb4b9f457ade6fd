/- The pure statement of GridNear holds: a price on the grid is its own next one, and counts as 1; else none lies between the next ones. No condition. -/
import Derived.Test.YtdfkbdcdgbjgcaaGridSaidGridNear
import Derived.Test.YtdfkbdcdgbjgcaaGridMathE
namespace Go.Proofs.Ytdfkbdcdgbjgcaa.Grid.Pure
open Go.Proofs.Ytdfkbdcdgbjgcaa.Grid

theorem GridNear : jobberlaw06_GridNear.Pure := fun l p _ _ => M.near l p

end Go.Proofs.Ytdfkbdcdgbjgcaa.Grid.Pure
