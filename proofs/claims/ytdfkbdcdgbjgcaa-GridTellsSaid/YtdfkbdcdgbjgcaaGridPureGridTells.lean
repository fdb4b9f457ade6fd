/- The pure statement of GridTells holds: of any table and price the program's answers are the reference's. No condition. -/
import Derived.Test.YtdfkbdcdgbjgcaaGridSaidGridTells
import Derived.Test.YtdfkbdcdgbjgcaaGridMathC
namespace Go.Proofs.Ytdfkbdcdgbjgcaa.Grid.Pure
open Go.Proofs.Ytdfkbdcdgbjgcaa.Grid

theorem GridTells : jobberlaw06_GridTells.Pure := fun l p _ _ => M.tells l p

end Go.Proofs.Ytdfkbdcdgbjgcaa.Grid.Pure
