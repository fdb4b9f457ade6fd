/- The pure statement of GridCounts holds: how many prices lie between two is the reference's, and counts side by side add up. No condition. -/
import Derived.Test.YtdfkbdcdgbjgcaaGridSaidGridCounts
import Derived.Test.YtdfkbdcdgbjgcaaGridMathD
namespace Go.Proofs.Ytdfkbdcdgbjgcaa.Grid.Pure
open Go.Proofs.Ytdfkbdcdgbjgcaa.Grid

theorem GridCounts : jobberlaw06_GridCounts.Pure := fun l a b c _ _ _ _ => M.counts l a b c

end Go.Proofs.Ytdfkbdcdgbjgcaa.Grid.Pure
