/- Printed by this session's wip/drive.py over the translation; some functions by hand. -/
import Derived.Test.YtdfkbdcdgbjgcaaNumx0
import Derived.Test.YtdfkbdcdgbjgcaaNumx1
import Derived.Test.YtdfkbdcdgbjgcaaNumx2
import Derived.Test.YtdfkbdcdgbjgcaaNumx3
import Derived.Test.YtdfkbdcdgbjgcaaNumx4
import Derived.Test.YtdfkbdcdgbjgcaaNumx5
namespace Go.Proofs.Ytdfkbdcdgbjgcaa.Num
open Go.RowKit Go.Proofs.YtdfkbdcdgbjgcaaW.PrintWords Go.Proofs.YtdfkbdcdgbjgcaaW.PrintLast Go.Proofs.YtdfkbdcdgbjgcaaW.PrintMore
attribute [local go_sem] max2_int min2_int max_two min_two max_three min_three max_four min_four   -- for this text's walks alone
set_option linter.unusedVariables false
set_option linter.unusedSimpArgs false

end Go.Proofs.Ytdfkbdcdgbjgcaa.Num
