/- Printed by this session's wip/drive.py over the translation; some functions by hand. -/
import Derived.Test.YtdfkbdcdgbjgcaaGridx0
import Derived.Test.YtdfkbdcdgbjgcaaGridx1
import Derived.Test.YtdfkbdcdgbjgcaaGridx2
import Derived.Test.YtdfkbdcdgbjgcaaGridx3
import Derived.Test.YtdfkbdcdgbjgcaaGridx4
import Derived.Test.YtdfkbdcdgbjgcaaGridx5
import Derived.Test.YtdfkbdcdgbjgcaaGridx6
import Derived.Test.YtdfkbdcdgbjgcaaGridx7
import Derived.Test.YtdfkbdcdgbjgcaaGridx8
import Derived.Test.YtdfkbdcdgbjgcaaGridx9
namespace Go.Proofs.Ytdfkbdcdgbjgcaa.Grid
open Go.RowKit Go.Proofs.YtdfkbdcdgbjgcaaW.PrintWords Go.Proofs.YtdfkbdcdgbjgcaaW.PrintLast Go.Proofs.YtdfkbdcdgbjgcaaW.PrintMore
attribute [local go_sem] max2_int min2_int max_two min_two max_three min_three max_four min_four   -- for this text's walks alone
set_option linter.unusedVariables false
set_option linter.unusedSimpArgs false

end Go.Proofs.Ytdfkbdcdgbjgcaa.Grid
