/- Printed by this session's wip/drive.py over the translation; some functions by hand. -/
import Derived.Test.YtlihfiajbhpokaaOrtx0
import Derived.Test.YtlihfiajbhpokaaOrtx1
import Derived.Test.YtlihfiajbhpokaaOrtx2
import Derived.Test.YtlihfiajbhpokaaOrtx3
import Derived.Test.YtlihfiajbhpokaaOrtx4
import Derived.Test.YtlihfiajbhpokaaOrtx5
import Derived.Test.YtlihfiajbhpokaaOrtx6
import Derived.Test.YtlihfiajbhpokaaOrtx7
namespace Go.Proofs.Ytlihfiajbhpokaa.Ort
open Go.RowKit Go.Proofs.YtlihfiajbhpokaaW.PrintWords Go.Proofs.YtlihfiajbhpokaaW.PrintLast Go.Proofs.YtlihfiajbhpokaaW.PrintMore
attribute [local go_sem] max2_int min2_int max_two min_two max_three min_three max_four min_four   -- for this text's walks alone
set_option linter.unusedVariables false
set_option linter.unusedSimpArgs false

end Go.Proofs.Ytlihfiajbhpokaa.Ort
