/- Printed by this session's wip/drive.py over the translation; some functions by hand. -/
import Derived.Test.YtlihfiajbhpokaaOrcx0
import Derived.Test.YtlihfiajbhpokaaOrcx1
import Derived.Test.YtlihfiajbhpokaaOrcx2
import Derived.Test.YtlihfiajbhpokaaOrcx3
import Derived.Test.YtlihfiajbhpokaaOrcx4
import Derived.Test.YtlihfiajbhpokaaOrcx5
import Derived.Test.YtlihfiajbhpokaaOrcx6
import Derived.Test.YtlihfiajbhpokaaOrcx7
import Derived.Test.YtlihfiajbhpokaaOrcx8
import Derived.Test.YtlihfiajbhpokaaOrcx9
import Derived.Test.YtlihfiajbhpokaaOrcx10
import Derived.Test.YtlihfiajbhpokaaOrcx11
import Derived.Test.YtlihfiajbhpokaaOrcx12
namespace Go.Proofs.Ytlihfiajbhpokaa.Orc
open Go.RowKit Go.Proofs.YtlihfiajbhpokaaW.PrintWords Go.Proofs.YtlihfiajbhpokaaW.PrintLast Go.Proofs.YtlihfiajbhpokaaW.PrintMore
attribute [local go_sem] max2_int min2_int max_two min_two max_three min_three max_four min_four   -- for this text's walks alone
set_option linter.unusedVariables false
set_option linter.unusedSimpArgs false

end Go.Proofs.Ytlihfiajbhpokaa.Orc
