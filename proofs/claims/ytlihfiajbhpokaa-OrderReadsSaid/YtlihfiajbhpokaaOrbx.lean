/- Printed by this session's wip/drive.py over the translation; some functions by hand. -/
import Derived.Test.YtlihfiajbhpokaaOrbx0
import Derived.Test.YtlihfiajbhpokaaOrbx1
import Derived.Test.YtlihfiajbhpokaaOrbx2
import Derived.Test.YtlihfiajbhpokaaOrbx3
import Derived.Test.YtlihfiajbhpokaaOrbx4
import Derived.Test.YtlihfiajbhpokaaOrbx5
import Derived.Test.YtlihfiajbhpokaaOrbx6
import Derived.Test.YtlihfiajbhpokaaOrbx7
import Derived.Test.YtlihfiajbhpokaaOrbx8
import Derived.Test.YtlihfiajbhpokaaOrbx9
import Derived.Test.YtlihfiajbhpokaaOrbx10
import Derived.Test.YtlihfiajbhpokaaOrbx11
import Derived.Test.YtlihfiajbhpokaaOrbx12
namespace Go.Proofs.Ytlihfiajbhpokaa.Orb
open Go.RowKit Go.Proofs.YtlihfiajbhpokaaW.PrintWords Go.Proofs.YtlihfiajbhpokaaW.PrintLast Go.Proofs.YtlihfiajbhpokaaW.PrintMore
attribute [local go_sem] max2_int min2_int max_two min_two max_three min_three max_four min_four   -- for this text's walks alone
set_option linter.unusedVariables false
set_option linter.unusedSimpArgs false

end Go.Proofs.Ytlihfiajbhpokaa.Orb
