/- Printed by this session's wip/drive.py over the translation; some functions by hand. -/
import Derived.Test.YthaaghkplbbgdaaFebx0
import Derived.Test.YthaaghkplbbgdaaFebx1
import Derived.Test.YthaaghkplbbgdaaFebx2
import Derived.Test.YthaaghkplbbgdaaFebx3
import Derived.Test.YthaaghkplbbgdaaFebx4
import Derived.Test.YthaaghkplbbgdaaFebx5
import Derived.Test.YthaaghkplbbgdaaFebx6
import Derived.Test.YthaaghkplbbgdaaFebx7
import Derived.Test.YthaaghkplbbgdaaFebx8
import Derived.Test.YthaaghkplbbgdaaFebx9
namespace Go.Proofs.Ythaaghkplbbgdaa.Feb
open Go.RowKit Go.Proofs.YthaaghkplbbgdaaW.PrintWords Go.Proofs.YthaaghkplbbgdaaW.PrintLast Go.Proofs.YthaaghkplbbgdaaW.PrintMore
attribute [local go_sem] max2_int min2_int max_two min_two max_three min_three max_four min_four   -- for this text's walks alone
set_option linter.unusedVariables false
set_option linter.unusedSimpArgs false

end Go.Proofs.Ythaaghkplbbgdaa.Feb
