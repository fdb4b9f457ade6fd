/- Printed by this session's wip/drive.py over the translation; some functions by hand. -/
import Derived.Test.YthaaghkplbbgdaaShbx0
import Derived.Test.YthaaghkplbbgdaaShbx1
import Derived.Test.YthaaghkplbbgdaaShbx2
import Derived.Test.YthaaghkplbbgdaaShbx3
import Derived.Test.YthaaghkplbbgdaaShbx4
import Derived.Test.YthaaghkplbbgdaaShbx5
import Derived.Test.YthaaghkplbbgdaaShbx6
import Derived.Test.YthaaghkplbbgdaaShbx7
import Derived.Test.YthaaghkplbbgdaaShbx8
namespace Go.Proofs.Ythaaghkplbbgdaa.Shb
open Go.RowKit Go.Proofs.YthaaghkplbbgdaaW.PrintWords Go.Proofs.YthaaghkplbbgdaaW.PrintLast Go.Proofs.YthaaghkplbbgdaaW.PrintMore
attribute [local go_sem] max2_int min2_int max_two min_two max_three min_three max_four min_four   -- for this text's walks alone
set_option linter.unusedVariables false
set_option linter.unusedSimpArgs false

end Go.Proofs.Ythaaghkplbbgdaa.Shb
