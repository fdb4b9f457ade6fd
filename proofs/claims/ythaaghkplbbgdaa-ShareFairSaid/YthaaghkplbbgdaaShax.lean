/- Printed by this session's wip/drive.py over the translation; some functions by hand. -/
import Derived.Test.YthaaghkplbbgdaaShax0
import Derived.Test.YthaaghkplbbgdaaShax1
import Derived.Test.YthaaghkplbbgdaaShax2
import Derived.Test.YthaaghkplbbgdaaShax3
import Derived.Test.YthaaghkplbbgdaaShax4
import Derived.Test.YthaaghkplbbgdaaShax5
namespace Go.Proofs.Ythaaghkplbbgdaa.Sha
open Go.RowKit Go.Proofs.YthaaghkplbbgdaaW.PrintWords Go.Proofs.YthaaghkplbbgdaaW.PrintLast Go.Proofs.YthaaghkplbbgdaaW.PrintMore
attribute [local go_sem] max2_int min2_int max_two min_two max_three min_three max_four min_four   -- for this text's walks alone
set_option linter.unusedVariables false
set_option linter.unusedSimpArgs false

end Go.Proofs.Ythaaghkplbbgdaa.Sha
