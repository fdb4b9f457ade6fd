/- Printed by this session's wip/drive.py over the translation; some functions by hand. -/
import Derived.Test.YthaaghkplbbgdaaLiax0
import Derived.Test.YthaaghkplbbgdaaLiax1
import Derived.Test.YthaaghkplbbgdaaLiax2
import Derived.Test.YthaaghkplbbgdaaLiax3
import Derived.Test.YthaaghkplbbgdaaLiax4
import Derived.Test.YthaaghkplbbgdaaLiax5
import Derived.Test.YthaaghkplbbgdaaLiax6
import Derived.Test.YthaaghkplbbgdaaLiax7
namespace Go.Proofs.Ythaaghkplbbgdaa.Lia
open Go.RowKit Go.Proofs.YthaaghkplbbgdaaW.PrintWords Go.Proofs.YthaaghkplbbgdaaW.PrintLast Go.Proofs.YthaaghkplbbgdaaW.PrintMore
attribute [local go_sem] max2_int min2_int max_two min_two max_three min_three max_four min_four   -- for this text's walks alone
set_option linter.unusedVariables false
set_option linter.unusedSimpArgs false

end Go.Proofs.Ythaaghkplbbgdaa.Lia
