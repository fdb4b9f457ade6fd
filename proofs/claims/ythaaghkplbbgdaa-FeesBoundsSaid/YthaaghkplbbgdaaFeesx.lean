/- Printed by this session's wip/drive.py over the translation; some functions by hand. -/
import Derived.Test.YthaaghkplbbgdaaFeesx0
import Derived.Test.YthaaghkplbbgdaaFeesx1
import Derived.Test.YthaaghkplbbgdaaFeesx2
import Derived.Test.YthaaghkplbbgdaaFeesx3
import Derived.Test.YthaaghkplbbgdaaFeesx4
import Derived.Test.YthaaghkplbbgdaaFeesx5
import Derived.Test.YthaaghkplbbgdaaFeesx6
import Derived.Test.YthaaghkplbbgdaaFeesx7
import Derived.Test.YthaaghkplbbgdaaFeesx8
namespace Go.Proofs.Ythaaghkplbbgdaa.Fees
open Go.RowKit Go.Proofs.YthaaghkplbbgdaaW.PrintWords Go.Proofs.YthaaghkplbbgdaaW.PrintLast Go.Proofs.YthaaghkplbbgdaaW.PrintMore
attribute [local go_sem] max2_int min2_int max_two min_two max_three min_three max_four min_four   -- for this text's walks alone
set_option linter.unusedVariables false
set_option linter.unusedSimpArgs false

end Go.Proofs.Ythaaghkplbbgdaa.Fees
