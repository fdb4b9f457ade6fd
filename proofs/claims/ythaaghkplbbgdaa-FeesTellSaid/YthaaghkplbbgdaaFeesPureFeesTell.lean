/- The pure statement of FeesTell holds: of any schedule and volume the tier, the check and the top agree with the reference's. No condition. -/
import Derived.Test.YthaaghkplbbgdaaFeesSaidFeesTell
import Derived.Test.YthaaghkplbbgdaaFeesMathB
namespace Go.Proofs.Ythaaghkplbbgdaa.Fees.Pure
open Go.Proofs.Ythaaghkplbbgdaa.Fees

theorem FeesTell : jobberlaw08_FeesTell.Pure := fun l v _ _ => M.tells l v

end Go.Proofs.Ythaaghkplbbgdaa.Fees.Pure
