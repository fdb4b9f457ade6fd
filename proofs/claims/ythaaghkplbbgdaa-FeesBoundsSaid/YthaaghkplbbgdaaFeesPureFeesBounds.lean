/- The pure statement of FeesBounds holds: of any schedule, volume and two notionals in the int64 range the fee lies within its bounds. -/
import Derived.Test.YthaaghkplbbgdaaFeesSaidFeesBounds
import Derived.Test.YthaaghkplbbgdaaFeesMathC
namespace Go.Proofs.Ythaaghkplbbgdaa.Fees.Pure
open Go.Proofs.Ythaaghkplbbgdaa.Fees

theorem FeesBounds : jobberlaw08_FeesBounds.Pure := fun l v n more role round _ _ hn hm _ _ => M.bounds (M.i64_of hn) (M.i64_of hm)

end Go.Proofs.Ythaaghkplbbgdaa.Fees.Pure
