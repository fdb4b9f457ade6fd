/- The pure statement of ShareTime holds: of any orders, quantity in the int64 range, and lot. -/
import Derived.Test.YthaaghkplbbgdaaShaSaidShareTime
import Derived.Test.YthaaghkplbbgdaaShaMathE
namespace Go.Proofs.Ythaaghkplbbgdaa.Sha.Pure
open Go.Proofs.Ythaaghkplbbgdaa.Sha

theorem ShareTime : jobberlaw16_ShareTime.Pure := fun _ _ _ _ hq _ => M.time (M.i64_of hq)

end Go.Proofs.Ythaaghkplbbgdaa.Sha.Pure
