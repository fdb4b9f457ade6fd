/- The pure statement of ShareFair holds: of any orders, quantity in the int64 range, and lot. -/
import Derived.Test.YthaaghkplbbgdaaShaSaidShareFair
import Derived.Test.YthaaghkplbbgdaaShaMathE
namespace Go.Proofs.Ythaaghkplbbgdaa.Sha.Pure
open Go.Proofs.Ythaaghkplbbgdaa.Sha

theorem ShareFair : jobberlaw16_ShareFair.Pure := fun _ _ _ _ _ _ hq _ => M.fair (M.i64_of hq)

end Go.Proofs.Ythaaghkplbbgdaa.Sha.Pure
