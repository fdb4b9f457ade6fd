/- The pure statement of LimitsTell holds: lots, whole lots and bands are the document's. No condition. -/
import Derived.Test.YthaaghkplbbgdaaLiaSaidLimitsTell
import Derived.Test.YthaaghkplbbgdaaLiaMathC
namespace Go.Proofs.Ythaaghkplbbgdaa.Lia.Pure
open Go.Proofs.Ythaaghkplbbgdaa.Lia

theorem LimitsTell : jobberlaw07_LimitsTell.Pure := fun _ _ _ _ _ _ hb _ _ _ => M.tells (M.i64_of hb)

end Go.Proofs.Ythaaghkplbbgdaa.Lia.Pure
