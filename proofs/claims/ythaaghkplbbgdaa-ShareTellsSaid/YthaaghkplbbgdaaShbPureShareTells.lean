/- The pure statement of ShareTells holds: who gets how much, and what all have, is the document's. No condition. -/
import Derived.Test.YthaaghkplbbgdaaShbSaidShareTells
import Derived.Test.YthaaghkplbbgdaaShbMathE
namespace Go.Proofs.Ythaaghkplbbgdaa.Shb.Pure
open Go.Proofs.Ythaaghkplbbgdaa.Shb

theorem ShareTells : jobberlaw16_ShareTells.Pure := fun _ _ _ _ _ _ hq _ => M.tells (M.i64_of hq)

end Go.Proofs.Ythaaghkplbbgdaa.Shb.Pure
