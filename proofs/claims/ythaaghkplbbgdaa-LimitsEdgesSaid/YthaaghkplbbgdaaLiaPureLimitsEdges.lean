/- The pure statement of LimitsEdges holds: the edges are the document's, and a price is within the band just if it is not beyond one of them. No condition. -/
import Derived.Test.YthaaghkplbbgdaaLiaSaidLimitsEdges
import Derived.Test.YthaaghkplbbgdaaLiaMathD
namespace Go.Proofs.Ythaaghkplbbgdaa.Lia.Pure
open Go.Proofs.Ythaaghkplbbgdaa.Lia

theorem LimitsEdges : jobberlaw07_LimitsEdges.Pure := fun _ _ _ _ _ _ => M.edgesLaw

end Go.Proofs.Ythaaghkplbbgdaa.Lia.Pure
