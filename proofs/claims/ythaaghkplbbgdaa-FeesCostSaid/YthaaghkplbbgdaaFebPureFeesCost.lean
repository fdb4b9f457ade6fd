/- The pure statement of FeesCost holds: a fee is the document's, or refused as there. No condition. -/
import Derived.Test.YthaaghkplbbgdaaFebSaidFeesCost
import Derived.Test.YthaaghkplbbgdaaFebMathC
namespace Go.Proofs.Ythaaghkplbbgdaa.Feb.Pure
open Go.Proofs.Ythaaghkplbbgdaa.Feb

theorem FeesCost : jobberlaw08_FeesCost.Pure := fun l v n role round _ _ _ _ _ => M.costs l v n role round

end Go.Proofs.Ythaaghkplbbgdaa.Feb.Pure
