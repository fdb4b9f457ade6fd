/- The pure statement of LimitsTrim holds: of any lot and quantity in the int64 range. -/
import Derived.Test.YthaaghkplbbgdaaLimSaidLimitsTrim
import Derived.Test.YthaaghkplbbgdaaLimMathA
namespace Go.Proofs.Ythaaghkplbbgdaa.Lim.Pure
open Go.Proofs.Ythaaghkplbbgdaa.Lim

theorem LimitsTrim : jobberlaw07_LimitsTrim.Pure := fun l v hn hm => M.law (M.i64_of hn) (M.i64_of hm)

end Go.Proofs.Ythaaghkplbbgdaa.Lim.Pure
