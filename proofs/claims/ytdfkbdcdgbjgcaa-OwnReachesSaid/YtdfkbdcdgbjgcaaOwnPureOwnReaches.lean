/- The pure statement of OwnReaches holds: of any policy, account, orders and lot in their kinds' ranges. -/
import Derived.Test.YtdfkbdcdgbjgcaaOwnSaidOwnReaches
import Derived.Test.YtdfkbdcdgbjgcaaOwnMathA
namespace Go.Proofs.Ytdfkbdcdgbjgcaa.Own.Pure
open Go.Proofs.Ytdfkbdcdgbjgcaa.Own

theorem OwnReaches : jobberlaw17_OwnReaches.Pure := fun _ _ _ _ _ _ hl _ => M.reaches (fun o ho => M.i64_of (hl.2 o ho).2.2.2.2.1)

end Go.Proofs.Ytdfkbdcdgbjgcaa.Own.Pure
