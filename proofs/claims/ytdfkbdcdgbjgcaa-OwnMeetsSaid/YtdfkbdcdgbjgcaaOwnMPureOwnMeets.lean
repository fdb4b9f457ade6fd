/- The pure statement of OwnMeets holds: of any policy, account and orders. -/
import Derived.Test.YtdfkbdcdgbjgcaaOwnMSaidOwnMeets
import Derived.Test.YtdfkbdcdgbjgcaaOwnMMathA
namespace Go.Proofs.Ytdfkbdcdgbjgcaa.OwnM.Pure
open Go.Proofs.Ytdfkbdcdgbjgcaa.OwnM

theorem OwnMeets : jobberlaw17_OwnMeets.Pure := fun _ _ _ _ _ _ => M.meets

end Go.Proofs.Ytdfkbdcdgbjgcaa.OwnM.Pure
