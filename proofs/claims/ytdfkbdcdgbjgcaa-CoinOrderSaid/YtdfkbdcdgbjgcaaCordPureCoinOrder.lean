/- The pure statement of CoinOrder holds: of any numbers in the int64 range. -/
import Derived.Test.YtdfkbdcdgbjgcaaCordSaidCoinOrder
import Derived.Test.YtdfkbdcdgbjgcaaCordMathA
namespace Go.Proofs.Ytdfkbdcdgbjgcaa.Cord.Pure
open Go.Proofs.Ytdfkbdcdgbjgcaa.Cord

theorem CoinOrder : jobberlaw01_CoinOrder.Pure := fun _ _ _ hl ha hb => M.law (fun x hx => M.i64_of (hl.2 x hx)) hl.1 (M.i64_of ha) (M.i64_of hb)

end Go.Proofs.Ytdfkbdcdgbjgcaa.Cord.Pure
