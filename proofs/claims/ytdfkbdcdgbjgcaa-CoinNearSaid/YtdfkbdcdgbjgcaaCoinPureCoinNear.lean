/- The pure statement of CoinNear holds: rounded down and up differ by at most 1, and the nearest one is one of both. No condition. -/
import Derived.Test.YtdfkbdcdgbjgcaaCoinSaidCoinNear
import Derived.Test.YtdfkbdcdgbjgcaaCoinMathB
namespace Go.Proofs.Ytdfkbdcdgbjgcaa.Coin.Pure
open Go.Proofs.Ytdfkbdcdgbjgcaa.Coin

theorem CoinNear : jobberlaw01_CoinNear.Pure := fun _ _ _ ha hb hc => M.near (M.i64_of ha) (M.i64_of hb) (M.i64_of hc)

end Go.Proofs.Ytdfkbdcdgbjgcaa.Coin.Pure
