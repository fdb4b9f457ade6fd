/- The pure statement of CoinDivides holds: the program's answers are the document's. No condition. -/
import Derived.Test.YtdfkbdcdgbjgcaaNumSaidCoinDivides
import Derived.Test.YtdfkbdcdgbjgcaaNumMathB
namespace Go.Proofs.Ytdfkbdcdgbjgcaa.Num.Pure
open Go.Proofs.Ytdfkbdcdgbjgcaa.Num

theorem CoinDivides : jobberlaw01_CoinDivides.Pure := fun _ _ _ _ ha hb hc _ => M.divides (M.i64_of ha) (M.i64_of hb) (M.i64_of hc)

end Go.Proofs.Ytdfkbdcdgbjgcaa.Num.Pure
