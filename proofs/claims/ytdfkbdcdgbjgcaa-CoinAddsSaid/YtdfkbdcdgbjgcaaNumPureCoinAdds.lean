/- The pure statement of CoinAdds holds: the program's answers are the document's. No condition. -/
import Derived.Test.YtdfkbdcdgbjgcaaNumSaidCoinAdds
import Derived.Test.YtdfkbdcdgbjgcaaNumMathC
namespace Go.Proofs.Ytdfkbdcdgbjgcaa.Num.Pure
open Go.Proofs.Ytdfkbdcdgbjgcaa.Num

theorem CoinAdds : jobberlaw01_CoinAdds.Pure := fun _ _ ha hb => M.adds (M.i64_of ha) (M.i64_of hb)

end Go.Proofs.Ytdfkbdcdgbjgcaa.Num.Pure
