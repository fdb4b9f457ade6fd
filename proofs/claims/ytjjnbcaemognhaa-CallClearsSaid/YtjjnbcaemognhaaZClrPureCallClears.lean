/- The plain law of CallClears: the deals of a call are its volume, nobody trades more than it has, and nobody is left who would trade; of any orders, last price, mode and lot. -/
import Derived.Test.YtjjnbcaemognhaaZClrSaidCallClears
import Derived.Test.YtjjnbcaemognhaaZClrMathW
namespace Go.Proofs.Ytjjnbcaemognhaa.Clr.Pure
open Go.RowKit Go.Proofs.Ytjjnbcaemognhaa.Clr Go.Proofs.Ytjjnbcaemognhaa.Clr.M Go.Proofs.YtjjnbcaemognhaaW.PrintWords Go.Proofs.YtjjnbcaemognhaaW.PrintLast
theorem CallClears : jobberlaw19_CallClears.Pure := by
  intro l last mode lot hl hla _ _
  have hla' : -9223372036854775808 ≤ last ∧ last ≤ 9223372036854775807 := by
    simp [Lit.wf, IntKind.min, IntKind.max, IntKind.signed, IntKind.bits] at hla
    omega
  exact ⟨100000, clears_f l last mode lot (ids_of hl.2) hla'⟩
end Go.Proofs.Ytjjnbcaemognhaa.Clr.Pure
