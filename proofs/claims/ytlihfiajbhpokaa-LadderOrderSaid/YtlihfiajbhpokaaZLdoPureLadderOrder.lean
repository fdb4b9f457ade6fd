/- The plain law of LadderOrder: the walk shows the law true; the second argument is a byte. -/
import Derived.Test.YtlihfiajbhpokaaZLdoSaidLadderOrder
namespace Go.Proofs.Ytlihfiajbhpokaa.Ldo.Pure
open Go.RowKit Go.Proofs.Ytlihfiajbhpokaa.Ldo Go.Proofs.YtlihfiajbhpokaaW.PrintWords Go.Proofs.YtlihfiajbhpokaaW.PrintLast
theorem u8r {x1 : Int} (hw : (Lit.int .u8 x1).wf = true) : 0 ≤ x1 ∧ x1 < 256 := by
  have e1 : IntKind.u8.min = 0 := by decide +kernel
  have e2 : IntKind.u8.max = 255 := by decide +kernel
  simp [Lit.wf, e1, e2] at hw
  omega
theorem LadderOrder : jobberlaw13_LadderOrder.Pure := by
  intro x0 x1 _ hw
  rw [jobberlaw13_LadderOrder.f, if_pos (u8r hw)]
end Go.Proofs.Ytlihfiajbhpokaa.Ldo.Pure
