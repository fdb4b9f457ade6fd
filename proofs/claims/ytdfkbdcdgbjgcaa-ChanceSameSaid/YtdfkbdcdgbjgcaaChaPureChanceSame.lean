/- The plain side of ChanceSame: whatever comes in, the law's function (a test of bounds, which the types alone give) tells true. No condition. -/
import Derived.Test.YtdfkbdcdgbjgcaaChaSaidChanceSame
namespace Go.Proofs.Ytdfkbdcdgbjgcaa.Cha.Pure
open Go.RowKit Go.Proofs.Ytdfkbdcdgbjgcaa.Cha Go.Proofs.YtdfkbdcdgbjgcaaW.PrintWords Go.Proofs.YtdfkbdcdgbjgcaaW.PrintLast

theorem ChanceSame : jobberlaw05_ChanceSame.Pure := by
  intro x0 x1 h0 h1
  unfold jobberlaw05_ChanceSame.f
  refine if_pos ⟨fun x hx => ?_, fun x hx => ⟨?_, ?_⟩⟩
  · have := h0.2 x hx
    have e1 : IntKind.u8.min = 0 := by decide
    have e2 : IntKind.u8.max = 255 := by decide
    simp [Lit.wf, e1, e2] at this
    omega
  · have := (h1.2 x hx).2.1
    have e1 : IntKind.u64.min = 0 := by decide
    have e2 : IntKind.u64.max = 18446744073709551615 := by decide
    simp [Lit.wf, e1, e2] at this
    omega
  · have := (h1.2 x hx).2.2.1
    have e1 : IntKind.i64.min = -9223372036854775808 := by decide
    have e2 : IntKind.i64.max = 9223372036854775807 := by decide
    simp [Lit.wf, e1, e2] at this
    omega

end Go.Proofs.Ytdfkbdcdgbjgcaa.Cha.Pure
