/- The plain side of ChainPlays: whatever comes in, the law's function (a test of the numbers' bounds, which the types alone give) tells true. No condition. -/
import Derived.Test.YthkhfhhbldjdlaaChpSaidChainPlays
namespace Go.Proofs.Ythkhfhhbldjdlaa.Chp.Pure
open Go.RowKit Go.Proofs.Ythkhfhhbldjdlaa.Chp Go.Proofs.YthkhfhhbldjdlaaW.PrintWords Go.Proofs.YthkhfhhbldjdlaaW.PrintLast

theorem wf_u64 {x : Int} (h : (Lit.int .u64 x).wf = true) : 0 ≤ x ∧ x < 18446744073709551616 := by
  have e1 : IntKind.u64.min = 0 := by decide
  have e2 : IntKind.u64.max = 18446744073709551615 := by decide
  simp [Lit.wf, e1, e2] at h
  omega

theorem ChainPlays : jobberlaw38_ChainPlays.Pure := by
  intro x0 x1 h0 h1
  unfold jobberlaw38_ChainPlays.f
  exact if_pos ⟨wf_u64 h0.1, List.all_eq_true.2 (fun x hx => decide_eq_true (wf_u64 (h1.2 x hx).2.2.2.1.1))⟩

end Go.Proofs.Ythkhfhhbldjdlaa.Chp.Pure
