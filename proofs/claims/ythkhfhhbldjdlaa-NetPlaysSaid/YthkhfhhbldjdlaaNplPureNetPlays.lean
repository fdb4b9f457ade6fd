/- The plain side of NetPlays: the law's function tells true of any calls whose numbers are of their types' bounds. No condition. -/
import Derived.Test.YthkhfhhbldjdlaaNplSaidNetPlays
namespace Go.Proofs.Ythkhfhhbldjdlaa.Npl.Pure
open Go.RowKit Go.Proofs.Ythkhfhhbldjdlaa.Npl Go.Proofs.YthkhfhhbldjdlaaW.PrintWords Go.Proofs.YthkhfhhbldjdlaaW.PrintLast

theorem NetPlays : jobberlaw37_NetPlays.Pure := by
  intro l h
  unfold jobberlaw37_NetPlays.f
  rw [if_pos]
  refine List.all_eq_true.2 fun x hx => decide_eq_true ?_
  exact ⟨(h.2 x hx).2.1, (h.2 x hx).2.2.1, (h.2 x hx).2.2.2.1⟩

end Go.Proofs.Ythkhfhhbldjdlaa.Npl.Pure
