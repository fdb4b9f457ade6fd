/- The pure statement of LadderSides. -/
import Derived.Test.YtlihfiajbhpokaaZLdsx10
import Derived.Test.YtlihfiajbhpokaaZLdsOpens
namespace Go.Proofs.Ytlihfiajbhpokaa.Lds
open Go.RowKit Go.Proofs.YtlihfiajbhpokaaW.PrintWords
def jobberlaw13_LadderSides.Pure : Prop := ∀ (x0 : List (S33)) (x1 : List (S75)) (x2 : Int), (x0.length ≤ maxLen ∧ ∀ y_ ∈ x0, WF33 y_) → (x1.length ≤ maxLen ∧ ∀ y_ ∈ x1, WF75 y_) → (Lit.int .i64 x2).wf = true → jobberlaw13_LadderSides.f x0 x1 x2 = some true
end Go.Proofs.Ytlihfiajbhpokaa.Lds
