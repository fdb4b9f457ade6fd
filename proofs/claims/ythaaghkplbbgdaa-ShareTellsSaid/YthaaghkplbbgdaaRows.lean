/-
  No cell of these rows narrows 'for every input' (looked for: loops, veiled, ifaces, maps, wideKeys, modest, calm, conditions, laid).
  DERIVED. THE GIVEN ROWS OF THIS SEAT. 9 by the template 'for every input the law returns true; each argument reads behind the call as it read before'; 0 by the template 'total and deterministic' (their statements: YthaaghkplbbgdaaTotals.lean).
  GIVEN WITH THE SEED: the statements are not yours to turn. If you find one false, say at which input.
  Laid BY PROGRAM, IN A SANDBOX (cutbox-rows.mjs): the forced cells as the released guide's own fill.sh prints them over the translation f3007cc2fbbb5f8f… (all of the seat's roots in one cut). By AI agents, Wed Nov 11 2026. No macro, syntax, notation, axiom, sorry.
-/
import Derived.Test.YthaaghkplbbgdaaChecked
import GoSem.Claim
import GoSem.ClaimJoined
import GoSem.ClaimMapViews
import Derived.JoinedTies
import Derived.KernelRfl
namespace Go.Proofs.Ythaaghkplbbgdaa
/- THE CELL 'sum', in the pinned program and in every row, IS THE sha256 OF THE DUMP (.gsa) THAT YthaaghkplbbgdaaProg.lean LOADS. Nothing in Lean hashes anything: it is a label: what it is worth is what the hold of that sum in a sandbox is worth. -/
noncomputable def Try.pinned : Pinned := { name := "ythaaghkplbbgdaa", sum := "f3007cc2fbbb5f8ff500e9645d34e2e4523ad427075760926c0fcdc071b7c699", checked := Try.checked }
namespace Rows
def none {H : Type} : Left H := { results := [], args := [] }

/-- 'jobberlaw07.LimitsTell': WHATEVER THE INPUT: true; the input reads as it did. -/
def limitsTellSpec : ChangeSpec := { name := "limitsTell", fn := fun _ => fun
  | [d1, d2, d3, d4, d5] => { results := [.lit (.bool true)], args := [d1, d2, d3, d4, d5] }
  | _ => none }
def limitsTellRow : OpenClaim := { program := "ythaaghkplbbgdaa", sum := "f3007cc2fbbb5f8ff500e9645d34e2e4523ad427075760926c0fcdc071b7c699", func := "jobber/jobberlaw07.LimitsTell", spec := "limitsTell", unfollowed := true, recurses := true, named := ["math/bits.divideError", "math/bits.overflowError"], apart := false }
def LimitsTellSaid : Prop := limitsTellRow.holds Try.pinned (OpenSpec.ofChange limitsTellSpec)

/-- ITS FALSE NEIGHBOUR: 'it returns false'. Refute it at one input. -/
def limitsTellWrong : ChangeSpec := { name := "limitsTell", fn := fun _ => fun
  | [d1, d2, d3, d4, d5] => { results := [.lit (.bool false)], args := [d1, d2, d3, d4, d5] }
  | _ => none }
def LimitsTellWrongFalsely : Prop := limitsTellRow.holds Try.pinned (OpenSpec.ofChange limitsTellWrong)

/-- 'jobberlaw07.LimitsEdges': WHATEVER THE INPUT: true; the input reads as it did. -/
def limitsEdgesSpec : ChangeSpec := { name := "limitsEdges", fn := fun _ => fun
  | [d1, d2, d3] => { results := [.lit (.bool true)], args := [d1, d2, d3] }
  | _ => none }
def limitsEdgesRow : OpenClaim := { program := "ythaaghkplbbgdaa", sum := "f3007cc2fbbb5f8ff500e9645d34e2e4523ad427075760926c0fcdc071b7c699", func := "jobber/jobberlaw07.LimitsEdges", spec := "limitsEdges", unfollowed := true, recurses := true, named := ["math/bits.divideError", "math/bits.overflowError"], apart := false }
def LimitsEdgesSaid : Prop := limitsEdgesRow.holds Try.pinned (OpenSpec.ofChange limitsEdgesSpec)

/-- ITS FALSE NEIGHBOUR: 'it returns false'. Refute it at one input. -/
def limitsEdgesWrong : ChangeSpec := { name := "limitsEdges", fn := fun _ => fun
  | [d1, d2, d3] => { results := [.lit (.bool false)], args := [d1, d2, d3] }
  | _ => none }
def LimitsEdgesWrongFalsely : Prop := limitsEdgesRow.holds Try.pinned (OpenSpec.ofChange limitsEdgesWrong)

/-- 'jobberlaw07.LimitsTrim': WHATEVER THE INPUT: true; the input reads as it did. -/
def limitsTrimSpec : ChangeSpec := { name := "limitsTrim", fn := fun _ => fun
  | [d1, d2] => { results := [.lit (.bool true)], args := [d1, d2] }
  | _ => none }
def limitsTrimRow : OpenClaim := { program := "ythaaghkplbbgdaa", sum := "f3007cc2fbbb5f8ff500e9645d34e2e4523ad427075760926c0fcdc071b7c699", func := "jobber/jobberlaw07.LimitsTrim", spec := "limitsTrim", unfollowed := true, recurses := true, named := ["math/bits.divideError", "math/bits.overflowError"], apart := false }
def LimitsTrimSaid : Prop := limitsTrimRow.holds Try.pinned (OpenSpec.ofChange limitsTrimSpec)

/-- ITS FALSE NEIGHBOUR: 'it returns false'. Refute it at one input. -/
def limitsTrimWrong : ChangeSpec := { name := "limitsTrim", fn := fun _ => fun
  | [d1, d2] => { results := [.lit (.bool false)], args := [d1, d2] }
  | _ => none }
def LimitsTrimWrongFalsely : Prop := limitsTrimRow.holds Try.pinned (OpenSpec.ofChange limitsTrimWrong)

/-- 'jobberlaw16.ShareTells': WHATEVER THE INPUT: true; the input reads as it did. -/
def shareTellsSpec : ChangeSpec := { name := "shareTells", fn := fun _ => fun
  | [d1, d2, d3, d4] => { results := [.lit (.bool true)], args := [d1, d2, d3, d4] }
  | _ => none }
def shareTellsRow : OpenClaim := { program := "ythaaghkplbbgdaa", sum := "f3007cc2fbbb5f8ff500e9645d34e2e4523ad427075760926c0fcdc071b7c699", func := "jobber/jobberlaw16.ShareTells", spec := "shareTells", unfollowed := true, recurses := true, named := ["math/bits.divideError", "math/bits.overflowError"], apart := false }
def ShareTellsSaid : Prop := shareTellsRow.holds Try.pinned (OpenSpec.ofChange shareTellsSpec)

/-- ITS FALSE NEIGHBOUR: 'it returns false'. Refute it at one input. -/
def shareTellsWrong : ChangeSpec := { name := "shareTells", fn := fun _ => fun
  | [d1, d2, d3, d4] => { results := [.lit (.bool false)], args := [d1, d2, d3, d4] }
  | _ => none }
def ShareTellsWrongFalsely : Prop := shareTellsRow.holds Try.pinned (OpenSpec.ofChange shareTellsWrong)

/-- 'jobberlaw16.ShareFair': WHATEVER THE INPUT: true; the input reads as it did. -/
def shareFairSpec : ChangeSpec := { name := "shareFair", fn := fun _ => fun
  | [d1, d2, d3, d4] => { results := [.lit (.bool true)], args := [d1, d2, d3, d4] }
  | _ => none }
def shareFairRow : OpenClaim := { program := "ythaaghkplbbgdaa", sum := "f3007cc2fbbb5f8ff500e9645d34e2e4523ad427075760926c0fcdc071b7c699", func := "jobber/jobberlaw16.ShareFair", spec := "shareFair", unfollowed := true, recurses := true, named := ["math/bits.divideError", "math/bits.overflowError"], apart := false }
def ShareFairSaid : Prop := shareFairRow.holds Try.pinned (OpenSpec.ofChange shareFairSpec)

/-- ITS FALSE NEIGHBOUR: 'it returns false'. Refute it at one input. -/
def shareFairWrong : ChangeSpec := { name := "shareFair", fn := fun _ => fun
  | [d1, d2, d3, d4] => { results := [.lit (.bool false)], args := [d1, d2, d3, d4] }
  | _ => none }
def ShareFairWrongFalsely : Prop := shareFairRow.holds Try.pinned (OpenSpec.ofChange shareFairWrong)

/-- 'jobberlaw16.ShareTime': WHATEVER THE INPUT: true; the input reads as it did. -/
def shareTimeSpec : ChangeSpec := { name := "shareTime", fn := fun _ => fun
  | [d1, d2, d3] => { results := [.lit (.bool true)], args := [d1, d2, d3] }
  | _ => none }
def shareTimeRow : OpenClaim := { program := "ythaaghkplbbgdaa", sum := "f3007cc2fbbb5f8ff500e9645d34e2e4523ad427075760926c0fcdc071b7c699", func := "jobber/jobberlaw16.ShareTime", spec := "shareTime", unfollowed := true, recurses := true, named := ["math/bits.divideError", "math/bits.overflowError"], apart := false }
def ShareTimeSaid : Prop := shareTimeRow.holds Try.pinned (OpenSpec.ofChange shareTimeSpec)

/-- ITS FALSE NEIGHBOUR: 'it returns false'. Refute it at one input. -/
def shareTimeWrong : ChangeSpec := { name := "shareTime", fn := fun _ => fun
  | [d1, d2, d3] => { results := [.lit (.bool false)], args := [d1, d2, d3] }
  | _ => none }
def ShareTimeWrongFalsely : Prop := shareTimeRow.holds Try.pinned (OpenSpec.ofChange shareTimeWrong)

/-- 'jobberlaw08.FeesCost': WHATEVER THE INPUT: true; the input reads as it did. -/
def feesCostSpec : ChangeSpec := { name := "feesCost", fn := fun _ => fun
  | [d1, d2, d3, d4, d5] => { results := [.lit (.bool true)], args := [d1, d2, d3, d4, d5] }
  | _ => none }
def feesCostRow : OpenClaim := { program := "ythaaghkplbbgdaa", sum := "f3007cc2fbbb5f8ff500e9645d34e2e4523ad427075760926c0fcdc071b7c699", func := "jobber/jobberlaw08.FeesCost", spec := "feesCost", named := ["math/bits.divideError", "math/bits.overflowError"], apart := false }
def FeesCostSaid : Prop := feesCostRow.holds Try.pinned (OpenSpec.ofChange feesCostSpec)

/-- ITS FALSE NEIGHBOUR: 'it returns false'. Refute it at one input. -/
def feesCostWrong : ChangeSpec := { name := "feesCost", fn := fun _ => fun
  | [d1, d2, d3, d4, d5] => { results := [.lit (.bool false)], args := [d1, d2, d3, d4, d5] }
  | _ => none }
def FeesCostWrongFalsely : Prop := feesCostRow.holds Try.pinned (OpenSpec.ofChange feesCostWrong)

/-- 'jobberlaw08.FeesBounds': WHATEVER THE INPUT: true; the input reads as it did. -/
def feesBoundsSpec : ChangeSpec := { name := "feesBounds", fn := fun _ => fun
  | [d1, d2, d3, d4, d5, d6] => { results := [.lit (.bool true)], args := [d1, d2, d3, d4, d5, d6] }
  | _ => none }
def feesBoundsRow : OpenClaim := { program := "ythaaghkplbbgdaa", sum := "f3007cc2fbbb5f8ff500e9645d34e2e4523ad427075760926c0fcdc071b7c699", func := "jobber/jobberlaw08.FeesBounds", spec := "feesBounds", named := ["math/bits.divideError", "math/bits.overflowError"], apart := false }
def FeesBoundsSaid : Prop := feesBoundsRow.holds Try.pinned (OpenSpec.ofChange feesBoundsSpec)

/-- ITS FALSE NEIGHBOUR: 'it returns false'. Refute it at one input. -/
def feesBoundsWrong : ChangeSpec := { name := "feesBounds", fn := fun _ => fun
  | [d1, d2, d3, d4, d5, d6] => { results := [.lit (.bool false)], args := [d1, d2, d3, d4, d5, d6] }
  | _ => none }
def FeesBoundsWrongFalsely : Prop := feesBoundsRow.holds Try.pinned (OpenSpec.ofChange feesBoundsWrong)

/-- 'jobberlaw08.FeesTell': WHATEVER THE INPUT: true; the input reads as it did. -/
def feesTellSpec : ChangeSpec := { name := "feesTell", fn := fun _ => fun
  | [d1, d2] => { results := [.lit (.bool true)], args := [d1, d2] }
  | _ => none }
def feesTellRow : OpenClaim := { program := "ythaaghkplbbgdaa", sum := "f3007cc2fbbb5f8ff500e9645d34e2e4523ad427075760926c0fcdc071b7c699", func := "jobber/jobberlaw08.FeesTell", spec := "feesTell", named := ["math/bits.divideError", "math/bits.overflowError"], apart := false }
def FeesTellSaid : Prop := feesTellRow.holds Try.pinned (OpenSpec.ofChange feesTellSpec)

/-- ITS FALSE NEIGHBOUR: 'it returns false'. Refute it at one input. -/
def feesTellWrong : ChangeSpec := { name := "feesTell", fn := fun _ => fun
  | [d1, d2] => { results := [.lit (.bool false)], args := [d1, d2] }
  | _ => none }
def FeesTellWrongFalsely : Prop := feesTellRow.holds Try.pinned (OpenSpec.ofChange feesTellWrong)

/- THE SECOND FORM. 'bulk': how many values and letters a reading holds, each counted each time it is reached (what is shared counts as often as it is met; a slice's spare places count too). A statement '..UptoSaid' is the law's where the arguments, and the package variables that the reading takes, are together of bulk at most 1048576: NARROWER than '..Said'. Prove '..Said' where nothing that the law and all that it calls make is longer than what came in: it says more and counts as full. Else prove '..UptoSaid'. A law counts once. -/
mutual
def uptoBulk {H : Type} : DataW H → Nat
  | .lit (.string bytes) => bytes.length + 1
  | .lit _ => 1
  | .nil => 1
  | .ptr d => uptoBulk d + 1
  | .slice elems spare => uptoBulkAll elems + uptoBulkAll spare + 1
  | .agg parts => uptoBulkAll parts + 1
  | .iface _ d => uptoBulk d + 1
  | .map entries => uptoBulkEntries entries + 1
  | .held _ => 1
def uptoBulkAll {H : Type} : List (DataW H) → Nat
  | [] => 0
  | d :: r => uptoBulk d + uptoBulkAll r
def uptoBulkEntries {H : Type} : List (Lit × DataW H) → Nat
  | [] => 0
  | x :: r => uptoBulkEntry x + uptoBulkEntries r
def uptoBulkEntry {H : Type} : Lit × DataW H → Nat
  | (.string bytes, d) => bytes.length + uptoBulk d + 1
  | (_, d) => uptoBulk d + 1
 end
def uptoSmall : (H : Type) → List (DataW H) → Bool := fun _ ds => decide (uptoBulkAll ds ≤ 1048576)
def OpenSpec.upto (s : _root_.Go.ChangeSpec) : _root_.Go.OpenSpec := { _root_.Go.OpenSpec.ofChange s with cond := some uptoSmall }

/-- 'jobberlaw07.LimitsTell', WHERE WHAT IT READS IS OF BULK AT MOST 1048576: true; the input reads as it did. -/
def limitsTellUptoRow : OpenClaim := { program := "ythaaghkplbbgdaa", sum := "f3007cc2fbbb5f8ff500e9645d34e2e4523ad427075760926c0fcdc071b7c699", func := "jobber/jobberlaw07.LimitsTell", spec := "limitsTell", unfollowed := true, recurses := true, named := ["math/bits.divideError", "math/bits.overflowError"], apart := false, narrowed := true }
def LimitsTellUptoSaid : Prop := limitsTellUptoRow.holds Try.pinned (OpenSpec.upto limitsTellSpec)

/-- 'jobberlaw07.LimitsEdges', WHERE WHAT IT READS IS OF BULK AT MOST 1048576: true; the input reads as it did. -/
def limitsEdgesUptoRow : OpenClaim := { program := "ythaaghkplbbgdaa", sum := "f3007cc2fbbb5f8ff500e9645d34e2e4523ad427075760926c0fcdc071b7c699", func := "jobber/jobberlaw07.LimitsEdges", spec := "limitsEdges", unfollowed := true, recurses := true, named := ["math/bits.divideError", "math/bits.overflowError"], apart := false, narrowed := true }
def LimitsEdgesUptoSaid : Prop := limitsEdgesUptoRow.holds Try.pinned (OpenSpec.upto limitsEdgesSpec)

/-- 'jobberlaw07.LimitsTrim', WHERE WHAT IT READS IS OF BULK AT MOST 1048576: true; the input reads as it did. -/
def limitsTrimUptoRow : OpenClaim := { program := "ythaaghkplbbgdaa", sum := "f3007cc2fbbb5f8ff500e9645d34e2e4523ad427075760926c0fcdc071b7c699", func := "jobber/jobberlaw07.LimitsTrim", spec := "limitsTrim", unfollowed := true, recurses := true, named := ["math/bits.divideError", "math/bits.overflowError"], apart := false, narrowed := true }
def LimitsTrimUptoSaid : Prop := limitsTrimUptoRow.holds Try.pinned (OpenSpec.upto limitsTrimSpec)

/-- 'jobberlaw16.ShareTells', WHERE WHAT IT READS IS OF BULK AT MOST 1048576: true; the input reads as it did. -/
def shareTellsUptoRow : OpenClaim := { program := "ythaaghkplbbgdaa", sum := "f3007cc2fbbb5f8ff500e9645d34e2e4523ad427075760926c0fcdc071b7c699", func := "jobber/jobberlaw16.ShareTells", spec := "shareTells", unfollowed := true, recurses := true, named := ["math/bits.divideError", "math/bits.overflowError"], apart := false, narrowed := true }
def ShareTellsUptoSaid : Prop := shareTellsUptoRow.holds Try.pinned (OpenSpec.upto shareTellsSpec)

/-- 'jobberlaw16.ShareFair', WHERE WHAT IT READS IS OF BULK AT MOST 1048576: true; the input reads as it did. -/
def shareFairUptoRow : OpenClaim := { program := "ythaaghkplbbgdaa", sum := "f3007cc2fbbb5f8ff500e9645d34e2e4523ad427075760926c0fcdc071b7c699", func := "jobber/jobberlaw16.ShareFair", spec := "shareFair", unfollowed := true, recurses := true, named := ["math/bits.divideError", "math/bits.overflowError"], apart := false, narrowed := true }
def ShareFairUptoSaid : Prop := shareFairUptoRow.holds Try.pinned (OpenSpec.upto shareFairSpec)

/-- 'jobberlaw16.ShareTime', WHERE WHAT IT READS IS OF BULK AT MOST 1048576: true; the input reads as it did. -/
def shareTimeUptoRow : OpenClaim := { program := "ythaaghkplbbgdaa", sum := "f3007cc2fbbb5f8ff500e9645d34e2e4523ad427075760926c0fcdc071b7c699", func := "jobber/jobberlaw16.ShareTime", spec := "shareTime", unfollowed := true, recurses := true, named := ["math/bits.divideError", "math/bits.overflowError"], apart := false, narrowed := true }
def ShareTimeUptoSaid : Prop := shareTimeUptoRow.holds Try.pinned (OpenSpec.upto shareTimeSpec)

/-- 'jobberlaw08.FeesCost', WHERE WHAT IT READS IS OF BULK AT MOST 1048576: true; the input reads as it did. -/
def feesCostUptoRow : OpenClaim := { program := "ythaaghkplbbgdaa", sum := "f3007cc2fbbb5f8ff500e9645d34e2e4523ad427075760926c0fcdc071b7c699", func := "jobber/jobberlaw08.FeesCost", spec := "feesCost", named := ["math/bits.divideError", "math/bits.overflowError"], apart := false, narrowed := true }
def FeesCostUptoSaid : Prop := feesCostUptoRow.holds Try.pinned (OpenSpec.upto feesCostSpec)

/-- 'jobberlaw08.FeesBounds', WHERE WHAT IT READS IS OF BULK AT MOST 1048576: true; the input reads as it did. -/
def feesBoundsUptoRow : OpenClaim := { program := "ythaaghkplbbgdaa", sum := "f3007cc2fbbb5f8ff500e9645d34e2e4523ad427075760926c0fcdc071b7c699", func := "jobber/jobberlaw08.FeesBounds", spec := "feesBounds", named := ["math/bits.divideError", "math/bits.overflowError"], apart := false, narrowed := true }
def FeesBoundsUptoSaid : Prop := feesBoundsUptoRow.holds Try.pinned (OpenSpec.upto feesBoundsSpec)

/-- 'jobberlaw08.FeesTell', WHERE WHAT IT READS IS OF BULK AT MOST 1048576: true; the input reads as it did. -/
def feesTellUptoRow : OpenClaim := { program := "ythaaghkplbbgdaa", sum := "f3007cc2fbbb5f8ff500e9645d34e2e4523ad427075760926c0fcdc071b7c699", func := "jobber/jobberlaw08.FeesTell", spec := "feesTell", named := ["math/bits.divideError", "math/bits.overflowError"], apart := false, narrowed := true }
def FeesTellUptoSaid : Prop := feesTellUptoRow.holds Try.pinned (OpenSpec.upto feesTellSpec)

end Rows
end Go.Proofs.Ythaaghkplbbgdaa
