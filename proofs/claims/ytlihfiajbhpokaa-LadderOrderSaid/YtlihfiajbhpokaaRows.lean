/-
  No cell of these rows narrows 'for every input' (looked for: loops, veiled, ifaces, maps, wideKeys, modest, calm, conditions, laid).
  DERIVED. THE GIVEN ROWS OF THIS SEAT. 7 by the template 'for every input the law returns true; each argument reads behind the call as it read before'; 0 by the template 'total and deterministic' (their statements: YtlihfiajbhpokaaTotals.lean).
  GIVEN WITH THE SEED: the statements are not yours to turn. If you find one false, say at which input.
  Laid BY PROGRAM, IN A SANDBOX (cutbox-rows.mjs): the forced cells as the released guide's own fill.sh prints them over the translation 622af0e82f85ca73… (all of the seat's roots in one cut). By AI agents, Wed Nov 11 2026. No macro, syntax, notation, axiom, sorry.
-/
import Derived.Test.YtlihfiajbhpokaaChecked
import GoSem.Claim
import GoSem.ClaimJoined
import GoSem.ClaimMapViews
import Derived.JoinedTies
import Derived.KernelRfl
namespace Go.Proofs.Ytlihfiajbhpokaa
/- THE CELL 'sum', in the pinned program and in every row, IS THE sha256 OF THE DUMP (.gsa) THAT YtlihfiajbhpokaaProg.lean LOADS. Nothing in Lean hashes anything: it is a label: what it is worth is what the hold of that sum in a sandbox is worth. -/
noncomputable def Try.pinned : Pinned := { name := "ytlihfiajbhpokaa", sum := "622af0e82f85ca7309f935fdcdf93fa755574506f4acbab26e8d0843afe2dd01", checked := Try.checked }
namespace Rows
def none {H : Type} : Left H := { results := [], args := [] }

/-- 'jobberlaw12.OrderSorts': WHATEVER THE INPUT: true; the input reads as it did. -/
def orderSortsSpec : ChangeSpec := { name := "orderSorts", fn := fun _ => fun
  | [d] => { results := [.lit (.bool true)], args := [d] }
  | _ => none }
def orderSortsRow : OpenClaim := { program := "ytlihfiajbhpokaa", sum := "622af0e82f85ca7309f935fdcdf93fa755574506f4acbab26e8d0843afe2dd01", func := "jobber/jobberlaw12.OrderSorts", spec := "orderSorts", unfollowed := true, recurses := true, apart := false }
def OrderSortsSaid : Prop := orderSortsRow.holds Try.pinned (OpenSpec.ofChange orderSortsSpec)

/-- ITS FALSE NEIGHBOUR: 'it returns false'. Refute it at one input. -/
def orderSortsWrong : ChangeSpec := { name := "orderSorts", fn := fun _ => fun
  | [d] => { results := [.lit (.bool false)], args := [d] }
  | _ => none }
def OrderSortsWrongFalsely : Prop := orderSortsRow.holds Try.pinned (OpenSpec.ofChange orderSortsWrong)

/-- 'jobberlaw12.OrderRank': WHATEVER THE INPUT: true; the input reads as it did. -/
def orderRankSpec : ChangeSpec := { name := "orderRank", fn := fun _ => fun
  | [d1, d2, d3, d4] => { results := [.lit (.bool true)], args := [d1, d2, d3, d4] }
  | _ => none }
def orderRankRow : OpenClaim := { program := "ytlihfiajbhpokaa", sum := "622af0e82f85ca7309f935fdcdf93fa755574506f4acbab26e8d0843afe2dd01", func := "jobber/jobberlaw12.OrderRank", spec := "orderRank", unfollowed := true, recurses := true, apart := false }
def OrderRankSaid : Prop := orderRankRow.holds Try.pinned (OpenSpec.ofChange orderRankSpec)

/-- ITS FALSE NEIGHBOUR: 'it returns false'. Refute it at one input. -/
def orderRankWrong : ChangeSpec := { name := "orderRank", fn := fun _ => fun
  | [d1, d2, d3, d4] => { results := [.lit (.bool false)], args := [d1, d2, d3, d4] }
  | _ => none }
def OrderRankWrongFalsely : Prop := orderRankRow.holds Try.pinned (OpenSpec.ofChange orderRankWrong)

/-- 'jobberlaw12.OrderTells': WHATEVER THE INPUT: true; the input reads as it did. -/
def orderTellsSpec : ChangeSpec := { name := "orderTells", fn := fun _ => fun
  | [d1, d2] => { results := [.lit (.bool true)], args := [d1, d2] }
  | _ => none }
def orderTellsRow : OpenClaim := { program := "ytlihfiajbhpokaa", sum := "622af0e82f85ca7309f935fdcdf93fa755574506f4acbab26e8d0843afe2dd01", func := "jobber/jobberlaw12.OrderTells", spec := "orderTells", unfollowed := true, recurses := true, apart := false }
def OrderTellsSaid : Prop := orderTellsRow.holds Try.pinned (OpenSpec.ofChange orderTellsSpec)

/-- ITS FALSE NEIGHBOUR: 'it returns false'. Refute it at one input. -/
def orderTellsWrong : ChangeSpec := { name := "orderTells", fn := fun _ => fun
  | [d1, d2] => { results := [.lit (.bool false)], args := [d1, d2] }
  | _ => none }
def OrderTellsWrongFalsely : Prop := orderTellsRow.holds Try.pinned (OpenSpec.ofChange orderTellsWrong)

/-- 'jobberlaw12.OrderReads': WHATEVER THE INPUT: true; the input reads as it did. -/
def orderReadsSpec : ChangeSpec := { name := "orderReads", fn := fun _ => fun
  | [d] => { results := [.lit (.bool true)], args := [d] }
  | _ => none }
def orderReadsRow : OpenClaim := { program := "ytlihfiajbhpokaa", sum := "622af0e82f85ca7309f935fdcdf93fa755574506f4acbab26e8d0843afe2dd01", func := "jobber/jobberlaw12.OrderReads", spec := "orderReads", unfollowed := true, recurses := true, apart := false }
def OrderReadsSaid : Prop := orderReadsRow.holds Try.pinned (OpenSpec.ofChange orderReadsSpec)

/-- ITS FALSE NEIGHBOUR: 'it returns false'. Refute it at one input. -/
def orderReadsWrong : ChangeSpec := { name := "orderReads", fn := fun _ => fun
  | [d] => { results := [.lit (.bool false)], args := [d] }
  | _ => none }
def OrderReadsWrongFalsely : Prop := orderReadsRow.holds Try.pinned (OpenSpec.ofChange orderReadsWrong)

/-- 'jobberlaw12.OrderBytes': WHATEVER THE INPUT: true; the input reads as it did. -/
def orderBytesSpec : ChangeSpec := { name := "orderBytes", fn := fun _ => fun
  | [d1, d2] => { results := [.lit (.bool true)], args := [d1, d2] }
  | _ => none }
def orderBytesRow : OpenClaim := { program := "ytlihfiajbhpokaa", sum := "622af0e82f85ca7309f935fdcdf93fa755574506f4acbab26e8d0843afe2dd01", func := "jobber/jobberlaw12.OrderBytes", spec := "orderBytes", unfollowed := true, recurses := true, apart := false }
def OrderBytesSaid : Prop := orderBytesRow.holds Try.pinned (OpenSpec.ofChange orderBytesSpec)

/-- ITS FALSE NEIGHBOUR: 'it returns false'. Refute it at one input. -/
def orderBytesWrong : ChangeSpec := { name := "orderBytes", fn := fun _ => fun
  | [d1, d2] => { results := [.lit (.bool false)], args := [d1, d2] }
  | _ => none }
def OrderBytesWrongFalsely : Prop := orderBytesRow.holds Try.pinned (OpenSpec.ofChange orderBytesWrong)

/-- 'jobberlaw13.LadderOrder': WHATEVER THE INPUT: true; the input reads as it did. -/
def ladderOrderSpec : ChangeSpec := { name := "ladderOrder", fn := fun _ => fun
  | [d1, d2] => { results := [.lit (.bool true)], args := [d1, d2] }
  | _ => none }
def ladderOrderRow : OpenClaim := { program := "ytlihfiajbhpokaa", sum := "622af0e82f85ca7309f935fdcdf93fa755574506f4acbab26e8d0843afe2dd01", func := "jobber/jobberlaw13.LadderOrder", spec := "ladderOrder", inPlace := ["slices.overlaps[jobber/ladder.row]", "slices.overlaps[jobber/api.Order]"], unfollowed := true, recurses := true, apart := false }
def LadderOrderSaid : Prop := ladderOrderRow.holds Try.pinned (OpenSpec.ofChange ladderOrderSpec)

/-- ITS FALSE NEIGHBOUR: 'it returns false'. Refute it at one input. -/
def ladderOrderWrong : ChangeSpec := { name := "ladderOrder", fn := fun _ => fun
  | [d1, d2] => { results := [.lit (.bool false)], args := [d1, d2] }
  | _ => none }
def LadderOrderWrongFalsely : Prop := ladderOrderRow.holds Try.pinned (OpenSpec.ofChange ladderOrderWrong)

/-- 'jobberlaw13.LadderSides': WHATEVER THE INPUT: true; the input reads as it did. -/
def ladderSidesSpec : ChangeSpec := { name := "ladderSides", fn := fun _ => fun
  | [d1, d2, d3] => { results := [.lit (.bool true)], args := [d1, d2, d3] }
  | _ => none }
def ladderSidesRow : OpenClaim := { program := "ytlihfiajbhpokaa", sum := "622af0e82f85ca7309f935fdcdf93fa755574506f4acbab26e8d0843afe2dd01", func := "jobber/jobberlaw13.LadderSides", spec := "ladderSides", inPlace := ["slices.overlaps[jobber/ladder.row]", "slices.overlaps[jobber/api.Order]"], unfollowed := true, recurses := true, apart := false }
def LadderSidesSaid : Prop := ladderSidesRow.holds Try.pinned (OpenSpec.ofChange ladderSidesSpec)

/-- ITS FALSE NEIGHBOUR: 'it returns false'. Refute it at one input. -/
def ladderSidesWrong : ChangeSpec := { name := "ladderSides", fn := fun _ => fun
  | [d1, d2, d3] => { results := [.lit (.bool false)], args := [d1, d2, d3] }
  | _ => none }
def LadderSidesWrongFalsely : Prop := ladderSidesRow.holds Try.pinned (OpenSpec.ofChange ladderSidesWrong)

/- THE SECOND FORM. 'bulk': how many values and letters a reading holds, each counted each time it is reached (what is shared counts as often as it is met; a slice's spare places count too). A statement '..UptoSaid' is the law's where the arguments, and the package variables that the reading takes, are together of bulk at most 1048576: NARROWER than '..Said'. Prove '..Said' where nothing that the law and all that it calls make is longer than what came in: it says more and counts as full. Else prove '..UptoSaid'. A law counts once. -/
mutual
def uptoBulk {H : Type} : DataW H → Nat
  | .lit (.string bytes) => bytes.length + 1
  | .lit _ => 1
  | .nil => 1
  | .ptr d => uptoBulk d + 1
  | .slice elems spare => uptoBulkAll elems + uptoBulkAll spare + 1
  | .agg parts => uptoBulkAll parts + 1
  | .iface _ d => uptoBulk d + 1
  | .map entries => uptoBulkEntries entries + 1
  | .held _ => 1
def uptoBulkAll {H : Type} : List (DataW H) → Nat
  | [] => 0
  | d :: r => uptoBulk d + uptoBulkAll r
def uptoBulkEntries {H : Type} : List (Lit × DataW H) → Nat
  | [] => 0
  | x :: r => uptoBulkEntry x + uptoBulkEntries r
def uptoBulkEntry {H : Type} : Lit × DataW H → Nat
  | (.string bytes, d) => bytes.length + uptoBulk d + 1
  | (_, d) => uptoBulk d + 1
 end
def uptoSmall : (H : Type) → List (DataW H) → Bool := fun _ ds => decide (uptoBulkAll ds ≤ 1048576)
def OpenSpec.upto (s : _root_.Go.ChangeSpec) : _root_.Go.OpenSpec := { _root_.Go.OpenSpec.ofChange s with cond := some uptoSmall }

/-- 'jobberlaw12.OrderSorts', WHERE WHAT IT READS IS OF BULK AT MOST 1048576: true; the input reads as it did. -/
def orderSortsUptoRow : OpenClaim := { program := "ytlihfiajbhpokaa", sum := "622af0e82f85ca7309f935fdcdf93fa755574506f4acbab26e8d0843afe2dd01", func := "jobber/jobberlaw12.OrderSorts", spec := "orderSorts", unfollowed := true, recurses := true, apart := false, narrowed := true }
def OrderSortsUptoSaid : Prop := orderSortsUptoRow.holds Try.pinned (OpenSpec.upto orderSortsSpec)

/-- 'jobberlaw12.OrderRank', WHERE WHAT IT READS IS OF BULK AT MOST 1048576: true; the input reads as it did. -/
def orderRankUptoRow : OpenClaim := { program := "ytlihfiajbhpokaa", sum := "622af0e82f85ca7309f935fdcdf93fa755574506f4acbab26e8d0843afe2dd01", func := "jobber/jobberlaw12.OrderRank", spec := "orderRank", unfollowed := true, recurses := true, apart := false, narrowed := true }
def OrderRankUptoSaid : Prop := orderRankUptoRow.holds Try.pinned (OpenSpec.upto orderRankSpec)

/-- 'jobberlaw12.OrderTells', WHERE WHAT IT READS IS OF BULK AT MOST 1048576: true; the input reads as it did. -/
def orderTellsUptoRow : OpenClaim := { program := "ytlihfiajbhpokaa", sum := "622af0e82f85ca7309f935fdcdf93fa755574506f4acbab26e8d0843afe2dd01", func := "jobber/jobberlaw12.OrderTells", spec := "orderTells", unfollowed := true, recurses := true, apart := false, narrowed := true }
def OrderTellsUptoSaid : Prop := orderTellsUptoRow.holds Try.pinned (OpenSpec.upto orderTellsSpec)

/-- 'jobberlaw12.OrderReads', WHERE WHAT IT READS IS OF BULK AT MOST 1048576: true; the input reads as it did. -/
def orderReadsUptoRow : OpenClaim := { program := "ytlihfiajbhpokaa", sum := "622af0e82f85ca7309f935fdcdf93fa755574506f4acbab26e8d0843afe2dd01", func := "jobber/jobberlaw12.OrderReads", spec := "orderReads", unfollowed := true, recurses := true, apart := false, narrowed := true }
def OrderReadsUptoSaid : Prop := orderReadsUptoRow.holds Try.pinned (OpenSpec.upto orderReadsSpec)

/-- 'jobberlaw12.OrderBytes', WHERE WHAT IT READS IS OF BULK AT MOST 1048576: true; the input reads as it did. -/
def orderBytesUptoRow : OpenClaim := { program := "ytlihfiajbhpokaa", sum := "622af0e82f85ca7309f935fdcdf93fa755574506f4acbab26e8d0843afe2dd01", func := "jobber/jobberlaw12.OrderBytes", spec := "orderBytes", unfollowed := true, recurses := true, apart := false, narrowed := true }
def OrderBytesUptoSaid : Prop := orderBytesUptoRow.holds Try.pinned (OpenSpec.upto orderBytesSpec)

/-- 'jobberlaw13.LadderOrder', WHERE WHAT IT READS IS OF BULK AT MOST 1048576: true; the input reads as it did. -/
def ladderOrderUptoRow : OpenClaim := { program := "ytlihfiajbhpokaa", sum := "622af0e82f85ca7309f935fdcdf93fa755574506f4acbab26e8d0843afe2dd01", func := "jobber/jobberlaw13.LadderOrder", spec := "ladderOrder", inPlace := ["slices.overlaps[jobber/ladder.row]", "slices.overlaps[jobber/api.Order]"], unfollowed := true, recurses := true, apart := false, narrowed := true }
def LadderOrderUptoSaid : Prop := ladderOrderUptoRow.holds Try.pinned (OpenSpec.upto ladderOrderSpec)

/-- 'jobberlaw13.LadderSides', WHERE WHAT IT READS IS OF BULK AT MOST 1048576: true; the input reads as it did. -/
def ladderSidesUptoRow : OpenClaim := { program := "ytlihfiajbhpokaa", sum := "622af0e82f85ca7309f935fdcdf93fa755574506f4acbab26e8d0843afe2dd01", func := "jobber/jobberlaw13.LadderSides", spec := "ladderSides", inPlace := ["slices.overlaps[jobber/ladder.row]", "slices.overlaps[jobber/api.Order]"], unfollowed := true, recurses := true, apart := false, narrowed := true }
def LadderSidesUptoSaid : Prop := ladderSidesUptoRow.holds Try.pinned (OpenSpec.upto ladderSidesSpec)

end Rows
end Go.Proofs.Ytlihfiajbhpokaa
