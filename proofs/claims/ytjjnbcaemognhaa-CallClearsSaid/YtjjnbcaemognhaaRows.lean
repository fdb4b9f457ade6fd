/-
  No cell of these rows narrows 'for every input' (looked for: loops, veiled, ifaces, maps, wideKeys, modest, calm, conditions, laid).
  DERIVED. THE GIVEN ROWS OF THIS SEAT. 4 by the template 'for every input the law returns true; each argument reads behind the call as it read before'; 0 by the template 'total and deterministic' (their statements: YtjjnbcaemognhaaTotals.lean).
  GIVEN WITH THE SEED: the statements are not yours to turn. If you find one false, say at which input.
  Laid BY PROGRAM, IN A SANDBOX (cutbox-rows.mjs): the forced cells as the released guide's own fill.sh prints them over the translation 3e52fa348feef983… (all of the seat's roots in one cut). By AI agents, Wed Nov 11 2026. No macro, syntax, notation, axiom, sorry.
-/
import Derived.Test.YtjjnbcaemognhaaChecked
import GoSem.Claim
import GoSem.ClaimJoined
import GoSem.ClaimMapViews
import Derived.JoinedTies
import Derived.KernelRfl
namespace Go.Proofs.Ytjjnbcaemognhaa
/- THE CELL 'sum', in the pinned program and in every row, IS THE sha256 OF THE DUMP (.gsa) THAT YtjjnbcaemognhaaProg.lean LOADS. Nothing in Lean hashes anything: it is a label: what it is worth is what the hold of that sum in a sandbox is worth. -/
noncomputable def Try.pinned : Pinned := { name := "ytjjnbcaemognhaa", sum := "3e52fa348feef9837e410f69dc6ed03f078487fd3a2afa58f008f0a80039cc6d", checked := Try.checked }
namespace Rows
def none {H : Type} : Left H := { results := [], args := [] }

/-- 'jobberlaw19.CallPrices': WHATEVER THE INPUT: true; the input reads as it did. -/
def callPricesSpec : ChangeSpec := { name := "callPrices", fn := fun _ => fun
  | [d1, d2] => { results := [.lit (.bool true)], args := [d1, d2] }
  | _ => none }
def callPricesRow : OpenClaim := { program := "ytjjnbcaemognhaa", sum := "3e52fa348feef9837e410f69dc6ed03f078487fd3a2afa58f008f0a80039cc6d", func := "jobber/jobberlaw19.CallPrices", spec := "callPrices", unfollowed := true, recurses := true, named := ["math/bits.divideError", "math/bits.overflowError"], apart := false }
def CallPricesSaid : Prop := callPricesRow.holds Try.pinned (OpenSpec.ofChange callPricesSpec)

/-- ITS FALSE NEIGHBOUR: 'it returns false'. Refute it at one input. -/
def callPricesWrong : ChangeSpec := { name := "callPrices", fn := fun _ => fun
  | [d1, d2] => { results := [.lit (.bool false)], args := [d1, d2] }
  | _ => none }
def CallPricesWrongFalsely : Prop := callPricesRow.holds Try.pinned (OpenSpec.ofChange callPricesWrong)

/-- 'jobberlaw19.CallSides': WHATEVER THE INPUT: true; the input reads as it did. -/
def callSidesSpec : ChangeSpec := { name := "callSides", fn := fun _ => fun
  | [d1, d2, d3, d4, d5, d6] => { results := [.lit (.bool true)], args := [d1, d2, d3, d4, d5, d6] }
  | _ => none }
def callSidesRow : OpenClaim := { program := "ytjjnbcaemognhaa", sum := "3e52fa348feef9837e410f69dc6ed03f078487fd3a2afa58f008f0a80039cc6d", func := "jobber/jobberlaw19.CallSides", spec := "callSides", unfollowed := true, recurses := true, named := ["math/bits.divideError", "math/bits.overflowError"], apart := false }
def CallSidesSaid : Prop := callSidesRow.holds Try.pinned (OpenSpec.ofChange callSidesSpec)

/-- ITS FALSE NEIGHBOUR: 'it returns false'. Refute it at one input. -/
def callSidesWrong : ChangeSpec := { name := "callSides", fn := fun _ => fun
  | [d1, d2, d3, d4, d5, d6] => { results := [.lit (.bool false)], args := [d1, d2, d3, d4, d5, d6] }
  | _ => none }
def CallSidesWrongFalsely : Prop := callSidesRow.holds Try.pinned (OpenSpec.ofChange callSidesWrong)

/-- 'jobberlaw19.CallDeals': WHATEVER THE INPUT: true; the input reads as it did. -/
def callDealsSpec : ChangeSpec := { name := "callDeals", fn := fun _ => fun
  | [d1, d2, d3, d4, d5] => { results := [.lit (.bool true)], args := [d1, d2, d3, d4, d5] }
  | _ => none }
def callDealsRow : OpenClaim := { program := "ytjjnbcaemognhaa", sum := "3e52fa348feef9837e410f69dc6ed03f078487fd3a2afa58f008f0a80039cc6d", func := "jobber/jobberlaw19.CallDeals", spec := "callDeals", unfollowed := true, recurses := true, named := ["math/bits.divideError", "math/bits.overflowError"], apart := false }
def CallDealsSaid : Prop := callDealsRow.holds Try.pinned (OpenSpec.ofChange callDealsSpec)

/-- ITS FALSE NEIGHBOUR: 'it returns false'. Refute it at one input. -/
def callDealsWrong : ChangeSpec := { name := "callDeals", fn := fun _ => fun
  | [d1, d2, d3, d4, d5] => { results := [.lit (.bool false)], args := [d1, d2, d3, d4, d5] }
  | _ => none }
def CallDealsWrongFalsely : Prop := callDealsRow.holds Try.pinned (OpenSpec.ofChange callDealsWrong)

/-- 'jobberlaw19.CallClears': WHATEVER THE INPUT: true; the input reads as it did. -/
def callClearsSpec : ChangeSpec := { name := "callClears", fn := fun _ => fun
  | [d1, d2, d3, d4] => { results := [.lit (.bool true)], args := [d1, d2, d3, d4] }
  | _ => none }
def callClearsRow : OpenClaim := { program := "ytjjnbcaemognhaa", sum := "3e52fa348feef9837e410f69dc6ed03f078487fd3a2afa58f008f0a80039cc6d", func := "jobber/jobberlaw19.CallClears", spec := "callClears", unfollowed := true, recurses := true, named := ["math/bits.divideError", "math/bits.overflowError"], apart := false }
def CallClearsSaid : Prop := callClearsRow.holds Try.pinned (OpenSpec.ofChange callClearsSpec)

/-- ITS FALSE NEIGHBOUR: 'it returns false'. Refute it at one input. -/
def callClearsWrong : ChangeSpec := { name := "callClears", fn := fun _ => fun
  | [d1, d2, d3, d4] => { results := [.lit (.bool false)], args := [d1, d2, d3, d4] }
  | _ => none }
def CallClearsWrongFalsely : Prop := callClearsRow.holds Try.pinned (OpenSpec.ofChange callClearsWrong)

/- THE SECOND FORM. 'bulk': how many values and letters a reading holds, each counted each time it is reached (what is shared counts as often as it is met; a slice's spare places count too). A statement '..UptoSaid' is the law's where the arguments, and the package variables that the reading takes, are together of bulk at most 1048576: NARROWER than '..Said'. Prove '..Said' where nothing that the law and all that it calls make is longer than what came in: it says more and counts as full. Else prove '..UptoSaid'. A law counts once. -/
mutual
def uptoBulk {H : Type} : DataW H → Nat
  | .lit (.string bytes) => bytes.length + 1
  | .lit _ => 1
  | .nil => 1
  | .ptr d => uptoBulk d + 1
  | .slice elems spare => uptoBulkAll elems + uptoBulkAll spare + 1
  | .agg parts => uptoBulkAll parts + 1
  | .iface _ d => uptoBulk d + 1
  | .map entries => uptoBulkEntries entries + 1
  | .held _ => 1
def uptoBulkAll {H : Type} : List (DataW H) → Nat
  | [] => 0
  | d :: r => uptoBulk d + uptoBulkAll r
def uptoBulkEntries {H : Type} : List (Lit × DataW H) → Nat
  | [] => 0
  | x :: r => uptoBulkEntry x + uptoBulkEntries r
def uptoBulkEntry {H : Type} : Lit × DataW H → Nat
  | (.string bytes, d) => bytes.length + uptoBulk d + 1
  | (_, d) => uptoBulk d + 1
 end
def uptoSmall : (H : Type) → List (DataW H) → Bool := fun _ ds => decide (uptoBulkAll ds ≤ 1048576)
def OpenSpec.upto (s : _root_.Go.ChangeSpec) : _root_.Go.OpenSpec := { _root_.Go.OpenSpec.ofChange s with cond := some uptoSmall }

/-- 'jobberlaw19.CallPrices', WHERE WHAT IT READS IS OF BULK AT MOST 1048576: true; the input reads as it did. -/
def callPricesUptoRow : OpenClaim := { program := "ytjjnbcaemognhaa", sum := "3e52fa348feef9837e410f69dc6ed03f078487fd3a2afa58f008f0a80039cc6d", func := "jobber/jobberlaw19.CallPrices", spec := "callPrices", unfollowed := true, recurses := true, named := ["math/bits.divideError", "math/bits.overflowError"], apart := false, narrowed := true }
def CallPricesUptoSaid : Prop := callPricesUptoRow.holds Try.pinned (OpenSpec.upto callPricesSpec)

/-- 'jobberlaw19.CallSides', WHERE WHAT IT READS IS OF BULK AT MOST 1048576: true; the input reads as it did. -/
def callSidesUptoRow : OpenClaim := { program := "ytjjnbcaemognhaa", sum := "3e52fa348feef9837e410f69dc6ed03f078487fd3a2afa58f008f0a80039cc6d", func := "jobber/jobberlaw19.CallSides", spec := "callSides", unfollowed := true, recurses := true, named := ["math/bits.divideError", "math/bits.overflowError"], apart := false, narrowed := true }
def CallSidesUptoSaid : Prop := callSidesUptoRow.holds Try.pinned (OpenSpec.upto callSidesSpec)

/-- 'jobberlaw19.CallDeals', WHERE WHAT IT READS IS OF BULK AT MOST 1048576: true; the input reads as it did. -/
def callDealsUptoRow : OpenClaim := { program := "ytjjnbcaemognhaa", sum := "3e52fa348feef9837e410f69dc6ed03f078487fd3a2afa58f008f0a80039cc6d", func := "jobber/jobberlaw19.CallDeals", spec := "callDeals", unfollowed := true, recurses := true, named := ["math/bits.divideError", "math/bits.overflowError"], apart := false, narrowed := true }
def CallDealsUptoSaid : Prop := callDealsUptoRow.holds Try.pinned (OpenSpec.upto callDealsSpec)

/-- 'jobberlaw19.CallClears', WHERE WHAT IT READS IS OF BULK AT MOST 1048576: true; the input reads as it did. -/
def callClearsUptoRow : OpenClaim := { program := "ytjjnbcaemognhaa", sum := "3e52fa348feef9837e410f69dc6ed03f078487fd3a2afa58f008f0a80039cc6d", func := "jobber/jobberlaw19.CallClears", spec := "callClears", unfollowed := true, recurses := true, named := ["math/bits.divideError", "math/bits.overflowError"], apart := false, narrowed := true }
def CallClearsUptoSaid : Prop := callClearsUptoRow.holds Try.pinned (OpenSpec.upto callClearsSpec)

end Rows
end Go.Proofs.Ytjjnbcaemognhaa
