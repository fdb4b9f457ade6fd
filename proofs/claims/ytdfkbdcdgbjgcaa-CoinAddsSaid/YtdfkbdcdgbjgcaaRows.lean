/-
  No cell of these rows narrows 'for every input' (looked for: loops, veiled, ifaces, maps, wideKeys, modest, calm, conditions, laid).
  DERIVED. THE GIVEN ROWS OF THIS SEAT. 12 by the template 'for every input the law returns true; each argument reads behind the call as it read before'; 0 by the template 'total and deterministic' (their statements: YtdfkbdcdgbjgcaaTotals.lean).
  GIVEN WITH THE SEED: the statements are not yours to turn. If you find one false, say at which input.
  Laid BY PROGRAM, IN A SANDBOX (cutbox-rows.mjs): the forced cells as the released guide's own fill.sh prints them over the translation c8a3c07bb6e08c91… (all of the seat's roots in one cut). By AI agents, Wed Nov 11 2026. No macro, syntax, notation, axiom, sorry.
-/
import Derived.Test.YtdfkbdcdgbjgcaaChecked
import GoSem.Claim
import GoSem.ClaimJoined
import GoSem.ClaimMapViews
import Derived.JoinedTies
import Derived.KernelRfl
namespace Go.Proofs.Ytdfkbdcdgbjgcaa
/- THE CELL 'sum', in the pinned program and in every row, IS THE sha256 OF THE DUMP (.gsa) THAT YtdfkbdcdgbjgcaaProg.lean LOADS. Nothing in Lean hashes anything: it is a label: what it is worth is what the hold of that sum in a sandbox is worth. -/
noncomputable def Try.pinned : Pinned := { name := "ytdfkbdcdgbjgcaa", sum := "c8a3c07bb6e08c91ca4e7ebfdf5c7123321b5d80d7a9fcd2f8be35b232beb75b", checked := Try.checked }
namespace Rows
def none {H : Type} : Left H := { results := [], args := [] }

/-- 'jobberlaw05.ChancePlays': WHATEVER THE INPUT: true; the input reads as it did. -/
def chancePlaysSpec : ChangeSpec := { name := "chancePlays", fn := fun _ => fun
  | [d1, d2] => { results := [.lit (.bool true)], args := [d1, d2] }
  | _ => none }
def chancePlaysRow : OpenClaim := { program := "ytdfkbdcdgbjgcaa", sum := "c8a3c07bb6e08c91ca4e7ebfdf5c7123321b5d80d7a9fcd2f8be35b232beb75b", func := "jobber/jobberlaw05.ChancePlays", spec := "chancePlays", unfollowed := true, recurses := true, apart := false }
def ChancePlaysSaid : Prop := chancePlaysRow.holds Try.pinned (OpenSpec.ofChange chancePlaysSpec)

/-- ITS FALSE NEIGHBOUR: 'it returns false'. Refute it at one input. -/
def chancePlaysWrong : ChangeSpec := { name := "chancePlays", fn := fun _ => fun
  | [d1, d2] => { results := [.lit (.bool false)], args := [d1, d2] }
  | _ => none }
def ChancePlaysWrongFalsely : Prop := chancePlaysRow.holds Try.pinned (OpenSpec.ofChange chancePlaysWrong)

/-- 'jobberlaw05.ChanceBounds': WHATEVER THE INPUT: true; the input reads as it did. -/
def chanceBoundsSpec : ChangeSpec := { name := "chanceBounds", fn := fun _ => fun
  | [d1, d2] => { results := [.lit (.bool true)], args := [d1, d2] }
  | _ => none }
def chanceBoundsRow : OpenClaim := { program := "ytdfkbdcdgbjgcaa", sum := "c8a3c07bb6e08c91ca4e7ebfdf5c7123321b5d80d7a9fcd2f8be35b232beb75b", func := "jobber/jobberlaw05.ChanceBounds", spec := "chanceBounds", unfollowed := true, recurses := true, apart := false }
def ChanceBoundsSaid : Prop := chanceBoundsRow.holds Try.pinned (OpenSpec.ofChange chanceBoundsSpec)

/-- ITS FALSE NEIGHBOUR: 'it returns false'. Refute it at one input. -/
def chanceBoundsWrong : ChangeSpec := { name := "chanceBounds", fn := fun _ => fun
  | [d1, d2] => { results := [.lit (.bool false)], args := [d1, d2] }
  | _ => none }
def ChanceBoundsWrongFalsely : Prop := chanceBoundsRow.holds Try.pinned (OpenSpec.ofChange chanceBoundsWrong)

/-- 'jobberlaw05.ChanceSame': WHATEVER THE INPUT: true; the input reads as it did. -/
def chanceSameSpec : ChangeSpec := { name := "chanceSame", fn := fun _ => fun
  | [d1, d2] => { results := [.lit (.bool true)], args := [d1, d2] }
  | _ => none }
def chanceSameRow : OpenClaim := { program := "ytdfkbdcdgbjgcaa", sum := "c8a3c07bb6e08c91ca4e7ebfdf5c7123321b5d80d7a9fcd2f8be35b232beb75b", func := "jobber/jobberlaw05.ChanceSame", spec := "chanceSame", unfollowed := true, recurses := true, apart := false }
def ChanceSameSaid : Prop := chanceSameRow.holds Try.pinned (OpenSpec.ofChange chanceSameSpec)

/-- ITS FALSE NEIGHBOUR: 'it returns false'. Refute it at one input. -/
def chanceSameWrong : ChangeSpec := { name := "chanceSame", fn := fun _ => fun
  | [d1, d2] => { results := [.lit (.bool false)], args := [d1, d2] }
  | _ => none }
def ChanceSameWrongFalsely : Prop := chanceSameRow.holds Try.pinned (OpenSpec.ofChange chanceSameWrong)

/-- 'jobberlaw06.GridTells': WHATEVER THE INPUT: true; the input reads as it did. -/
def gridTellsSpec : ChangeSpec := { name := "gridTells", fn := fun _ => fun
  | [d1, d2] => { results := [.lit (.bool true)], args := [d1, d2] }
  | _ => none }
def gridTellsRow : OpenClaim := { program := "ytdfkbdcdgbjgcaa", sum := "c8a3c07bb6e08c91ca4e7ebfdf5c7123321b5d80d7a9fcd2f8be35b232beb75b", func := "jobber/jobberlaw06.GridTells", spec := "gridTells", unfollowed := true, recurses := true, apart := false }
def GridTellsSaid : Prop := gridTellsRow.holds Try.pinned (OpenSpec.ofChange gridTellsSpec)

/-- ITS FALSE NEIGHBOUR: 'it returns false'. Refute it at one input. -/
def gridTellsWrong : ChangeSpec := { name := "gridTells", fn := fun _ => fun
  | [d1, d2] => { results := [.lit (.bool false)], args := [d1, d2] }
  | _ => none }
def GridTellsWrongFalsely : Prop := gridTellsRow.holds Try.pinned (OpenSpec.ofChange gridTellsWrong)

/-- 'jobberlaw06.GridCounts': WHATEVER THE INPUT: true; the input reads as it did. -/
def gridCountsSpec : ChangeSpec := { name := "gridCounts", fn := fun _ => fun
  | [d1, d2, d3, d4] => { results := [.lit (.bool true)], args := [d1, d2, d3, d4] }
  | _ => none }
def gridCountsRow : OpenClaim := { program := "ytdfkbdcdgbjgcaa", sum := "c8a3c07bb6e08c91ca4e7ebfdf5c7123321b5d80d7a9fcd2f8be35b232beb75b", func := "jobber/jobberlaw06.GridCounts", spec := "gridCounts", unfollowed := true, recurses := true, apart := false }
def GridCountsSaid : Prop := gridCountsRow.holds Try.pinned (OpenSpec.ofChange gridCountsSpec)

/-- ITS FALSE NEIGHBOUR: 'it returns false'. Refute it at one input. -/
def gridCountsWrong : ChangeSpec := { name := "gridCounts", fn := fun _ => fun
  | [d1, d2, d3, d4] => { results := [.lit (.bool false)], args := [d1, d2, d3, d4] }
  | _ => none }
def GridCountsWrongFalsely : Prop := gridCountsRow.holds Try.pinned (OpenSpec.ofChange gridCountsWrong)

/-- 'jobberlaw06.GridNear': WHATEVER THE INPUT: true; the input reads as it did. -/
def gridNearSpec : ChangeSpec := { name := "gridNear", fn := fun _ => fun
  | [d1, d2] => { results := [.lit (.bool true)], args := [d1, d2] }
  | _ => none }
def gridNearRow : OpenClaim := { program := "ytdfkbdcdgbjgcaa", sum := "c8a3c07bb6e08c91ca4e7ebfdf5c7123321b5d80d7a9fcd2f8be35b232beb75b", func := "jobber/jobberlaw06.GridNear", spec := "gridNear", unfollowed := true, recurses := true, apart := false }
def GridNearSaid : Prop := gridNearRow.holds Try.pinned (OpenSpec.ofChange gridNearSpec)

/-- ITS FALSE NEIGHBOUR: 'it returns false'. Refute it at one input. -/
def gridNearWrong : ChangeSpec := { name := "gridNear", fn := fun _ => fun
  | [d1, d2] => { results := [.lit (.bool false)], args := [d1, d2] }
  | _ => none }
def GridNearWrongFalsely : Prop := gridNearRow.holds Try.pinned (OpenSpec.ofChange gridNearWrong)

/-- 'jobberlaw17.OwnMeets': WHATEVER THE INPUT: true; the input reads as it did. -/
def ownMeetsSpec : ChangeSpec := { name := "ownMeets", fn := fun _ => fun
  | [d1, d2, d3] => { results := [.lit (.bool true)], args := [d1, d2, d3] }
  | _ => none }
def ownMeetsRow : OpenClaim := { program := "ytdfkbdcdgbjgcaa", sum := "c8a3c07bb6e08c91ca4e7ebfdf5c7123321b5d80d7a9fcd2f8be35b232beb75b", func := "jobber/jobberlaw17.OwnMeets", spec := "ownMeets", unfollowed := true, recurses := true, apart := false }
def OwnMeetsSaid : Prop := ownMeetsRow.holds Try.pinned (OpenSpec.ofChange ownMeetsSpec)

/-- ITS FALSE NEIGHBOUR: 'it returns false'. Refute it at one input. -/
def ownMeetsWrong : ChangeSpec := { name := "ownMeets", fn := fun _ => fun
  | [d1, d2, d3] => { results := [.lit (.bool false)], args := [d1, d2, d3] }
  | _ => none }
def OwnMeetsWrongFalsely : Prop := ownMeetsRow.holds Try.pinned (OpenSpec.ofChange ownMeetsWrong)

/-- 'jobberlaw17.OwnReaches': WHATEVER THE INPUT: true; the input reads as it did. -/
def ownReachesSpec : ChangeSpec := { name := "ownReaches", fn := fun _ => fun
  | [d1, d2, d3, d4] => { results := [.lit (.bool true)], args := [d1, d2, d3, d4] }
  | _ => none }
def ownReachesRow : OpenClaim := { program := "ytdfkbdcdgbjgcaa", sum := "c8a3c07bb6e08c91ca4e7ebfdf5c7123321b5d80d7a9fcd2f8be35b232beb75b", func := "jobber/jobberlaw17.OwnReaches", spec := "ownReaches", unfollowed := true, recurses := true, apart := false }
def OwnReachesSaid : Prop := ownReachesRow.holds Try.pinned (OpenSpec.ofChange ownReachesSpec)

/-- ITS FALSE NEIGHBOUR: 'it returns false'. Refute it at one input. -/
def ownReachesWrong : ChangeSpec := { name := "ownReaches", fn := fun _ => fun
  | [d1, d2, d3, d4] => { results := [.lit (.bool false)], args := [d1, d2, d3, d4] }
  | _ => none }
def OwnReachesWrongFalsely : Prop := ownReachesRow.holds Try.pinned (OpenSpec.ofChange ownReachesWrong)

/-- 'jobberlaw01.CoinDivides': WHATEVER THE INPUT: true; the input reads as it did. -/
def coinDividesSpec : ChangeSpec := { name := "coinDivides", fn := fun _ => fun
  | [d1, d2, d3, d4] => { results := [.lit (.bool true)], args := [d1, d2, d3, d4] }
  | _ => none }
def coinDividesRow : OpenClaim := { program := "ytdfkbdcdgbjgcaa", sum := "c8a3c07bb6e08c91ca4e7ebfdf5c7123321b5d80d7a9fcd2f8be35b232beb75b", func := "jobber/jobberlaw01.CoinDivides", spec := "coinDivides", named := ["math/bits.divideError", "math/bits.overflowError"], apart := false }
def CoinDividesSaid : Prop := coinDividesRow.holds Try.pinned (OpenSpec.ofChange coinDividesSpec)

/-- ITS FALSE NEIGHBOUR: 'it returns false'. Refute it at one input. -/
def coinDividesWrong : ChangeSpec := { name := "coinDivides", fn := fun _ => fun
  | [d1, d2, d3, d4] => { results := [.lit (.bool false)], args := [d1, d2, d3, d4] }
  | _ => none }
def CoinDividesWrongFalsely : Prop := coinDividesRow.holds Try.pinned (OpenSpec.ofChange coinDividesWrong)

/-- 'jobberlaw01.CoinNear': WHATEVER THE INPUT: true; the input reads as it did. -/
def coinNearSpec : ChangeSpec := { name := "coinNear", fn := fun _ => fun
  | [d1, d2, d3] => { results := [.lit (.bool true)], args := [d1, d2, d3] }
  | _ => none }
def coinNearRow : OpenClaim := { program := "ytdfkbdcdgbjgcaa", sum := "c8a3c07bb6e08c91ca4e7ebfdf5c7123321b5d80d7a9fcd2f8be35b232beb75b", func := "jobber/jobberlaw01.CoinNear", spec := "coinNear", named := ["math/bits.divideError", "math/bits.overflowError"], apart := false }
def CoinNearSaid : Prop := coinNearRow.holds Try.pinned (OpenSpec.ofChange coinNearSpec)

/-- ITS FALSE NEIGHBOUR: 'it returns false'. Refute it at one input. -/
def coinNearWrong : ChangeSpec := { name := "coinNear", fn := fun _ => fun
  | [d1, d2, d3] => { results := [.lit (.bool false)], args := [d1, d2, d3] }
  | _ => none }
def CoinNearWrongFalsely : Prop := coinNearRow.holds Try.pinned (OpenSpec.ofChange coinNearWrong)

/-- 'jobberlaw01.CoinAdds': WHATEVER THE INPUT: true; the input reads as it did. -/
def coinAddsSpec : ChangeSpec := { name := "coinAdds", fn := fun _ => fun
  | [d1, d2] => { results := [.lit (.bool true)], args := [d1, d2] }
  | _ => none }
def coinAddsRow : OpenClaim := { program := "ytdfkbdcdgbjgcaa", sum := "c8a3c07bb6e08c91ca4e7ebfdf5c7123321b5d80d7a9fcd2f8be35b232beb75b", func := "jobber/jobberlaw01.CoinAdds", spec := "coinAdds", named := ["math/bits.divideError", "math/bits.overflowError"], apart := false }
def CoinAddsSaid : Prop := coinAddsRow.holds Try.pinned (OpenSpec.ofChange coinAddsSpec)

/-- ITS FALSE NEIGHBOUR: 'it returns false'. Refute it at one input. -/
def coinAddsWrong : ChangeSpec := { name := "coinAdds", fn := fun _ => fun
  | [d1, d2] => { results := [.lit (.bool false)], args := [d1, d2] }
  | _ => none }
def CoinAddsWrongFalsely : Prop := coinAddsRow.holds Try.pinned (OpenSpec.ofChange coinAddsWrong)

/-- 'jobberlaw01.CoinOrder': WHATEVER THE INPUT: true; the input reads as it did. -/
def coinOrderSpec : ChangeSpec := { name := "coinOrder", fn := fun _ => fun
  | [d1, d2, d3] => { results := [.lit (.bool true)], args := [d1, d2, d3] }
  | _ => none }
def coinOrderRow : OpenClaim := { program := "ytdfkbdcdgbjgcaa", sum := "c8a3c07bb6e08c91ca4e7ebfdf5c7123321b5d80d7a9fcd2f8be35b232beb75b", func := "jobber/jobberlaw01.CoinOrder", spec := "coinOrder", inPlace := ["math/bits.Add64"], named := ["math/bits.divideError", "math/bits.overflowError"], apart := false }
def CoinOrderSaid : Prop := coinOrderRow.holds Try.pinned (OpenSpec.ofChange coinOrderSpec)

/-- ITS FALSE NEIGHBOUR: 'it returns false'. Refute it at one input. -/
def coinOrderWrong : ChangeSpec := { name := "coinOrder", fn := fun _ => fun
  | [d1, d2, d3] => { results := [.lit (.bool false)], args := [d1, d2, d3] }
  | _ => none }
def CoinOrderWrongFalsely : Prop := coinOrderRow.holds Try.pinned (OpenSpec.ofChange coinOrderWrong)

/- THE SECOND FORM. 'bulk': how many values and letters a reading holds, each counted each time it is reached (what is shared counts as often as it is met; a slice's spare places count too). A statement '..UptoSaid' is the law's where the arguments, and the package variables that the reading takes, are together of bulk at most 1048576: NARROWER than '..Said'. Prove '..Said' where nothing that the law and all that it calls make is longer than what came in: it says more and counts as full. Else prove '..UptoSaid'. A law counts once. -/
mutual
def uptoBulk {H : Type} : DataW H → Nat
  | .lit (.string bytes) => bytes.length + 1
  | .lit _ => 1
  | .nil => 1
  | .ptr d => uptoBulk d + 1
  | .slice elems spare => uptoBulkAll elems + uptoBulkAll spare + 1
  | .agg parts => uptoBulkAll parts + 1
  | .iface _ d => uptoBulk d + 1
  | .map entries => uptoBulkEntries entries + 1
  | .held _ => 1
def uptoBulkAll {H : Type} : List (DataW H) → Nat
  | [] => 0
  | d :: r => uptoBulk d + uptoBulkAll r
def uptoBulkEntries {H : Type} : List (Lit × DataW H) → Nat
  | [] => 0
  | x :: r => uptoBulkEntry x + uptoBulkEntries r
def uptoBulkEntry {H : Type} : Lit × DataW H → Nat
  | (.string bytes, d) => bytes.length + uptoBulk d + 1
  | (_, d) => uptoBulk d + 1
 end
def uptoSmall : (H : Type) → List (DataW H) → Bool := fun _ ds => decide (uptoBulkAll ds ≤ 1048576)
def OpenSpec.upto (s : _root_.Go.ChangeSpec) : _root_.Go.OpenSpec := { _root_.Go.OpenSpec.ofChange s with cond := some uptoSmall }

/-- 'jobberlaw05.ChancePlays', WHERE WHAT IT READS IS OF BULK AT MOST 1048576: true; the input reads as it did. -/
def chancePlaysUptoRow : OpenClaim := { program := "ytdfkbdcdgbjgcaa", sum := "c8a3c07bb6e08c91ca4e7ebfdf5c7123321b5d80d7a9fcd2f8be35b232beb75b", func := "jobber/jobberlaw05.ChancePlays", spec := "chancePlays", unfollowed := true, recurses := true, apart := false, narrowed := true }
def ChancePlaysUptoSaid : Prop := chancePlaysUptoRow.holds Try.pinned (OpenSpec.upto chancePlaysSpec)

/-- 'jobberlaw05.ChanceBounds', WHERE WHAT IT READS IS OF BULK AT MOST 1048576: true; the input reads as it did. -/
def chanceBoundsUptoRow : OpenClaim := { program := "ytdfkbdcdgbjgcaa", sum := "c8a3c07bb6e08c91ca4e7ebfdf5c7123321b5d80d7a9fcd2f8be35b232beb75b", func := "jobber/jobberlaw05.ChanceBounds", spec := "chanceBounds", unfollowed := true, recurses := true, apart := false, narrowed := true }
def ChanceBoundsUptoSaid : Prop := chanceBoundsUptoRow.holds Try.pinned (OpenSpec.upto chanceBoundsSpec)

/-- 'jobberlaw05.ChanceSame', WHERE WHAT IT READS IS OF BULK AT MOST 1048576: true; the input reads as it did. -/
def chanceSameUptoRow : OpenClaim := { program := "ytdfkbdcdgbjgcaa", sum := "c8a3c07bb6e08c91ca4e7ebfdf5c7123321b5d80d7a9fcd2f8be35b232beb75b", func := "jobber/jobberlaw05.ChanceSame", spec := "chanceSame", unfollowed := true, recurses := true, apart := false, narrowed := true }
def ChanceSameUptoSaid : Prop := chanceSameUptoRow.holds Try.pinned (OpenSpec.upto chanceSameSpec)

/-- 'jobberlaw06.GridTells', WHERE WHAT IT READS IS OF BULK AT MOST 1048576: true; the input reads as it did. -/
def gridTellsUptoRow : OpenClaim := { program := "ytdfkbdcdgbjgcaa", sum := "c8a3c07bb6e08c91ca4e7ebfdf5c7123321b5d80d7a9fcd2f8be35b232beb75b", func := "jobber/jobberlaw06.GridTells", spec := "gridTells", unfollowed := true, recurses := true, apart := false, narrowed := true }
def GridTellsUptoSaid : Prop := gridTellsUptoRow.holds Try.pinned (OpenSpec.upto gridTellsSpec)

/-- 'jobberlaw06.GridCounts', WHERE WHAT IT READS IS OF BULK AT MOST 1048576: true; the input reads as it did. -/
def gridCountsUptoRow : OpenClaim := { program := "ytdfkbdcdgbjgcaa", sum := "c8a3c07bb6e08c91ca4e7ebfdf5c7123321b5d80d7a9fcd2f8be35b232beb75b", func := "jobber/jobberlaw06.GridCounts", spec := "gridCounts", unfollowed := true, recurses := true, apart := false, narrowed := true }
def GridCountsUptoSaid : Prop := gridCountsUptoRow.holds Try.pinned (OpenSpec.upto gridCountsSpec)

/-- 'jobberlaw06.GridNear', WHERE WHAT IT READS IS OF BULK AT MOST 1048576: true; the input reads as it did. -/
def gridNearUptoRow : OpenClaim := { program := "ytdfkbdcdgbjgcaa", sum := "c8a3c07bb6e08c91ca4e7ebfdf5c7123321b5d80d7a9fcd2f8be35b232beb75b", func := "jobber/jobberlaw06.GridNear", spec := "gridNear", unfollowed := true, recurses := true, apart := false, narrowed := true }
def GridNearUptoSaid : Prop := gridNearUptoRow.holds Try.pinned (OpenSpec.upto gridNearSpec)

/-- 'jobberlaw17.OwnMeets', WHERE WHAT IT READS IS OF BULK AT MOST 1048576: true; the input reads as it did. -/
def ownMeetsUptoRow : OpenClaim := { program := "ytdfkbdcdgbjgcaa", sum := "c8a3c07bb6e08c91ca4e7ebfdf5c7123321b5d80d7a9fcd2f8be35b232beb75b", func := "jobber/jobberlaw17.OwnMeets", spec := "ownMeets", unfollowed := true, recurses := true, apart := false, narrowed := true }
def OwnMeetsUptoSaid : Prop := ownMeetsUptoRow.holds Try.pinned (OpenSpec.upto ownMeetsSpec)

/-- 'jobberlaw17.OwnReaches', WHERE WHAT IT READS IS OF BULK AT MOST 1048576: true; the input reads as it did. -/
def ownReachesUptoRow : OpenClaim := { program := "ytdfkbdcdgbjgcaa", sum := "c8a3c07bb6e08c91ca4e7ebfdf5c7123321b5d80d7a9fcd2f8be35b232beb75b", func := "jobber/jobberlaw17.OwnReaches", spec := "ownReaches", unfollowed := true, recurses := true, apart := false, narrowed := true }
def OwnReachesUptoSaid : Prop := ownReachesUptoRow.holds Try.pinned (OpenSpec.upto ownReachesSpec)

/-- 'jobberlaw01.CoinDivides', WHERE WHAT IT READS IS OF BULK AT MOST 1048576: true; the input reads as it did. -/
def coinDividesUptoRow : OpenClaim := { program := "ytdfkbdcdgbjgcaa", sum := "c8a3c07bb6e08c91ca4e7ebfdf5c7123321b5d80d7a9fcd2f8be35b232beb75b", func := "jobber/jobberlaw01.CoinDivides", spec := "coinDivides", named := ["math/bits.divideError", "math/bits.overflowError"], apart := false, narrowed := true }
def CoinDividesUptoSaid : Prop := coinDividesUptoRow.holds Try.pinned (OpenSpec.upto coinDividesSpec)

/-- 'jobberlaw01.CoinNear', WHERE WHAT IT READS IS OF BULK AT MOST 1048576: true; the input reads as it did. -/
def coinNearUptoRow : OpenClaim := { program := "ytdfkbdcdgbjgcaa", sum := "c8a3c07bb6e08c91ca4e7ebfdf5c7123321b5d80d7a9fcd2f8be35b232beb75b", func := "jobber/jobberlaw01.CoinNear", spec := "coinNear", named := ["math/bits.divideError", "math/bits.overflowError"], apart := false, narrowed := true }
def CoinNearUptoSaid : Prop := coinNearUptoRow.holds Try.pinned (OpenSpec.upto coinNearSpec)

/-- 'jobberlaw01.CoinAdds', WHERE WHAT IT READS IS OF BULK AT MOST 1048576: true; the input reads as it did. -/
def coinAddsUptoRow : OpenClaim := { program := "ytdfkbdcdgbjgcaa", sum := "c8a3c07bb6e08c91ca4e7ebfdf5c7123321b5d80d7a9fcd2f8be35b232beb75b", func := "jobber/jobberlaw01.CoinAdds", spec := "coinAdds", named := ["math/bits.divideError", "math/bits.overflowError"], apart := false, narrowed := true }
def CoinAddsUptoSaid : Prop := coinAddsUptoRow.holds Try.pinned (OpenSpec.upto coinAddsSpec)

/-- 'jobberlaw01.CoinOrder', WHERE WHAT IT READS IS OF BULK AT MOST 1048576: true; the input reads as it did. -/
def coinOrderUptoRow : OpenClaim := { program := "ytdfkbdcdgbjgcaa", sum := "c8a3c07bb6e08c91ca4e7ebfdf5c7123321b5d80d7a9fcd2f8be35b232beb75b", func := "jobber/jobberlaw01.CoinOrder", spec := "coinOrder", inPlace := ["math/bits.Add64"], named := ["math/bits.divideError", "math/bits.overflowError"], apart := false, narrowed := true }
def CoinOrderUptoSaid : Prop := coinOrderUptoRow.holds Try.pinned (OpenSpec.upto coinOrderSpec)

end Rows
end Go.Proofs.Ytdfkbdcdgbjgcaa
