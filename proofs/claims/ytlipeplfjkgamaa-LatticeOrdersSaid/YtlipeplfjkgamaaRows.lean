/-
  No cell of these rows narrows 'for every input' (looked for: loops, veiled, ifaces, maps, wideKeys, modest, calm, conditions, laid).
  DERIVED. THE GIVEN ROWS OF THIS SEAT. 11 by the template 'for every input the law returns true; each argument reads behind the call as it read before'; 0 by the template 'total and deterministic' (their statements: YtlipeplfjkgamaaTotals.lean).
  GIVEN WITH THE SEED: the statements are not yours to turn. If you find one false, say at which input.
  Laid BY PROGRAM, IN A SANDBOX (cutbox-rows.mjs): the forced cells as the released guide's own fill.sh prints them over the translation 344b919e6137ff89… (all of the seat's roots in one cut). By AI agents, Wed Nov 11 2026. No macro, syntax, notation, axiom, sorry.
-/
import Derived.Test.YtlipeplfjkgamaaChecked
import GoSem.Claim
import GoSem.ClaimJoined
import GoSem.ClaimMapViews
import Derived.JoinedTies
import Derived.KernelRfl
namespace Go.Proofs.Ytlipeplfjkgamaa
/- THE CELL 'sum', in the pinned program and in every row, IS THE sha256 OF THE DUMP (.gsa) THAT YtlipeplfjkgamaaProg.lean LOADS. Nothing in Lean hashes anything: it is a label: what it is worth is what the hold of that sum in a sandbox is worth. -/
noncomputable def Try.pinned : Pinned := { name := "ytlipeplfjkgamaa", sum := "344b919e6137ff89507a877c1361293c28c71ca782941b4c8acf4e1f0514d9d6", checked := Try.checked }
namespace Rows
def none {H : Type} : Left H := { results := [], args := [] }

/-- 'bushellaw33.OrderKeys': WHATEVER THE INPUT: true; the input reads as it did. -/
def orderKeysSpec : ChangeSpec := { name := "orderKeys", fn := fun _ => fun
  | [d1, d2, d3] => { results := [.lit (.bool true)], args := [d1, d2, d3] }
  | _ => none }
def orderKeysRow : OpenClaim := { program := "ytlipeplfjkgamaa", sum := "344b919e6137ff89507a877c1361293c28c71ca782941b4c8acf4e1f0514d9d6", func := "bushel/bushellaw33.OrderKeys", spec := "orderKeys", inPlace := ["math.Float64bits"], unfollowed := true, recurses := true, apart := false }
def OrderKeysSaid : Prop := orderKeysRow.holds Try.pinned (OpenSpec.ofChange orderKeysSpec)

/-- ITS FALSE NEIGHBOUR: 'it returns false'. Refute it at one input. -/
def orderKeysWrong : ChangeSpec := { name := "orderKeys", fn := fun _ => fun
  | [d1, d2, d3] => { results := [.lit (.bool false)], args := [d1, d2, d3] }
  | _ => none }
def OrderKeysWrongFalsely : Prop := orderKeysRow.holds Try.pinned (OpenSpec.ofChange orderKeysWrong)

/-- 'bushellaw16.TourneyMerges': WHATEVER THE INPUT: true; the input reads as it did. -/
def tourneyMergesSpec : ChangeSpec := { name := "tourneyMerges", fn := fun _ => fun
  | [d] => { results := [.lit (.bool true)], args := [d] }
  | _ => none }
def tourneyMergesRow : OpenClaim := { program := "ytlipeplfjkgamaa", sum := "344b919e6137ff89507a877c1361293c28c71ca782941b4c8acf4e1f0514d9d6", func := "bushel/bushellaw16.TourneyMerges", spec := "tourneyMerges", inPlace := ["math.Float64bits"], unfollowed := true, recurses := true, apart := false }
def TourneyMergesSaid : Prop := tourneyMergesRow.holds Try.pinned (OpenSpec.ofChange tourneyMergesSpec)

/-- ITS FALSE NEIGHBOUR: 'it returns false'. Refute it at one input. -/
def tourneyMergesWrong : ChangeSpec := { name := "tourneyMerges", fn := fun _ => fun
  | [d] => { results := [.lit (.bool false)], args := [d] }
  | _ => none }
def TourneyMergesWrongFalsely : Prop := tourneyMergesRow.holds Try.pinned (OpenSpec.ofChange tourneyMergesWrong)

/-- 'bushellaw16.TourneyAgrees': WHATEVER THE INPUT: true; the input reads as it did. -/
def tourneyAgreesSpec : ChangeSpec := { name := "tourneyAgrees", fn := fun _ => fun
  | [d] => { results := [.lit (.bool true)], args := [d] }
  | _ => none }
def tourneyAgreesRow : OpenClaim := { program := "ytlipeplfjkgamaa", sum := "344b919e6137ff89507a877c1361293c28c71ca782941b4c8acf4e1f0514d9d6", func := "bushel/bushellaw16.TourneyAgrees", spec := "tourneyAgrees", inPlace := ["math.Float64bits"], unfollowed := true, recurses := true, apart := false }
def TourneyAgreesSaid : Prop := tourneyAgreesRow.holds Try.pinned (OpenSpec.ofChange tourneyAgreesSpec)

/-- ITS FALSE NEIGHBOUR: 'it returns false'. Refute it at one input. -/
def tourneyAgreesWrong : ChangeSpec := { name := "tourneyAgrees", fn := fun _ => fun
  | [d] => { results := [.lit (.bool false)], args := [d] }
  | _ => none }
def TourneyAgreesWrongFalsely : Prop := tourneyAgreesRow.holds Try.pinned (OpenSpec.ofChange tourneyAgreesWrong)

/-- 'bushellaw29.QueryChecks': WHATEVER THE INPUT: true; the input reads as it did. -/
def queryChecksSpec : ChangeSpec := { name := "queryChecks", fn := fun _ => fun
  | [d1, d2] => { results := [.lit (.bool true)], args := [d1, d2] }
  | _ => none }
def queryChecksRow : OpenClaim := { program := "ytlipeplfjkgamaa", sum := "344b919e6137ff89507a877c1361293c28c71ca782941b4c8acf4e1f0514d9d6", func := "bushel/bushellaw29.QueryChecks", spec := "queryChecks", unfollowed := true, recurses := true, apart := false }
def QueryChecksSaid : Prop := queryChecksRow.holds Try.pinned (OpenSpec.ofChange queryChecksSpec)

/-- ITS FALSE NEIGHBOUR: 'it returns false'. Refute it at one input. -/
def queryChecksWrong : ChangeSpec := { name := "queryChecks", fn := fun _ => fun
  | [d1, d2] => { results := [.lit (.bool false)], args := [d1, d2] }
  | _ => none }
def QueryChecksWrongFalsely : Prop := queryChecksRow.holds Try.pinned (OpenSpec.ofChange queryChecksWrong)

/-- 'bushellaw29.QuerySame': WHATEVER THE INPUT: true; the input reads as it did. -/
def querySameSpec : ChangeSpec := { name := "querySame", fn := fun _ => fun
  | [d1, d2] => { results := [.lit (.bool true)], args := [d1, d2] }
  | _ => none }
def querySameRow : OpenClaim := { program := "ytlipeplfjkgamaa", sum := "344b919e6137ff89507a877c1361293c28c71ca782941b4c8acf4e1f0514d9d6", func := "bushel/bushellaw29.QuerySame", spec := "querySame", unfollowed := true, recurses := true, apart := false }
def QuerySameSaid : Prop := querySameRow.holds Try.pinned (OpenSpec.ofChange querySameSpec)

/-- ITS FALSE NEIGHBOUR: 'it returns false'. Refute it at one input. -/
def querySameWrong : ChangeSpec := { name := "querySame", fn := fun _ => fun
  | [d1, d2] => { results := [.lit (.bool false)], args := [d1, d2] }
  | _ => none }
def QuerySameWrongFalsely : Prop := querySameRow.holds Try.pinned (OpenSpec.ofChange querySameWrong)

/-- 'bushellaw29.QueryGets': WHATEVER THE INPUT: true; the input reads as it did. -/
def queryGetsSpec : ChangeSpec := { name := "queryGets", fn := fun _ => fun
  | [d1, d2] => { results := [.lit (.bool true)], args := [d1, d2] }
  | _ => none }
def queryGetsRow : OpenClaim := { program := "ytlipeplfjkgamaa", sum := "344b919e6137ff89507a877c1361293c28c71ca782941b4c8acf4e1f0514d9d6", func := "bushel/bushellaw29.QueryGets", spec := "queryGets", unfollowed := true, recurses := true, apart := false }
def QueryGetsSaid : Prop := queryGetsRow.holds Try.pinned (OpenSpec.ofChange queryGetsSpec)

/-- ITS FALSE NEIGHBOUR: 'it returns false'. Refute it at one input. -/
def queryGetsWrong : ChangeSpec := { name := "queryGets", fn := fun _ => fun
  | [d1, d2] => { results := [.lit (.bool false)], args := [d1, d2] }
  | _ => none }
def QueryGetsWrongFalsely : Prop := queryGetsRow.holds Try.pinned (OpenSpec.ofChange queryGetsWrong)

/-- 'bushellaw29.QueryPuts': WHATEVER THE INPUT: true; the input reads as it did. -/
def queryPutsSpec : ChangeSpec := { name := "queryPuts", fn := fun _ => fun
  | [d1, d2] => { results := [.lit (.bool true)], args := [d1, d2] }
  | _ => none }
def queryPutsRow : OpenClaim := { program := "ytlipeplfjkgamaa", sum := "344b919e6137ff89507a877c1361293c28c71ca782941b4c8acf4e1f0514d9d6", func := "bushel/bushellaw29.QueryPuts", spec := "queryPuts", unfollowed := true, recurses := true, apart := false }
def QueryPutsSaid : Prop := queryPutsRow.holds Try.pinned (OpenSpec.ofChange queryPutsSpec)

/-- ITS FALSE NEIGHBOUR: 'it returns false'. Refute it at one input. -/
def queryPutsWrong : ChangeSpec := { name := "queryPuts", fn := fun _ => fun
  | [d1, d2] => { results := [.lit (.bool false)], args := [d1, d2] }
  | _ => none }
def QueryPutsWrongFalsely : Prop := queryPutsRow.holds Try.pinned (OpenSpec.ofChange queryPutsWrong)

/-- 'bushellaw17.LatticeOrders': WHATEVER THE INPUT: true; the input reads as it did. -/
def latticeOrdersSpec : ChangeSpec := { name := "latticeOrders", fn := fun _ => fun
  | [d] => { results := [.lit (.bool true)], args := [d] }
  | _ => none }
def latticeOrdersRow : OpenClaim := { program := "ytlipeplfjkgamaa", sum := "344b919e6137ff89507a877c1361293c28c71ca782941b4c8acf4e1f0514d9d6", func := "bushel/bushellaw17.LatticeOrders", spec := "latticeOrders", unfollowed := true, recurses := true, apart := false }
def LatticeOrdersSaid : Prop := latticeOrdersRow.holds Try.pinned (OpenSpec.ofChange latticeOrdersSpec)

/-- ITS FALSE NEIGHBOUR: 'it returns false'. Refute it at one input. -/
def latticeOrdersWrong : ChangeSpec := { name := "latticeOrders", fn := fun _ => fun
  | [d] => { results := [.lit (.bool false)], args := [d] }
  | _ => none }
def LatticeOrdersWrongFalsely : Prop := latticeOrdersRow.holds Try.pinned (OpenSpec.ofChange latticeOrdersWrong)

/-- 'bushellaw28.FilterTwice': WHATEVER THE INPUT: true; the input reads as it did. -/
def filterTwiceSpec : ChangeSpec := { name := "filterTwice", fn := fun _ => fun
  | [d1, d2, d3] => { results := [.lit (.bool true)], args := [d1, d2, d3] }
  | _ => none }
def filterTwiceRow : OpenClaim := { program := "ytlipeplfjkgamaa", sum := "344b919e6137ff89507a877c1361293c28c71ca782941b4c8acf4e1f0514d9d6", func := "bushel/bushellaw28.FilterTwice", spec := "filterTwice", inPlace := ["math.Float64bits"], recurses := true, apart := false }
def FilterTwiceSaid : Prop := filterTwiceRow.holds Try.pinned (OpenSpec.ofChange filterTwiceSpec)

/-- ITS FALSE NEIGHBOUR: 'it returns false'. Refute it at one input. -/
def filterTwiceWrong : ChangeSpec := { name := "filterTwice", fn := fun _ => fun
  | [d1, d2, d3] => { results := [.lit (.bool false)], args := [d1, d2, d3] }
  | _ => none }
def FilterTwiceWrongFalsely : Prop := filterTwiceRow.holds Try.pinned (OpenSpec.ofChange filterTwiceWrong)

/-- 'bushellaw43.DiffCells': WHATEVER THE INPUT: true; the input reads as it did. -/
def diffCellsSpec : ChangeSpec := { name := "diffCells", fn := fun _ => fun
  | [d1, d2] => { results := [.lit (.bool true)], args := [d1, d2] }
  | _ => none }
def diffCellsRow : OpenClaim := { program := "ytlipeplfjkgamaa", sum := "344b919e6137ff89507a877c1361293c28c71ca782941b4c8acf4e1f0514d9d6", func := "bushel/bushellaw43.DiffCells", spec := "diffCells", inPlace := ["math.Float64bits"], unfollowed := true, recurses := true, apart := false }
def DiffCellsSaid : Prop := diffCellsRow.holds Try.pinned (OpenSpec.ofChange diffCellsSpec)

/-- ITS FALSE NEIGHBOUR: 'it returns false'. Refute it at one input. -/
def diffCellsWrong : ChangeSpec := { name := "diffCells", fn := fun _ => fun
  | [d1, d2] => { results := [.lit (.bool false)], args := [d1, d2] }
  | _ => none }
def DiffCellsWrongFalsely : Prop := diffCellsRow.holds Try.pinned (OpenSpec.ofChange diffCellsWrong)

/-- 'bushellaw43.DiffPatches': WHATEVER THE INPUT: true; the input reads as it did. -/
def diffPatchesSpec : ChangeSpec := { name := "diffPatches", fn := fun _ => fun
  | [d1, d2, d3] => { results := [.lit (.bool true)], args := [d1, d2, d3] }
  | _ => none }
def diffPatchesRow : OpenClaim := { program := "ytlipeplfjkgamaa", sum := "344b919e6137ff89507a877c1361293c28c71ca782941b4c8acf4e1f0514d9d6", func := "bushel/bushellaw43.DiffPatches", spec := "diffPatches", inPlace := ["math.Float64bits"], unfollowed := true, recurses := true, apart := false }
def DiffPatchesSaid : Prop := diffPatchesRow.holds Try.pinned (OpenSpec.ofChange diffPatchesSpec)

/-- ITS FALSE NEIGHBOUR: 'it returns false'. Refute it at one input. -/
def diffPatchesWrong : ChangeSpec := { name := "diffPatches", fn := fun _ => fun
  | [d1, d2, d3] => { results := [.lit (.bool false)], args := [d1, d2, d3] }
  | _ => none }
def DiffPatchesWrongFalsely : Prop := diffPatchesRow.holds Try.pinned (OpenSpec.ofChange diffPatchesWrong)

/- THE SECOND FORM. 'bulk': how many values and letters a reading holds, each counted each time it is reached (what is shared counts as often as it is met; a slice's spare places count too). A statement '..UptoSaid' is the law's where the arguments, and the package variables that the reading takes, are together of bulk at most 1048576: NARROWER than '..Said'. Prove '..Said' where nothing that the law and all that it calls make is longer than what came in: it says more and counts as full. Else prove '..UptoSaid'. A law counts once. -/
mutual
def uptoBulk {H : Type} : DataW H → Nat
  | .lit (.string bytes) => bytes.length + 1
  | .lit _ => 1
  | .nil => 1
  | .ptr d => uptoBulk d + 1
  | .slice elems spare => uptoBulkAll elems + uptoBulkAll spare + 1
  | .agg parts => uptoBulkAll parts + 1
  | .iface _ d => uptoBulk d + 1
  | .map entries => uptoBulkEntries entries + 1
  | .held _ => 1
def uptoBulkAll {H : Type} : List (DataW H) → Nat
  | [] => 0
  | d :: r => uptoBulk d + uptoBulkAll r
def uptoBulkEntries {H : Type} : List (Lit × DataW H) → Nat
  | [] => 0
  | x :: r => uptoBulkEntry x + uptoBulkEntries r
def uptoBulkEntry {H : Type} : Lit × DataW H → Nat
  | (.string bytes, d) => bytes.length + uptoBulk d + 1
  | (_, d) => uptoBulk d + 1
 end
def uptoSmall : (H : Type) → List (DataW H) → Bool := fun _ ds => decide (uptoBulkAll ds ≤ 1048576)
def OpenSpec.upto (s : _root_.Go.ChangeSpec) : _root_.Go.OpenSpec := { _root_.Go.OpenSpec.ofChange s with cond := some uptoSmall }

/-- 'bushellaw33.OrderKeys', WHERE WHAT IT READS IS OF BULK AT MOST 1048576: true; the input reads as it did. -/
def orderKeysUptoRow : OpenClaim := { program := "ytlipeplfjkgamaa", sum := "344b919e6137ff89507a877c1361293c28c71ca782941b4c8acf4e1f0514d9d6", func := "bushel/bushellaw33.OrderKeys", spec := "orderKeys", inPlace := ["math.Float64bits"], unfollowed := true, recurses := true, apart := false, narrowed := true }
def OrderKeysUptoSaid : Prop := orderKeysUptoRow.holds Try.pinned (OpenSpec.upto orderKeysSpec)

/-- 'bushellaw16.TourneyMerges', WHERE WHAT IT READS IS OF BULK AT MOST 1048576: true; the input reads as it did. -/
def tourneyMergesUptoRow : OpenClaim := { program := "ytlipeplfjkgamaa", sum := "344b919e6137ff89507a877c1361293c28c71ca782941b4c8acf4e1f0514d9d6", func := "bushel/bushellaw16.TourneyMerges", spec := "tourneyMerges", inPlace := ["math.Float64bits"], unfollowed := true, recurses := true, apart := false, narrowed := true }
def TourneyMergesUptoSaid : Prop := tourneyMergesUptoRow.holds Try.pinned (OpenSpec.upto tourneyMergesSpec)

/-- 'bushellaw16.TourneyAgrees', WHERE WHAT IT READS IS OF BULK AT MOST 1048576: true; the input reads as it did. -/
def tourneyAgreesUptoRow : OpenClaim := { program := "ytlipeplfjkgamaa", sum := "344b919e6137ff89507a877c1361293c28c71ca782941b4c8acf4e1f0514d9d6", func := "bushel/bushellaw16.TourneyAgrees", spec := "tourneyAgrees", inPlace := ["math.Float64bits"], unfollowed := true, recurses := true, apart := false, narrowed := true }
def TourneyAgreesUptoSaid : Prop := tourneyAgreesUptoRow.holds Try.pinned (OpenSpec.upto tourneyAgreesSpec)

/-- 'bushellaw29.QueryChecks', WHERE WHAT IT READS IS OF BULK AT MOST 1048576: true; the input reads as it did. -/
def queryChecksUptoRow : OpenClaim := { program := "ytlipeplfjkgamaa", sum := "344b919e6137ff89507a877c1361293c28c71ca782941b4c8acf4e1f0514d9d6", func := "bushel/bushellaw29.QueryChecks", spec := "queryChecks", unfollowed := true, recurses := true, apart := false, narrowed := true }
def QueryChecksUptoSaid : Prop := queryChecksUptoRow.holds Try.pinned (OpenSpec.upto queryChecksSpec)

/-- 'bushellaw29.QuerySame', WHERE WHAT IT READS IS OF BULK AT MOST 1048576: true; the input reads as it did. -/
def querySameUptoRow : OpenClaim := { program := "ytlipeplfjkgamaa", sum := "344b919e6137ff89507a877c1361293c28c71ca782941b4c8acf4e1f0514d9d6", func := "bushel/bushellaw29.QuerySame", spec := "querySame", unfollowed := true, recurses := true, apart := false, narrowed := true }
def QuerySameUptoSaid : Prop := querySameUptoRow.holds Try.pinned (OpenSpec.upto querySameSpec)

/-- 'bushellaw29.QueryGets', WHERE WHAT IT READS IS OF BULK AT MOST 1048576: true; the input reads as it did. -/
def queryGetsUptoRow : OpenClaim := { program := "ytlipeplfjkgamaa", sum := "344b919e6137ff89507a877c1361293c28c71ca782941b4c8acf4e1f0514d9d6", func := "bushel/bushellaw29.QueryGets", spec := "queryGets", unfollowed := true, recurses := true, apart := false, narrowed := true }
def QueryGetsUptoSaid : Prop := queryGetsUptoRow.holds Try.pinned (OpenSpec.upto queryGetsSpec)

/-- 'bushellaw29.QueryPuts', WHERE WHAT IT READS IS OF BULK AT MOST 1048576: true; the input reads as it did. -/
def queryPutsUptoRow : OpenClaim := { program := "ytlipeplfjkgamaa", sum := "344b919e6137ff89507a877c1361293c28c71ca782941b4c8acf4e1f0514d9d6", func := "bushel/bushellaw29.QueryPuts", spec := "queryPuts", unfollowed := true, recurses := true, apart := false, narrowed := true }
def QueryPutsUptoSaid : Prop := queryPutsUptoRow.holds Try.pinned (OpenSpec.upto queryPutsSpec)

/-- 'bushellaw17.LatticeOrders', WHERE WHAT IT READS IS OF BULK AT MOST 1048576: true; the input reads as it did. -/
def latticeOrdersUptoRow : OpenClaim := { program := "ytlipeplfjkgamaa", sum := "344b919e6137ff89507a877c1361293c28c71ca782941b4c8acf4e1f0514d9d6", func := "bushel/bushellaw17.LatticeOrders", spec := "latticeOrders", unfollowed := true, recurses := true, apart := false, narrowed := true }
def LatticeOrdersUptoSaid : Prop := latticeOrdersUptoRow.holds Try.pinned (OpenSpec.upto latticeOrdersSpec)

/-- 'bushellaw28.FilterTwice', WHERE WHAT IT READS IS OF BULK AT MOST 1048576: true; the input reads as it did. -/
def filterTwiceUptoRow : OpenClaim := { program := "ytlipeplfjkgamaa", sum := "344b919e6137ff89507a877c1361293c28c71ca782941b4c8acf4e1f0514d9d6", func := "bushel/bushellaw28.FilterTwice", spec := "filterTwice", inPlace := ["math.Float64bits"], recurses := true, apart := false, narrowed := true }
def FilterTwiceUptoSaid : Prop := filterTwiceUptoRow.holds Try.pinned (OpenSpec.upto filterTwiceSpec)

/-- 'bushellaw43.DiffCells', WHERE WHAT IT READS IS OF BULK AT MOST 1048576: true; the input reads as it did. -/
def diffCellsUptoRow : OpenClaim := { program := "ytlipeplfjkgamaa", sum := "344b919e6137ff89507a877c1361293c28c71ca782941b4c8acf4e1f0514d9d6", func := "bushel/bushellaw43.DiffCells", spec := "diffCells", inPlace := ["math.Float64bits"], unfollowed := true, recurses := true, apart := false, narrowed := true }
def DiffCellsUptoSaid : Prop := diffCellsUptoRow.holds Try.pinned (OpenSpec.upto diffCellsSpec)

/-- 'bushellaw43.DiffPatches', WHERE WHAT IT READS IS OF BULK AT MOST 1048576: true; the input reads as it did. -/
def diffPatchesUptoRow : OpenClaim := { program := "ytlipeplfjkgamaa", sum := "344b919e6137ff89507a877c1361293c28c71ca782941b4c8acf4e1f0514d9d6", func := "bushel/bushellaw43.DiffPatches", spec := "diffPatches", inPlace := ["math.Float64bits"], unfollowed := true, recurses := true, apart := false, narrowed := true }
def DiffPatchesUptoSaid : Prop := diffPatchesUptoRow.holds Try.pinned (OpenSpec.upto diffPatchesSpec)

end Rows
end Go.Proofs.Ytlipeplfjkgamaa
