/-
  No cell of these rows narrows 'for every input' (looked for: loops, veiled, ifaces, maps, wideKeys, modest, calm, conditions, laid).
  DERIVED. THE GIVEN ROWS OF THIS SEAT. 12 by the template 'for every input the law returns true; each argument reads behind the call as it read before'; 0 by the template 'total and deterministic' (their statements: YtmnlaekcojblkaaTotals.lean).
  GIVEN WITH THE SEED: the statements are not yours to turn. If you find one false, say at which input.
  Laid BY PROGRAM, IN A SANDBOX (cutbox-rows.mjs): the forced cells as the released guide's own fill.sh prints them over the translation 0784250131931b71… (all of the seat's roots in one cut). By AI agents, Wed Nov 11 2026. No macro, syntax, notation, axiom, sorry.
-/
import Derived.Test.YtmnlaekcojblkaaChecked
import GoSem.Claim
import GoSem.ClaimJoined
import GoSem.ClaimMapViews
import Derived.JoinedTies
import Derived.KernelRfl
namespace Go.Proofs.Ytmnlaekcojblkaa
/- THE CELL 'sum', in the pinned program and in every row, IS THE sha256 OF THE DUMP (.gsa) THAT YtmnlaekcojblkaaProg.lean LOADS. Nothing in Lean hashes anything: it is a label: what it is worth is what the hold of that sum in a sandbox is worth. -/
noncomputable def Try.pinned : Pinned := { name := "ytmnlaekcojblkaa", sum := "0784250131931b71000e4d5f7275b1ba7031b463081da2aafd7d286d967edbfc", checked := Try.checked }
namespace Rows
def none {H : Type} : Left H := { results := [], args := [] }

/-- 'bushellaw33.OrderRows': WHATEVER THE INPUT: true; the input reads as it did. -/
def orderRowsSpec : ChangeSpec := { name := "orderRows", fn := fun _ => fun
  | [d1, d2, d3] => { results := [.lit (.bool true)], args := [d1, d2, d3] }
  | _ => none }
def orderRowsRow : OpenClaim := { program := "ytmnlaekcojblkaa", sum := "0784250131931b71000e4d5f7275b1ba7031b463081da2aafd7d286d967edbfc", func := "bushel/bushellaw33.OrderRows", spec := "orderRows", inPlace := ["math.Float64bits"], unfollowed := true, recurses := true, apart := false }
def OrderRowsSaid : Prop := orderRowsRow.holds Try.pinned (OpenSpec.ofChange orderRowsSpec)

/-- ITS FALSE NEIGHBOUR: 'it returns false'. Refute it at one input. -/
def orderRowsWrong : ChangeSpec := { name := "orderRows", fn := fun _ => fun
  | [d1, d2, d3] => { results := [.lit (.bool false)], args := [d1, d2, d3] }
  | _ => none }
def OrderRowsWrongFalsely : Prop := orderRowsRow.holds Try.pinned (OpenSpec.ofChange orderRowsWrong)

/-- 'bushellaw33.OrderKeys': WHATEVER THE INPUT: true; the input reads as it did. -/
def orderKeysSpec : ChangeSpec := { name := "orderKeys", fn := fun _ => fun
  | [d1, d2, d3] => { results := [.lit (.bool true)], args := [d1, d2, d3] }
  | _ => none }
def orderKeysRow : OpenClaim := { program := "ytmnlaekcojblkaa", sum := "0784250131931b71000e4d5f7275b1ba7031b463081da2aafd7d286d967edbfc", func := "bushel/bushellaw33.OrderKeys", spec := "orderKeys", inPlace := ["math.Float64bits"], unfollowed := true, recurses := true, apart := false }
def OrderKeysSaid : Prop := orderKeysRow.holds Try.pinned (OpenSpec.ofChange orderKeysSpec)

/-- ITS FALSE NEIGHBOUR: 'it returns false'. Refute it at one input. -/
def orderKeysWrong : ChangeSpec := { name := "orderKeys", fn := fun _ => fun
  | [d1, d2, d3] => { results := [.lit (.bool false)], args := [d1, d2, d3] }
  | _ => none }
def OrderKeysWrongFalsely : Prop := orderKeysRow.holds Try.pinned (OpenSpec.ofChange orderKeysWrong)

/-- 'bushellaw16.TourneyLeast': WHATEVER THE INPUT: true; the input reads as it did. -/
def tourneyLeastSpec : ChangeSpec := { name := "tourneyLeast", fn := fun _ => fun
  | [d1, d2] => { results := [.lit (.bool true)], args := [d1, d2] }
  | _ => none }
def tourneyLeastRow : OpenClaim := { program := "ytmnlaekcojblkaa", sum := "0784250131931b71000e4d5f7275b1ba7031b463081da2aafd7d286d967edbfc", func := "bushel/bushellaw16.TourneyLeast", spec := "tourneyLeast", unfollowed := true, recurses := true, apart := false }
def TourneyLeastSaid : Prop := tourneyLeastRow.holds Try.pinned (OpenSpec.ofChange tourneyLeastSpec)

/-- ITS FALSE NEIGHBOUR: 'it returns false'. Refute it at one input. -/
def tourneyLeastWrong : ChangeSpec := { name := "tourneyLeast", fn := fun _ => fun
  | [d1, d2] => { results := [.lit (.bool false)], args := [d1, d2] }
  | _ => none }
def TourneyLeastWrongFalsely : Prop := tourneyLeastRow.holds Try.pinned (OpenSpec.ofChange tourneyLeastWrong)

/-- 'bushellaw16.TourneyMerges': WHATEVER THE INPUT: true; the input reads as it did. -/
def tourneyMergesSpec : ChangeSpec := { name := "tourneyMerges", fn := fun _ => fun
  | [d] => { results := [.lit (.bool true)], args := [d] }
  | _ => none }
def tourneyMergesRow : OpenClaim := { program := "ytmnlaekcojblkaa", sum := "0784250131931b71000e4d5f7275b1ba7031b463081da2aafd7d286d967edbfc", func := "bushel/bushellaw16.TourneyMerges", spec := "tourneyMerges", inPlace := ["math.Float64bits"], unfollowed := true, recurses := true, apart := false }
def TourneyMergesSaid : Prop := tourneyMergesRow.holds Try.pinned (OpenSpec.ofChange tourneyMergesSpec)

/-- ITS FALSE NEIGHBOUR: 'it returns false'. Refute it at one input. -/
def tourneyMergesWrong : ChangeSpec := { name := "tourneyMerges", fn := fun _ => fun
  | [d] => { results := [.lit (.bool false)], args := [d] }
  | _ => none }
def TourneyMergesWrongFalsely : Prop := tourneyMergesRow.holds Try.pinned (OpenSpec.ofChange tourneyMergesWrong)

/-- 'bushellaw16.TourneyAgrees': WHATEVER THE INPUT: true; the input reads as it did. -/
def tourneyAgreesSpec : ChangeSpec := { name := "tourneyAgrees", fn := fun _ => fun
  | [d] => { results := [.lit (.bool true)], args := [d] }
  | _ => none }
def tourneyAgreesRow : OpenClaim := { program := "ytmnlaekcojblkaa", sum := "0784250131931b71000e4d5f7275b1ba7031b463081da2aafd7d286d967edbfc", func := "bushel/bushellaw16.TourneyAgrees", spec := "tourneyAgrees", inPlace := ["math.Float64bits"], unfollowed := true, recurses := true, apart := false }
def TourneyAgreesSaid : Prop := tourneyAgreesRow.holds Try.pinned (OpenSpec.ofChange tourneyAgreesSpec)

/-- ITS FALSE NEIGHBOUR: 'it returns false'. Refute it at one input. -/
def tourneyAgreesWrong : ChangeSpec := { name := "tourneyAgrees", fn := fun _ => fun
  | [d] => { results := [.lit (.bool false)], args := [d] }
  | _ => none }
def TourneyAgreesWrongFalsely : Prop := tourneyAgreesRow.holds Try.pinned (OpenSpec.ofChange tourneyAgreesWrong)

/-- 'bushellaw17.LatticeTells': WHATEVER THE INPUT: true; the input reads as it did. -/
def latticeTellsSpec : ChangeSpec := { name := "latticeTells", fn := fun _ => fun
  | [d1, d2] => { results := [.lit (.bool true)], args := [d1, d2] }
  | _ => none }
def latticeTellsRow : OpenClaim := { program := "ytmnlaekcojblkaa", sum := "0784250131931b71000e4d5f7275b1ba7031b463081da2aafd7d286d967edbfc", func := "bushel/bushellaw17.LatticeTells", spec := "latticeTells", recurses := true, apart := false }
def LatticeTellsSaid : Prop := latticeTellsRow.holds Try.pinned (OpenSpec.ofChange latticeTellsSpec)

/-- ITS FALSE NEIGHBOUR: 'it returns false'. Refute it at one input. -/
def latticeTellsWrong : ChangeSpec := { name := "latticeTells", fn := fun _ => fun
  | [d1, d2] => { results := [.lit (.bool false)], args := [d1, d2] }
  | _ => none }
def LatticeTellsWrongFalsely : Prop := latticeTellsRow.holds Try.pinned (OpenSpec.ofChange latticeTellsWrong)

/-- 'bushellaw17.LatticeCovers': WHATEVER THE INPUT: true; the input reads as it did. -/
def latticeCoversSpec : ChangeSpec := { name := "latticeCovers", fn := fun _ => fun
  | [d1, d2, d3] => { results := [.lit (.bool true)], args := [d1, d2, d3] }
  | _ => none }
def latticeCoversRow : OpenClaim := { program := "ytmnlaekcojblkaa", sum := "0784250131931b71000e4d5f7275b1ba7031b463081da2aafd7d286d967edbfc", func := "bushel/bushellaw17.LatticeCovers", spec := "latticeCovers", recurses := true, apart := false }
def LatticeCoversSaid : Prop := latticeCoversRow.holds Try.pinned (OpenSpec.ofChange latticeCoversSpec)

/-- ITS FALSE NEIGHBOUR: 'it returns false'. Refute it at one input. -/
def latticeCoversWrong : ChangeSpec := { name := "latticeCovers", fn := fun _ => fun
  | [d1, d2, d3] => { results := [.lit (.bool false)], args := [d1, d2, d3] }
  | _ => none }
def LatticeCoversWrongFalsely : Prop := latticeCoversRow.holds Try.pinned (OpenSpec.ofChange latticeCoversWrong)

/-- 'bushellaw17.LatticeCloses': WHATEVER THE INPUT: true; the input reads as it did. -/
def latticeClosesSpec : ChangeSpec := { name := "latticeCloses", fn := fun _ => fun
  | [d1, d2] => { results := [.lit (.bool true)], args := [d1, d2] }
  | _ => none }
def latticeClosesRow : OpenClaim := { program := "ytmnlaekcojblkaa", sum := "0784250131931b71000e4d5f7275b1ba7031b463081da2aafd7d286d967edbfc", func := "bushel/bushellaw17.LatticeCloses", spec := "latticeCloses", recurses := true, apart := false }
def LatticeClosesSaid : Prop := latticeClosesRow.holds Try.pinned (OpenSpec.ofChange latticeClosesSpec)

/-- ITS FALSE NEIGHBOUR: 'it returns false'. Refute it at one input. -/
def latticeClosesWrong : ChangeSpec := { name := "latticeCloses", fn := fun _ => fun
  | [d1, d2] => { results := [.lit (.bool false)], args := [d1, d2] }
  | _ => none }
def LatticeClosesWrongFalsely : Prop := latticeClosesRow.holds Try.pinned (OpenSpec.ofChange latticeClosesWrong)

/-- 'bushellaw28.FilterNorms': WHATEVER THE INPUT: true; the input reads as it did. -/
def filterNormsSpec : ChangeSpec := { name := "filterNorms", fn := fun _ => fun
  | [d1, d2] => { results := [.lit (.bool true)], args := [d1, d2] }
  | _ => none }
def filterNormsRow : OpenClaim := { program := "ytmnlaekcojblkaa", sum := "0784250131931b71000e4d5f7275b1ba7031b463081da2aafd7d286d967edbfc", func := "bushel/bushellaw28.FilterNorms", spec := "filterNorms", recurses := true, apart := false }
def FilterNormsSaid : Prop := filterNormsRow.holds Try.pinned (OpenSpec.ofChange filterNormsSpec)

/-- ITS FALSE NEIGHBOUR: 'it returns false'. Refute it at one input. -/
def filterNormsWrong : ChangeSpec := { name := "filterNorms", fn := fun _ => fun
  | [d1, d2] => { results := [.lit (.bool false)], args := [d1, d2] }
  | _ => none }
def FilterNormsWrongFalsely : Prop := filterNormsRow.holds Try.pinned (OpenSpec.ofChange filterNormsWrong)

/-- 'bushellaw28.FilterPasses': WHATEVER THE INPUT: true; the input reads as it did. -/
def filterPassesSpec : ChangeSpec := { name := "filterPasses", fn := fun _ => fun
  | [d1, d2, d3] => { results := [.lit (.bool true)], args := [d1, d2, d3] }
  | _ => none }
def filterPassesRow : OpenClaim := { program := "ytmnlaekcojblkaa", sum := "0784250131931b71000e4d5f7275b1ba7031b463081da2aafd7d286d967edbfc", func := "bushel/bushellaw28.FilterPasses", spec := "filterPasses", recurses := true, apart := false }
def FilterPassesSaid : Prop := filterPassesRow.holds Try.pinned (OpenSpec.ofChange filterPassesSpec)

/-- ITS FALSE NEIGHBOUR: 'it returns false'. Refute it at one input. -/
def filterPassesWrong : ChangeSpec := { name := "filterPasses", fn := fun _ => fun
  | [d1, d2, d3] => { results := [.lit (.bool false)], args := [d1, d2, d3] }
  | _ => none }
def FilterPassesWrongFalsely : Prop := filterPassesRow.holds Try.pinned (OpenSpec.ofChange filterPassesWrong)

/-- 'bushellaw29.QueryChecks': WHATEVER THE INPUT: true; the input reads as it did. -/
def queryChecksSpec : ChangeSpec := { name := "queryChecks", fn := fun _ => fun
  | [d1, d2] => { results := [.lit (.bool true)], args := [d1, d2] }
  | _ => none }
def queryChecksRow : OpenClaim := { program := "ytmnlaekcojblkaa", sum := "0784250131931b71000e4d5f7275b1ba7031b463081da2aafd7d286d967edbfc", func := "bushel/bushellaw29.QueryChecks", spec := "queryChecks", unfollowed := true, recurses := true, apart := false }
def QueryChecksSaid : Prop := queryChecksRow.holds Try.pinned (OpenSpec.ofChange queryChecksSpec)

/-- ITS FALSE NEIGHBOUR: 'it returns false'. Refute it at one input. -/
def queryChecksWrong : ChangeSpec := { name := "queryChecks", fn := fun _ => fun
  | [d1, d2] => { results := [.lit (.bool false)], args := [d1, d2] }
  | _ => none }
def QueryChecksWrongFalsely : Prop := queryChecksRow.holds Try.pinned (OpenSpec.ofChange queryChecksWrong)

/-- 'bushellaw29.QuerySame': WHATEVER THE INPUT: true; the input reads as it did. -/
def querySameSpec : ChangeSpec := { name := "querySame", fn := fun _ => fun
  | [d1, d2] => { results := [.lit (.bool true)], args := [d1, d2] }
  | _ => none }
def querySameRow : OpenClaim := { program := "ytmnlaekcojblkaa", sum := "0784250131931b71000e4d5f7275b1ba7031b463081da2aafd7d286d967edbfc", func := "bushel/bushellaw29.QuerySame", spec := "querySame", unfollowed := true, recurses := true, apart := false }
def QuerySameSaid : Prop := querySameRow.holds Try.pinned (OpenSpec.ofChange querySameSpec)

/-- ITS FALSE NEIGHBOUR: 'it returns false'. Refute it at one input. -/
def querySameWrong : ChangeSpec := { name := "querySame", fn := fun _ => fun
  | [d1, d2] => { results := [.lit (.bool false)], args := [d1, d2] }
  | _ => none }
def QuerySameWrongFalsely : Prop := querySameRow.holds Try.pinned (OpenSpec.ofChange querySameWrong)

/- THE SECOND FORM. 'bulk': how many values and letters a reading holds, each counted each time it is reached (what is shared counts as often as it is met; a slice's spare places count too). A statement '..UptoSaid' is the law's where the arguments, and the package variables that the reading takes, are together of bulk at most 1048576: NARROWER than '..Said'. Prove '..Said' where nothing that the law and all that it calls make is longer than what came in: it says more and counts as full. Else prove '..UptoSaid'. A law counts once. -/
mutual
def uptoBulk {H : Type} : DataW H → Nat
  | .lit (.string bytes) => bytes.length + 1
  | .lit _ => 1
  | .nil => 1
  | .ptr d => uptoBulk d + 1
  | .slice elems spare => uptoBulkAll elems + uptoBulkAll spare + 1
  | .agg parts => uptoBulkAll parts + 1
  | .iface _ d => uptoBulk d + 1
  | .map entries => uptoBulkEntries entries + 1
  | .held _ => 1
def uptoBulkAll {H : Type} : List (DataW H) → Nat
  | [] => 0
  | d :: r => uptoBulk d + uptoBulkAll r
def uptoBulkEntries {H : Type} : List (Lit × DataW H) → Nat
  | [] => 0
  | x :: r => uptoBulkEntry x + uptoBulkEntries r
def uptoBulkEntry {H : Type} : Lit × DataW H → Nat
  | (.string bytes, d) => bytes.length + uptoBulk d + 1
  | (_, d) => uptoBulk d + 1
 end
def uptoSmall : (H : Type) → List (DataW H) → Bool := fun _ ds => decide (uptoBulkAll ds ≤ 1048576)
def OpenSpec.upto (s : _root_.Go.ChangeSpec) : _root_.Go.OpenSpec := { _root_.Go.OpenSpec.ofChange s with cond := some uptoSmall }

/-- 'bushellaw33.OrderRows', WHERE WHAT IT READS IS OF BULK AT MOST 1048576: true; the input reads as it did. -/
def orderRowsUptoRow : OpenClaim := { program := "ytmnlaekcojblkaa", sum := "0784250131931b71000e4d5f7275b1ba7031b463081da2aafd7d286d967edbfc", func := "bushel/bushellaw33.OrderRows", spec := "orderRows", inPlace := ["math.Float64bits"], unfollowed := true, recurses := true, apart := false, narrowed := true }
def OrderRowsUptoSaid : Prop := orderRowsUptoRow.holds Try.pinned (OpenSpec.upto orderRowsSpec)

/-- 'bushellaw33.OrderKeys', WHERE WHAT IT READS IS OF BULK AT MOST 1048576: true; the input reads as it did. -/
def orderKeysUptoRow : OpenClaim := { program := "ytmnlaekcojblkaa", sum := "0784250131931b71000e4d5f7275b1ba7031b463081da2aafd7d286d967edbfc", func := "bushel/bushellaw33.OrderKeys", spec := "orderKeys", inPlace := ["math.Float64bits"], unfollowed := true, recurses := true, apart := false, narrowed := true }
def OrderKeysUptoSaid : Prop := orderKeysUptoRow.holds Try.pinned (OpenSpec.upto orderKeysSpec)

/-- 'bushellaw16.TourneyLeast', WHERE WHAT IT READS IS OF BULK AT MOST 1048576: true; the input reads as it did. -/
def tourneyLeastUptoRow : OpenClaim := { program := "ytmnlaekcojblkaa", sum := "0784250131931b71000e4d5f7275b1ba7031b463081da2aafd7d286d967edbfc", func := "bushel/bushellaw16.TourneyLeast", spec := "tourneyLeast", unfollowed := true, recurses := true, apart := false, narrowed := true }
def TourneyLeastUptoSaid : Prop := tourneyLeastUptoRow.holds Try.pinned (OpenSpec.upto tourneyLeastSpec)

/-- 'bushellaw16.TourneyMerges', WHERE WHAT IT READS IS OF BULK AT MOST 1048576: true; the input reads as it did. -/
def tourneyMergesUptoRow : OpenClaim := { program := "ytmnlaekcojblkaa", sum := "0784250131931b71000e4d5f7275b1ba7031b463081da2aafd7d286d967edbfc", func := "bushel/bushellaw16.TourneyMerges", spec := "tourneyMerges", inPlace := ["math.Float64bits"], unfollowed := true, recurses := true, apart := false, narrowed := true }
def TourneyMergesUptoSaid : Prop := tourneyMergesUptoRow.holds Try.pinned (OpenSpec.upto tourneyMergesSpec)

/-- 'bushellaw16.TourneyAgrees', WHERE WHAT IT READS IS OF BULK AT MOST 1048576: true; the input reads as it did. -/
def tourneyAgreesUptoRow : OpenClaim := { program := "ytmnlaekcojblkaa", sum := "0784250131931b71000e4d5f7275b1ba7031b463081da2aafd7d286d967edbfc", func := "bushel/bushellaw16.TourneyAgrees", spec := "tourneyAgrees", inPlace := ["math.Float64bits"], unfollowed := true, recurses := true, apart := false, narrowed := true }
def TourneyAgreesUptoSaid : Prop := tourneyAgreesUptoRow.holds Try.pinned (OpenSpec.upto tourneyAgreesSpec)

/-- 'bushellaw17.LatticeTells', WHERE WHAT IT READS IS OF BULK AT MOST 1048576: true; the input reads as it did. -/
def latticeTellsUptoRow : OpenClaim := { program := "ytmnlaekcojblkaa", sum := "0784250131931b71000e4d5f7275b1ba7031b463081da2aafd7d286d967edbfc", func := "bushel/bushellaw17.LatticeTells", spec := "latticeTells", recurses := true, apart := false, narrowed := true }
def LatticeTellsUptoSaid : Prop := latticeTellsUptoRow.holds Try.pinned (OpenSpec.upto latticeTellsSpec)

/-- 'bushellaw17.LatticeCovers', WHERE WHAT IT READS IS OF BULK AT MOST 1048576: true; the input reads as it did. -/
def latticeCoversUptoRow : OpenClaim := { program := "ytmnlaekcojblkaa", sum := "0784250131931b71000e4d5f7275b1ba7031b463081da2aafd7d286d967edbfc", func := "bushel/bushellaw17.LatticeCovers", spec := "latticeCovers", recurses := true, apart := false, narrowed := true }
def LatticeCoversUptoSaid : Prop := latticeCoversUptoRow.holds Try.pinned (OpenSpec.upto latticeCoversSpec)

/-- 'bushellaw17.LatticeCloses', WHERE WHAT IT READS IS OF BULK AT MOST 1048576: true; the input reads as it did. -/
def latticeClosesUptoRow : OpenClaim := { program := "ytmnlaekcojblkaa", sum := "0784250131931b71000e4d5f7275b1ba7031b463081da2aafd7d286d967edbfc", func := "bushel/bushellaw17.LatticeCloses", spec := "latticeCloses", recurses := true, apart := false, narrowed := true }
def LatticeClosesUptoSaid : Prop := latticeClosesUptoRow.holds Try.pinned (OpenSpec.upto latticeClosesSpec)

/-- 'bushellaw28.FilterNorms', WHERE WHAT IT READS IS OF BULK AT MOST 1048576: true; the input reads as it did. -/
def filterNormsUptoRow : OpenClaim := { program := "ytmnlaekcojblkaa", sum := "0784250131931b71000e4d5f7275b1ba7031b463081da2aafd7d286d967edbfc", func := "bushel/bushellaw28.FilterNorms", spec := "filterNorms", recurses := true, apart := false, narrowed := true }
def FilterNormsUptoSaid : Prop := filterNormsUptoRow.holds Try.pinned (OpenSpec.upto filterNormsSpec)

/-- 'bushellaw28.FilterPasses', WHERE WHAT IT READS IS OF BULK AT MOST 1048576: true; the input reads as it did. -/
def filterPassesUptoRow : OpenClaim := { program := "ytmnlaekcojblkaa", sum := "0784250131931b71000e4d5f7275b1ba7031b463081da2aafd7d286d967edbfc", func := "bushel/bushellaw28.FilterPasses", spec := "filterPasses", recurses := true, apart := false, narrowed := true }
def FilterPassesUptoSaid : Prop := filterPassesUptoRow.holds Try.pinned (OpenSpec.upto filterPassesSpec)

/-- 'bushellaw29.QueryChecks', WHERE WHAT IT READS IS OF BULK AT MOST 1048576: true; the input reads as it did. -/
def queryChecksUptoRow : OpenClaim := { program := "ytmnlaekcojblkaa", sum := "0784250131931b71000e4d5f7275b1ba7031b463081da2aafd7d286d967edbfc", func := "bushel/bushellaw29.QueryChecks", spec := "queryChecks", unfollowed := true, recurses := true, apart := false, narrowed := true }
def QueryChecksUptoSaid : Prop := queryChecksUptoRow.holds Try.pinned (OpenSpec.upto queryChecksSpec)

/-- 'bushellaw29.QuerySame', WHERE WHAT IT READS IS OF BULK AT MOST 1048576: true; the input reads as it did. -/
def querySameUptoRow : OpenClaim := { program := "ytmnlaekcojblkaa", sum := "0784250131931b71000e4d5f7275b1ba7031b463081da2aafd7d286d967edbfc", func := "bushel/bushellaw29.QuerySame", spec := "querySame", unfollowed := true, recurses := true, apart := false, narrowed := true }
def QuerySameUptoSaid : Prop := querySameUptoRow.holds Try.pinned (OpenSpec.upto querySameSpec)

end Rows
end Go.Proofs.Ytmnlaekcojblkaa
