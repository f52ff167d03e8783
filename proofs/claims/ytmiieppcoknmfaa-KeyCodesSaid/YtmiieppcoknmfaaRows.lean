/-
  No cell of these rows narrows 'for every input' (looked for: loops, veiled, ifaces, maps, wideKeys, modest, calm, conditions, laid).
  DERIVED. THE GIVEN ROWS OF THIS SEAT. 11 by the template 'for every input the law returns true; each argument reads behind the call as it read before'; 0 by the template 'total and deterministic' (their statements: YtmiieppcoknmfaaTotals.lean).
  GIVEN WITH THE SEED: the statements are not yours to turn. If you find one false, say at which input.
  Laid BY PROGRAM, IN A SANDBOX (cutbox-rows.mjs): the forced cells as the released guide's own fill.sh prints them over the translation 2bc03f6aa4517897… (all of the seat's roots in one cut). By AI agents, Wed Nov 11 2026. No macro, syntax, notation, axiom, sorry.
-/
import Derived.Test.YtmiieppcoknmfaaChecked
import GoSem.Claim
import GoSem.ClaimJoined
import GoSem.ClaimMapViews
import Derived.JoinedTies
import Derived.KernelRfl
namespace Go.Proofs.Ytmiieppcoknmfaa
/- THE CELL 'sum', in the pinned program and in every row, IS THE sha256 OF THE DUMP (.gsa) THAT YtmiieppcoknmfaaProg.lean LOADS. Nothing in Lean hashes anything: it is a label: what it is worth is what the hold of that sum in a sandbox is worth. -/
noncomputable def Try.pinned : Pinned := { name := "ytmiieppcoknmfaa", sum := "2bc03f6aa45178976745edceb44b5c87f04151c8ea8ea9b1b3c189c8028792bc", checked := Try.checked }
namespace Rows
def none {H : Type} : Left H := { results := [], args := [] }

/-- 'bushellaw13.KeyOf': WHATEVER THE INPUT: true; the input reads as it did. -/
def keyOfSpec : ChangeSpec := { name := "keyOf", fn := fun _ => fun
  | [d1, d2, d3] => { results := [.lit (.bool true)], args := [d1, d2, d3] }
  | _ => none }
def keyOfRow : OpenClaim := { program := "ytmiieppcoknmfaa", sum := "2bc03f6aa45178976745edceb44b5c87f04151c8ea8ea9b1b3c189c8028792bc", func := "bushel/bushellaw13.KeyOf", spec := "keyOf", apart := false }
def KeyOfSaid : Prop := keyOfRow.holds Try.pinned (OpenSpec.ofChange keyOfSpec)

/-- ITS FALSE NEIGHBOUR: 'it returns false'. Refute it at one input. -/
def keyOfWrong : ChangeSpec := { name := "keyOf", fn := fun _ => fun
  | [d1, d2, d3] => { results := [.lit (.bool false)], args := [d1, d2, d3] }
  | _ => none }
def KeyOfWrongFalsely : Prop := keyOfRow.holds Try.pinned (OpenSpec.ofChange keyOfWrong)

/-- 'bushellaw13.KeyOrders': WHATEVER THE INPUT: true; the input reads as it did. -/
def keyOrdersSpec : ChangeSpec := { name := "keyOrders", fn := fun _ => fun
  | [d1, d2, d3] => { results := [.lit (.bool true)], args := [d1, d2, d3] }
  | _ => none }
def keyOrdersRow : OpenClaim := { program := "ytmiieppcoknmfaa", sum := "2bc03f6aa45178976745edceb44b5c87f04151c8ea8ea9b1b3c189c8028792bc", func := "bushel/bushellaw13.KeyOrders", spec := "keyOrders", apart := false }
def KeyOrdersSaid : Prop := keyOrdersRow.holds Try.pinned (OpenSpec.ofChange keyOrdersSpec)

/-- ITS FALSE NEIGHBOUR: 'it returns false'. Refute it at one input. -/
def keyOrdersWrong : ChangeSpec := { name := "keyOrders", fn := fun _ => fun
  | [d1, d2, d3] => { results := [.lit (.bool false)], args := [d1, d2, d3] }
  | _ => none }
def KeyOrdersWrongFalsely : Prop := keyOrdersRow.holds Try.pinned (OpenSpec.ofChange keyOrdersWrong)

/-- 'bushellaw13.KeyCodes': WHATEVER THE INPUT: true; the input reads as it did. -/
def keyCodesSpec : ChangeSpec := { name := "keyCodes", fn := fun _ => fun
  | [d1, d2] => { results := [.lit (.bool true)], args := [d1, d2] }
  | _ => none }
def keyCodesRow : OpenClaim := { program := "ytmiieppcoknmfaa", sum := "2bc03f6aa45178976745edceb44b5c87f04151c8ea8ea9b1b3c189c8028792bc", func := "bushel/bushellaw13.KeyCodes", spec := "keyCodes", apart := false }
def KeyCodesSaid : Prop := keyCodesRow.holds Try.pinned (OpenSpec.ofChange keyCodesSpec)

/-- ITS FALSE NEIGHBOUR: 'it returns false'. Refute it at one input. -/
def keyCodesWrong : ChangeSpec := { name := "keyCodes", fn := fun _ => fun
  | [d1, d2] => { results := [.lit (.bool false)], args := [d1, d2] }
  | _ => none }
def KeyCodesWrongFalsely : Prop := keyCodesRow.holds Try.pinned (OpenSpec.ofChange keyCodesWrong)

/-- 'bushellaw13.KeyTwice': WHATEVER THE INPUT: true; the input reads as it did. -/
def keyTwiceSpec : ChangeSpec := { name := "keyTwice", fn := fun _ => fun
  | [d1, d2, d3] => { results := [.lit (.bool true)], args := [d1, d2, d3] }
  | _ => none }
def keyTwiceRow : OpenClaim := { program := "ytmiieppcoknmfaa", sum := "2bc03f6aa45178976745edceb44b5c87f04151c8ea8ea9b1b3c189c8028792bc", func := "bushel/bushellaw13.KeyTwice", spec := "keyTwice", apart := false }
def KeyTwiceSaid : Prop := keyTwiceRow.holds Try.pinned (OpenSpec.ofChange keyTwiceSpec)

/-- ITS FALSE NEIGHBOUR: 'it returns false'. Refute it at one input. -/
def keyTwiceWrong : ChangeSpec := { name := "keyTwice", fn := fun _ => fun
  | [d1, d2, d3] => { results := [.lit (.bool false)], args := [d1, d2, d3] }
  | _ => none }
def KeyTwiceWrongFalsely : Prop := keyTwiceRow.holds Try.pinned (OpenSpec.ofChange keyTwiceWrong)

/-- 'bushellaw30.PlanLeast': WHATEVER THE INPUT: true; the input reads as it did. -/
def planLeastSpec : ChangeSpec := { name := "planLeast", fn := fun _ => fun
  | [d1, d2, d3] => { results := [.lit (.bool true)], args := [d1, d2, d3] }
  | _ => none }
def planLeastRow : OpenClaim := { program := "ytmiieppcoknmfaa", sum := "2bc03f6aa45178976745edceb44b5c87f04151c8ea8ea9b1b3c189c8028792bc", func := "bushel/bushellaw30.PlanLeast", spec := "planLeast", apart := false }
def PlanLeastSaid : Prop := planLeastRow.holds Try.pinned (OpenSpec.ofChange planLeastSpec)

/-- ITS FALSE NEIGHBOUR: 'it returns false'. Refute it at one input. -/
def planLeastWrong : ChangeSpec := { name := "planLeast", fn := fun _ => fun
  | [d1, d2, d3] => { results := [.lit (.bool false)], args := [d1, d2, d3] }
  | _ => none }
def PlanLeastWrongFalsely : Prop := planLeastRow.holds Try.pinned (OpenSpec.ofChange planLeastWrong)

/-- 'bushellaw30.PlanPicks': WHATEVER THE INPUT: true; the input reads as it did. -/
def planPicksSpec : ChangeSpec := { name := "planPicks", fn := fun _ => fun
  | [d1, d2, d3] => { results := [.lit (.bool true)], args := [d1, d2, d3] }
  | _ => none }
def planPicksRow : OpenClaim := { program := "ytmiieppcoknmfaa", sum := "2bc03f6aa45178976745edceb44b5c87f04151c8ea8ea9b1b3c189c8028792bc", func := "bushel/bushellaw30.PlanPicks", spec := "planPicks", unfollowed := true, recurses := true, apart := false }
def PlanPicksSaid : Prop := planPicksRow.holds Try.pinned (OpenSpec.ofChange planPicksSpec)

/-- ITS FALSE NEIGHBOUR: 'it returns false'. Refute it at one input. -/
def planPicksWrong : ChangeSpec := { name := "planPicks", fn := fun _ => fun
  | [d1, d2, d3] => { results := [.lit (.bool false)], args := [d1, d2, d3] }
  | _ => none }
def PlanPicksWrongFalsely : Prop := planPicksRow.holds Try.pinned (OpenSpec.ofChange planPicksWrong)

/-- 'bushellaw17.LatticeTells': WHATEVER THE INPUT: true; the input reads as it did. -/
def latticeTellsSpec : ChangeSpec := { name := "latticeTells", fn := fun _ => fun
  | [d1, d2] => { results := [.lit (.bool true)], args := [d1, d2] }
  | _ => none }
def latticeTellsRow : OpenClaim := { program := "ytmiieppcoknmfaa", sum := "2bc03f6aa45178976745edceb44b5c87f04151c8ea8ea9b1b3c189c8028792bc", func := "bushel/bushellaw17.LatticeTells", spec := "latticeTells", recurses := true, apart := false }
def LatticeTellsSaid : Prop := latticeTellsRow.holds Try.pinned (OpenSpec.ofChange latticeTellsSpec)

/-- ITS FALSE NEIGHBOUR: 'it returns false'. Refute it at one input. -/
def latticeTellsWrong : ChangeSpec := { name := "latticeTells", fn := fun _ => fun
  | [d1, d2] => { results := [.lit (.bool false)], args := [d1, d2] }
  | _ => none }
def LatticeTellsWrongFalsely : Prop := latticeTellsRow.holds Try.pinned (OpenSpec.ofChange latticeTellsWrong)

/-- 'bushellaw17.LatticeCloses': WHATEVER THE INPUT: true; the input reads as it did. -/
def latticeClosesSpec : ChangeSpec := { name := "latticeCloses", fn := fun _ => fun
  | [d1, d2] => { results := [.lit (.bool true)], args := [d1, d2] }
  | _ => none }
def latticeClosesRow : OpenClaim := { program := "ytmiieppcoknmfaa", sum := "2bc03f6aa45178976745edceb44b5c87f04151c8ea8ea9b1b3c189c8028792bc", func := "bushel/bushellaw17.LatticeCloses", spec := "latticeCloses", recurses := true, apart := false }
def LatticeClosesSaid : Prop := latticeClosesRow.holds Try.pinned (OpenSpec.ofChange latticeClosesSpec)

/-- ITS FALSE NEIGHBOUR: 'it returns false'. Refute it at one input. -/
def latticeClosesWrong : ChangeSpec := { name := "latticeCloses", fn := fun _ => fun
  | [d1, d2] => { results := [.lit (.bool false)], args := [d1, d2] }
  | _ => none }
def LatticeClosesWrongFalsely : Prop := latticeClosesRow.holds Try.pinned (OpenSpec.ofChange latticeClosesWrong)

/-- 'bushellaw17.LatticeCovers': WHATEVER THE INPUT: true; the input reads as it did. -/
def latticeCoversSpec : ChangeSpec := { name := "latticeCovers", fn := fun _ => fun
  | [d1, d2, d3] => { results := [.lit (.bool true)], args := [d1, d2, d3] }
  | _ => none }
def latticeCoversRow : OpenClaim := { program := "ytmiieppcoknmfaa", sum := "2bc03f6aa45178976745edceb44b5c87f04151c8ea8ea9b1b3c189c8028792bc", func := "bushel/bushellaw17.LatticeCovers", spec := "latticeCovers", recurses := true, apart := false }
def LatticeCoversSaid : Prop := latticeCoversRow.holds Try.pinned (OpenSpec.ofChange latticeCoversSpec)

/-- ITS FALSE NEIGHBOUR: 'it returns false'. Refute it at one input. -/
def latticeCoversWrong : ChangeSpec := { name := "latticeCovers", fn := fun _ => fun
  | [d1, d2, d3] => { results := [.lit (.bool false)], args := [d1, d2, d3] }
  | _ => none }
def LatticeCoversWrongFalsely : Prop := latticeCoversRow.holds Try.pinned (OpenSpec.ofChange latticeCoversWrong)

/-- 'bushellaw24.FreeNobody': WHATEVER THE INPUT: true; the input reads as it did. -/
def freeNobodySpec : ChangeSpec := { name := "freeNobody", fn := fun _ => fun
  | [d1, d2] => { results := [.lit (.bool true)], args := [d1, d2] }
  | _ => none }
def freeNobodyRow : OpenClaim := { program := "ytmiieppcoknmfaa", sum := "2bc03f6aa45178976745edceb44b5c87f04151c8ea8ea9b1b3c189c8028792bc", func := "bushel/bushellaw24.FreeNobody", spec := "freeNobody", unfollowed := true, recurses := true, apart := false }
def FreeNobodySaid : Prop := freeNobodyRow.holds Try.pinned (OpenSpec.ofChange freeNobodySpec)

/-- ITS FALSE NEIGHBOUR: 'it returns false'. Refute it at one input. -/
def freeNobodyWrong : ChangeSpec := { name := "freeNobody", fn := fun _ => fun
  | [d1, d2] => { results := [.lit (.bool false)], args := [d1, d2] }
  | _ => none }
def FreeNobodyWrongFalsely : Prop := freeNobodyRow.holds Try.pinned (OpenSpec.ofChange freeNobodyWrong)

/-- 'bushellaw24.FreeDoes': WHATEVER THE INPUT: true; the input reads as it did. -/
def freeDoesSpec : ChangeSpec := { name := "freeDoes", fn := fun _ => fun
  | [d1, d2, d3] => { results := [.lit (.bool true)], args := [d1, d2, d3] }
  | _ => none }
def freeDoesRow : OpenClaim := { program := "ytmiieppcoknmfaa", sum := "2bc03f6aa45178976745edceb44b5c87f04151c8ea8ea9b1b3c189c8028792bc", func := "bushel/bushellaw24.FreeDoes", spec := "freeDoes", unfollowed := true, recurses := true, apart := false }
def FreeDoesSaid : Prop := freeDoesRow.holds Try.pinned (OpenSpec.ofChange freeDoesSpec)

/-- ITS FALSE NEIGHBOUR: 'it returns false'. Refute it at one input. -/
def freeDoesWrong : ChangeSpec := { name := "freeDoes", fn := fun _ => fun
  | [d1, d2, d3] => { results := [.lit (.bool false)], args := [d1, d2, d3] }
  | _ => none }
def FreeDoesWrongFalsely : Prop := freeDoesRow.holds Try.pinned (OpenSpec.ofChange freeDoesWrong)

/- THE SECOND FORM. 'bulk': how many values and letters a reading holds, each counted each time it is reached (what is shared counts as often as it is met; a slice's spare places count too). A statement '..UptoSaid' is the law's where the arguments, and the package variables that the reading takes, are together of bulk at most 1048576: NARROWER than '..Said'. Prove '..Said' where nothing that the law and all that it calls make is longer than what came in: it says more and counts as full. Else prove '..UptoSaid'. A law counts once. -/
mutual
def uptoBulk {H : Type} : DataW H → Nat
  | .lit (.string bytes) => bytes.length + 1
  | .lit _ => 1
  | .nil => 1
  | .ptr d => uptoBulk d + 1
  | .slice elems spare => uptoBulkAll elems + uptoBulkAll spare + 1
  | .agg parts => uptoBulkAll parts + 1
  | .iface _ d => uptoBulk d + 1
  | .map entries => uptoBulkEntries entries + 1
  | .held _ => 1
def uptoBulkAll {H : Type} : List (DataW H) → Nat
  | [] => 0
  | d :: r => uptoBulk d + uptoBulkAll r
def uptoBulkEntries {H : Type} : List (Lit × DataW H) → Nat
  | [] => 0
  | x :: r => uptoBulkEntry x + uptoBulkEntries r
def uptoBulkEntry {H : Type} : Lit × DataW H → Nat
  | (.string bytes, d) => bytes.length + uptoBulk d + 1
  | (_, d) => uptoBulk d + 1
 end
def uptoSmall : (H : Type) → List (DataW H) → Bool := fun _ ds => decide (uptoBulkAll ds ≤ 1048576)
def OpenSpec.upto (s : _root_.Go.ChangeSpec) : _root_.Go.OpenSpec := { _root_.Go.OpenSpec.ofChange s with cond := some uptoSmall }

/-- 'bushellaw13.KeyOf', WHERE WHAT IT READS IS OF BULK AT MOST 1048576: true; the input reads as it did. -/
def keyOfUptoRow : OpenClaim := { program := "ytmiieppcoknmfaa", sum := "2bc03f6aa45178976745edceb44b5c87f04151c8ea8ea9b1b3c189c8028792bc", func := "bushel/bushellaw13.KeyOf", spec := "keyOf", apart := false, narrowed := true }
def KeyOfUptoSaid : Prop := keyOfUptoRow.holds Try.pinned (OpenSpec.upto keyOfSpec)

/-- 'bushellaw13.KeyOrders', WHERE WHAT IT READS IS OF BULK AT MOST 1048576: true; the input reads as it did. -/
def keyOrdersUptoRow : OpenClaim := { program := "ytmiieppcoknmfaa", sum := "2bc03f6aa45178976745edceb44b5c87f04151c8ea8ea9b1b3c189c8028792bc", func := "bushel/bushellaw13.KeyOrders", spec := "keyOrders", apart := false, narrowed := true }
def KeyOrdersUptoSaid : Prop := keyOrdersUptoRow.holds Try.pinned (OpenSpec.upto keyOrdersSpec)

/-- 'bushellaw13.KeyCodes', WHERE WHAT IT READS IS OF BULK AT MOST 1048576: true; the input reads as it did. -/
def keyCodesUptoRow : OpenClaim := { program := "ytmiieppcoknmfaa", sum := "2bc03f6aa45178976745edceb44b5c87f04151c8ea8ea9b1b3c189c8028792bc", func := "bushel/bushellaw13.KeyCodes", spec := "keyCodes", apart := false, narrowed := true }
def KeyCodesUptoSaid : Prop := keyCodesUptoRow.holds Try.pinned (OpenSpec.upto keyCodesSpec)

/-- 'bushellaw13.KeyTwice', WHERE WHAT IT READS IS OF BULK AT MOST 1048576: true; the input reads as it did. -/
def keyTwiceUptoRow : OpenClaim := { program := "ytmiieppcoknmfaa", sum := "2bc03f6aa45178976745edceb44b5c87f04151c8ea8ea9b1b3c189c8028792bc", func := "bushel/bushellaw13.KeyTwice", spec := "keyTwice", apart := false, narrowed := true }
def KeyTwiceUptoSaid : Prop := keyTwiceUptoRow.holds Try.pinned (OpenSpec.upto keyTwiceSpec)

/-- 'bushellaw30.PlanLeast', WHERE WHAT IT READS IS OF BULK AT MOST 1048576: true; the input reads as it did. -/
def planLeastUptoRow : OpenClaim := { program := "ytmiieppcoknmfaa", sum := "2bc03f6aa45178976745edceb44b5c87f04151c8ea8ea9b1b3c189c8028792bc", func := "bushel/bushellaw30.PlanLeast", spec := "planLeast", apart := false, narrowed := true }
def PlanLeastUptoSaid : Prop := planLeastUptoRow.holds Try.pinned (OpenSpec.upto planLeastSpec)

/-- 'bushellaw30.PlanPicks', WHERE WHAT IT READS IS OF BULK AT MOST 1048576: true; the input reads as it did. -/
def planPicksUptoRow : OpenClaim := { program := "ytmiieppcoknmfaa", sum := "2bc03f6aa45178976745edceb44b5c87f04151c8ea8ea9b1b3c189c8028792bc", func := "bushel/bushellaw30.PlanPicks", spec := "planPicks", unfollowed := true, recurses := true, apart := false, narrowed := true }
def PlanPicksUptoSaid : Prop := planPicksUptoRow.holds Try.pinned (OpenSpec.upto planPicksSpec)

/-- 'bushellaw17.LatticeTells', WHERE WHAT IT READS IS OF BULK AT MOST 1048576: true; the input reads as it did. -/
def latticeTellsUptoRow : OpenClaim := { program := "ytmiieppcoknmfaa", sum := "2bc03f6aa45178976745edceb44b5c87f04151c8ea8ea9b1b3c189c8028792bc", func := "bushel/bushellaw17.LatticeTells", spec := "latticeTells", recurses := true, apart := false, narrowed := true }
def LatticeTellsUptoSaid : Prop := latticeTellsUptoRow.holds Try.pinned (OpenSpec.upto latticeTellsSpec)

/-- 'bushellaw17.LatticeCloses', WHERE WHAT IT READS IS OF BULK AT MOST 1048576: true; the input reads as it did. -/
def latticeClosesUptoRow : OpenClaim := { program := "ytmiieppcoknmfaa", sum := "2bc03f6aa45178976745edceb44b5c87f04151c8ea8ea9b1b3c189c8028792bc", func := "bushel/bushellaw17.LatticeCloses", spec := "latticeCloses", recurses := true, apart := false, narrowed := true }
def LatticeClosesUptoSaid : Prop := latticeClosesUptoRow.holds Try.pinned (OpenSpec.upto latticeClosesSpec)

/-- 'bushellaw17.LatticeCovers', WHERE WHAT IT READS IS OF BULK AT MOST 1048576: true; the input reads as it did. -/
def latticeCoversUptoRow : OpenClaim := { program := "ytmiieppcoknmfaa", sum := "2bc03f6aa45178976745edceb44b5c87f04151c8ea8ea9b1b3c189c8028792bc", func := "bushel/bushellaw17.LatticeCovers", spec := "latticeCovers", recurses := true, apart := false, narrowed := true }
def LatticeCoversUptoSaid : Prop := latticeCoversUptoRow.holds Try.pinned (OpenSpec.upto latticeCoversSpec)

/-- 'bushellaw24.FreeNobody', WHERE WHAT IT READS IS OF BULK AT MOST 1048576: true; the input reads as it did. -/
def freeNobodyUptoRow : OpenClaim := { program := "ytmiieppcoknmfaa", sum := "2bc03f6aa45178976745edceb44b5c87f04151c8ea8ea9b1b3c189c8028792bc", func := "bushel/bushellaw24.FreeNobody", spec := "freeNobody", unfollowed := true, recurses := true, apart := false, narrowed := true }
def FreeNobodyUptoSaid : Prop := freeNobodyUptoRow.holds Try.pinned (OpenSpec.upto freeNobodySpec)

/-- 'bushellaw24.FreeDoes', WHERE WHAT IT READS IS OF BULK AT MOST 1048576: true; the input reads as it did. -/
def freeDoesUptoRow : OpenClaim := { program := "ytmiieppcoknmfaa", sum := "2bc03f6aa45178976745edceb44b5c87f04151c8ea8ea9b1b3c189c8028792bc", func := "bushel/bushellaw24.FreeDoes", spec := "freeDoes", unfollowed := true, recurses := true, apart := false, narrowed := true }
def FreeDoesUptoSaid : Prop := freeDoesUptoRow.holds Try.pinned (OpenSpec.upto freeDoesSpec)

end Rows
end Go.Proofs.Ytmiieppcoknmfaa
