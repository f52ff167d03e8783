/-
  No cell of these rows narrows 'for every input' (looked for: loops, veiled, ifaces, maps, wideKeys, modest, calm, conditions, laid).
  DERIVED. THE GIVEN ROWS OF THIS SEAT. 12 by the template 'for every input the law returns true; each argument reads behind the call as it read before'; 0 by the template 'total and deterministic' (their statements: YtdmfikedojgjbaaTotals.lean).
  GIVEN WITH THE SEED: the statements are not yours to turn. If you find one false, say at which input.
  Laid BY PROGRAM, IN A SANDBOX (cutbox-rows.mjs): the forced cells as the released guide's own fill.sh prints them over the translation 83dbd6228dc1775c… (all of the seat's roots in one cut). By AI agents, Wed Nov 11 2026. No macro, syntax, notation, axiom, sorry.
-/
import Derived.Test.YtdmfikedojgjbaaChecked
import GoSem.Claim
import GoSem.ClaimJoined
import GoSem.ClaimMapViews
import Derived.JoinedTies
import Derived.KernelRfl
namespace Go.Proofs.Ytdmfikedojgjbaa
/- THE CELL 'sum', in the pinned program and in every row, IS THE sha256 OF THE DUMP (.gsa) THAT YtdmfikedojgjbaaProg.lean LOADS. Nothing in Lean hashes anything: it is a label: what it is worth is what the hold of that sum in a sandbox is worth. -/
noncomputable def Try.pinned : Pinned := { name := "ytdmfikedojgjbaa", sum := "83dbd6228dc1775c6084ae3ebea2dcd670e5011494c2a1af90f3fd44d59f9b67", checked := Try.checked }
namespace Rows
def none {H : Type} : Left H := { results := [], args := [] }

/-- 'bushellaw19.DiskKeeps': WHATEVER THE INPUT: true; the input reads as it did. -/
def diskKeepsSpec : ChangeSpec := { name := "diskKeeps", fn := fun _ => fun
  | [d1, d2, d3] => { results := [.lit (.bool true)], args := [d1, d2, d3] }
  | _ => none }
def diskKeepsRow : OpenClaim := { program := "ytdmfikedojgjbaa", sum := "83dbd6228dc1775c6084ae3ebea2dcd670e5011494c2a1af90f3fd44d59f9b67", func := "bushel/bushellaw19.DiskKeeps", spec := "diskKeeps", plainKeys := false, apart := false }
def DiskKeepsSaid : Prop := diskKeepsRow.holds Try.pinned (OpenSpec.ofChange diskKeepsSpec)

/-- ITS FALSE NEIGHBOUR: 'it returns false'. Refute it at one input. -/
def diskKeepsWrong : ChangeSpec := { name := "diskKeeps", fn := fun _ => fun
  | [d1, d2, d3] => { results := [.lit (.bool false)], args := [d1, d2, d3] }
  | _ => none }
def DiskKeepsWrongFalsely : Prop := diskKeepsRow.holds Try.pinned (OpenSpec.ofChange diskKeepsWrong)

/-- 'bushellaw19.DiskDoes': WHATEVER THE INPUT: true; the input reads as it did. -/
def diskDoesSpec : ChangeSpec := { name := "diskDoes", fn := fun _ => fun
  | [d1, d2] => { results := [.lit (.bool true)], args := [d1, d2] }
  | _ => none }
def diskDoesRow : OpenClaim := { program := "ytdmfikedojgjbaa", sum := "83dbd6228dc1775c6084ae3ebea2dcd670e5011494c2a1af90f3fd44d59f9b67", func := "bushel/bushellaw19.DiskDoes", spec := "diskDoes", plainKeys := false, apart := false }
def DiskDoesSaid : Prop := diskDoesRow.holds Try.pinned (OpenSpec.ofChange diskDoesSpec)

/-- ITS FALSE NEIGHBOUR: 'it returns false'. Refute it at one input. -/
def diskDoesWrong : ChangeSpec := { name := "diskDoes", fn := fun _ => fun
  | [d1, d2] => { results := [.lit (.bool false)], args := [d1, d2] }
  | _ => none }
def DiskDoesWrongFalsely : Prop := diskDoesRow.holds Try.pinned (OpenSpec.ofChange diskDoesWrong)

/-- 'bushellaw19.DiskLoads': WHATEVER THE INPUT: true; the input reads as it did. -/
def diskLoadsSpec : ChangeSpec := { name := "diskLoads", fn := fun _ => fun
  | [d1, d2] => { results := [.lit (.bool true)], args := [d1, d2] }
  | _ => none }
def diskLoadsRow : OpenClaim := { program := "ytdmfikedojgjbaa", sum := "83dbd6228dc1775c6084ae3ebea2dcd670e5011494c2a1af90f3fd44d59f9b67", func := "bushel/bushellaw19.DiskLoads", spec := "diskLoads", plainKeys := false, apart := false }
def DiskLoadsSaid : Prop := diskLoadsRow.holds Try.pinned (OpenSpec.ofChange diskLoadsSpec)

/-- ITS FALSE NEIGHBOUR: 'it returns false'. Refute it at one input. -/
def diskLoadsWrong : ChangeSpec := { name := "diskLoads", fn := fun _ => fun
  | [d1, d2] => { results := [.lit (.bool false)], args := [d1, d2] }
  | _ => none }
def DiskLoadsWrongFalsely : Prop := diskLoadsRow.holds Try.pinned (OpenSpec.ofChange diskLoadsWrong)

/-- 'bushellaw19.DiskClones': WHATEVER THE INPUT: true; the input reads as it did. -/
def diskClonesSpec : ChangeSpec := { name := "diskClones", fn := fun _ => fun
  | [d1, d2, d3] => { results := [.lit (.bool true)], args := [d1, d2, d3] }
  | _ => none }
def diskClonesRow : OpenClaim := { program := "ytdmfikedojgjbaa", sum := "83dbd6228dc1775c6084ae3ebea2dcd670e5011494c2a1af90f3fd44d59f9b67", func := "bushel/bushellaw19.DiskClones", spec := "diskClones", plainKeys := false, apart := false }
def DiskClonesSaid : Prop := diskClonesRow.holds Try.pinned (OpenSpec.ofChange diskClonesSpec)

/-- ITS FALSE NEIGHBOUR: 'it returns false'. Refute it at one input. -/
def diskClonesWrong : ChangeSpec := { name := "diskClones", fn := fun _ => fun
  | [d1, d2, d3] => { results := [.lit (.bool false)], args := [d1, d2, d3] }
  | _ => none }
def DiskClonesWrongFalsely : Prop := diskClonesRow.holds Try.pinned (OpenSpec.ofChange diskClonesWrong)

/-- 'bushellaw19.DiskNobody': WHATEVER THE INPUT: true; the input reads as it did. -/
def diskNobodySpec : ChangeSpec := { name := "diskNobody", fn := fun _ => fun
  | [d] => { results := [.lit (.bool true)], args := [d] }
  | _ => none }
def diskNobodyRow : OpenClaim := { program := "ytdmfikedojgjbaa", sum := "83dbd6228dc1775c6084ae3ebea2dcd670e5011494c2a1af90f3fd44d59f9b67", func := "bushel/bushellaw19.DiskNobody", spec := "diskNobody", plainKeys := false, apart := false }
def DiskNobodySaid : Prop := diskNobodyRow.holds Try.pinned (OpenSpec.ofChange diskNobodySpec)

/-- ITS FALSE NEIGHBOUR: 'it returns false'. Refute it at one input. -/
def diskNobodyWrong : ChangeSpec := { name := "diskNobody", fn := fun _ => fun
  | [d] => { results := [.lit (.bool false)], args := [d] }
  | _ => none }
def DiskNobodyWrongFalsely : Prop := diskNobodyRow.holds Try.pinned (OpenSpec.ofChange diskNobodyWrong)

/-- 'bushellaw24.FreeSafe': WHATEVER THE INPUT: true; the input reads as it did. -/
def freeSafeSpec : ChangeSpec := { name := "freeSafe", fn := fun _ => fun
  | [d1, d2] => { results := [.lit (.bool true)], args := [d1, d2] }
  | _ => none }
def freeSafeRow : OpenClaim := { program := "ytdmfikedojgjbaa", sum := "83dbd6228dc1775c6084ae3ebea2dcd670e5011494c2a1af90f3fd44d59f9b67", func := "bushel/bushellaw24.FreeSafe", spec := "freeSafe", unfollowed := true, recurses := true, plainKeys := false, apart := false }
def FreeSafeSaid : Prop := freeSafeRow.holds Try.pinned (OpenSpec.ofChange freeSafeSpec)

/-- ITS FALSE NEIGHBOUR: 'it returns false'. Refute it at one input. -/
def freeSafeWrong : ChangeSpec := { name := "freeSafe", fn := fun _ => fun
  | [d1, d2] => { results := [.lit (.bool false)], args := [d1, d2] }
  | _ => none }
def FreeSafeWrongFalsely : Prop := freeSafeRow.holds Try.pinned (OpenSpec.ofChange freeSafeWrong)

/-- 'bushellaw24.FreeDoes': WHATEVER THE INPUT: true; the input reads as it did. -/
def freeDoesSpec : ChangeSpec := { name := "freeDoes", fn := fun _ => fun
  | [d1, d2, d3] => { results := [.lit (.bool true)], args := [d1, d2, d3] }
  | _ => none }
def freeDoesRow : OpenClaim := { program := "ytdmfikedojgjbaa", sum := "83dbd6228dc1775c6084ae3ebea2dcd670e5011494c2a1af90f3fd44d59f9b67", func := "bushel/bushellaw24.FreeDoes", spec := "freeDoes", unfollowed := true, recurses := true, plainKeys := false, apart := false }
def FreeDoesSaid : Prop := freeDoesRow.holds Try.pinned (OpenSpec.ofChange freeDoesSpec)

/-- ITS FALSE NEIGHBOUR: 'it returns false'. Refute it at one input. -/
def freeDoesWrong : ChangeSpec := { name := "freeDoes", fn := fun _ => fun
  | [d1, d2, d3] => { results := [.lit (.bool false)], args := [d1, d2, d3] }
  | _ => none }
def FreeDoesWrongFalsely : Prop := freeDoesRow.holds Try.pinned (OpenSpec.ofChange freeDoesWrong)

/-- 'bushellaw24.FreeNobody': WHATEVER THE INPUT: true; the input reads as it did. -/
def freeNobodySpec : ChangeSpec := { name := "freeNobody", fn := fun _ => fun
  | [d1, d2] => { results := [.lit (.bool true)], args := [d1, d2] }
  | _ => none }
def freeNobodyRow : OpenClaim := { program := "ytdmfikedojgjbaa", sum := "83dbd6228dc1775c6084ae3ebea2dcd670e5011494c2a1af90f3fd44d59f9b67", func := "bushel/bushellaw24.FreeNobody", spec := "freeNobody", unfollowed := true, recurses := true, plainKeys := false, apart := false }
def FreeNobodySaid : Prop := freeNobodyRow.holds Try.pinned (OpenSpec.ofChange freeNobodySpec)

/-- ITS FALSE NEIGHBOUR: 'it returns false'. Refute it at one input. -/
def freeNobodyWrong : ChangeSpec := { name := "freeNobody", fn := fun _ => fun
  | [d1, d2] => { results := [.lit (.bool false)], args := [d1, d2] }
  | _ => none }
def FreeNobodyWrongFalsely : Prop := freeNobodyRow.holds Try.pinned (OpenSpec.ofChange freeNobodyWrong)

/-- 'bushellaw43.DiffRows': WHATEVER THE INPUT: true; the input reads as it did. -/
def diffRowsSpec : ChangeSpec := { name := "diffRows", fn := fun _ => fun
  | [d1, d2] => { results := [.lit (.bool true)], args := [d1, d2] }
  | _ => none }
def diffRowsRow : OpenClaim := { program := "ytdmfikedojgjbaa", sum := "83dbd6228dc1775c6084ae3ebea2dcd670e5011494c2a1af90f3fd44d59f9b67", func := "bushel/bushellaw43.DiffRows", spec := "diffRows", inPlace := ["math.Float64bits"], unfollowed := true, recurses := true, plainKeys := false, apart := false }
def DiffRowsSaid : Prop := diffRowsRow.holds Try.pinned (OpenSpec.ofChange diffRowsSpec)

/-- ITS FALSE NEIGHBOUR: 'it returns false'. Refute it at one input. -/
def diffRowsWrong : ChangeSpec := { name := "diffRows", fn := fun _ => fun
  | [d1, d2] => { results := [.lit (.bool false)], args := [d1, d2] }
  | _ => none }
def DiffRowsWrongFalsely : Prop := diffRowsRow.holds Try.pinned (OpenSpec.ofChange diffRowsWrong)

/-- 'bushellaw43.DiffSchemas': WHATEVER THE INPUT: true; the input reads as it did. -/
def diffSchemasSpec : ChangeSpec := { name := "diffSchemas", fn := fun _ => fun
  | [d1, d2] => { results := [.lit (.bool true)], args := [d1, d2] }
  | _ => none }
def diffSchemasRow : OpenClaim := { program := "ytdmfikedojgjbaa", sum := "83dbd6228dc1775c6084ae3ebea2dcd670e5011494c2a1af90f3fd44d59f9b67", func := "bushel/bushellaw43.DiffSchemas", spec := "diffSchemas", inPlace := ["math.Float64bits"], unfollowed := true, recurses := true, plainKeys := false, apart := false }
def DiffSchemasSaid : Prop := diffSchemasRow.holds Try.pinned (OpenSpec.ofChange diffSchemasSpec)

/-- ITS FALSE NEIGHBOUR: 'it returns false'. Refute it at one input. -/
def diffSchemasWrong : ChangeSpec := { name := "diffSchemas", fn := fun _ => fun
  | [d1, d2] => { results := [.lit (.bool false)], args := [d1, d2] }
  | _ => none }
def DiffSchemasWrongFalsely : Prop := diffSchemasRow.holds Try.pinned (OpenSpec.ofChange diffSchemasWrong)

/-- 'bushellaw30.PlanLeast': WHATEVER THE INPUT: true; the input reads as it did. -/
def planLeastSpec : ChangeSpec := { name := "planLeast", fn := fun _ => fun
  | [d1, d2, d3] => { results := [.lit (.bool true)], args := [d1, d2, d3] }
  | _ => none }
def planLeastRow : OpenClaim := { program := "ytdmfikedojgjbaa", sum := "83dbd6228dc1775c6084ae3ebea2dcd670e5011494c2a1af90f3fd44d59f9b67", func := "bushel/bushellaw30.PlanLeast", spec := "planLeast", plainKeys := false, apart := false }
def PlanLeastSaid : Prop := planLeastRow.holds Try.pinned (OpenSpec.ofChange planLeastSpec)

/-- ITS FALSE NEIGHBOUR: 'it returns false'. Refute it at one input. -/
def planLeastWrong : ChangeSpec := { name := "planLeast", fn := fun _ => fun
  | [d1, d2, d3] => { results := [.lit (.bool false)], args := [d1, d2, d3] }
  | _ => none }
def PlanLeastWrongFalsely : Prop := planLeastRow.holds Try.pinned (OpenSpec.ofChange planLeastWrong)

/-- 'bushellaw30.PlanPicks': WHATEVER THE INPUT: true; the input reads as it did. -/
def planPicksSpec : ChangeSpec := { name := "planPicks", fn := fun _ => fun
  | [d1, d2, d3] => { results := [.lit (.bool true)], args := [d1, d2, d3] }
  | _ => none }
def planPicksRow : OpenClaim := { program := "ytdmfikedojgjbaa", sum := "83dbd6228dc1775c6084ae3ebea2dcd670e5011494c2a1af90f3fd44d59f9b67", func := "bushel/bushellaw30.PlanPicks", spec := "planPicks", unfollowed := true, recurses := true, plainKeys := false, apart := false }
def PlanPicksSaid : Prop := planPicksRow.holds Try.pinned (OpenSpec.ofChange planPicksSpec)

/-- ITS FALSE NEIGHBOUR: 'it returns false'. Refute it at one input. -/
def planPicksWrong : ChangeSpec := { name := "planPicks", fn := fun _ => fun
  | [d1, d2, d3] => { results := [.lit (.bool false)], args := [d1, d2, d3] }
  | _ => none }
def PlanPicksWrongFalsely : Prop := planPicksRow.holds Try.pinned (OpenSpec.ofChange planPicksWrong)

/- THE SECOND FORM. 'bulk': how many values and letters a reading holds, each counted each time it is reached (what is shared counts as often as it is met; a slice's spare places count too). A statement '..UptoSaid' is the law's where the arguments, and the package variables that the reading takes, are together of bulk at most 1048576: NARROWER than '..Said'. Prove '..Said' where nothing that the law and all that it calls make is longer than what came in: it says more and counts as full. Else prove '..UptoSaid'. A law counts once. -/
mutual
def uptoBulk {H : Type} : DataW H → Nat
  | .lit (.string bytes) => bytes.length + 1
  | .lit _ => 1
  | .nil => 1
  | .ptr d => uptoBulk d + 1
  | .slice elems spare => uptoBulkAll elems + uptoBulkAll spare + 1
  | .agg parts => uptoBulkAll parts + 1
  | .iface _ d => uptoBulk d + 1
  | .map entries => uptoBulkEntries entries + 1
  | .held _ => 1
def uptoBulkAll {H : Type} : List (DataW H) → Nat
  | [] => 0
  | d :: r => uptoBulk d + uptoBulkAll r
def uptoBulkEntries {H : Type} : List (Lit × DataW H) → Nat
  | [] => 0
  | x :: r => uptoBulkEntry x + uptoBulkEntries r
def uptoBulkEntry {H : Type} : Lit × DataW H → Nat
  | (.string bytes, d) => bytes.length + uptoBulk d + 1
  | (_, d) => uptoBulk d + 1
 end
def uptoSmall : (H : Type) → List (DataW H) → Bool := fun _ ds => decide (uptoBulkAll ds ≤ 1048576)
def OpenSpec.upto (s : _root_.Go.ChangeSpec) : _root_.Go.OpenSpec := { _root_.Go.OpenSpec.ofChange s with cond := some uptoSmall }

/-- 'bushellaw19.DiskKeeps', WHERE WHAT IT READS IS OF BULK AT MOST 1048576: true; the input reads as it did. -/
def diskKeepsUptoRow : OpenClaim := { program := "ytdmfikedojgjbaa", sum := "83dbd6228dc1775c6084ae3ebea2dcd670e5011494c2a1af90f3fd44d59f9b67", func := "bushel/bushellaw19.DiskKeeps", spec := "diskKeeps", plainKeys := false, apart := false, narrowed := true }
def DiskKeepsUptoSaid : Prop := diskKeepsUptoRow.holds Try.pinned (OpenSpec.upto diskKeepsSpec)

/-- 'bushellaw19.DiskDoes', WHERE WHAT IT READS IS OF BULK AT MOST 1048576: true; the input reads as it did. -/
def diskDoesUptoRow : OpenClaim := { program := "ytdmfikedojgjbaa", sum := "83dbd6228dc1775c6084ae3ebea2dcd670e5011494c2a1af90f3fd44d59f9b67", func := "bushel/bushellaw19.DiskDoes", spec := "diskDoes", plainKeys := false, apart := false, narrowed := true }
def DiskDoesUptoSaid : Prop := diskDoesUptoRow.holds Try.pinned (OpenSpec.upto diskDoesSpec)

/-- 'bushellaw19.DiskLoads', WHERE WHAT IT READS IS OF BULK AT MOST 1048576: true; the input reads as it did. -/
def diskLoadsUptoRow : OpenClaim := { program := "ytdmfikedojgjbaa", sum := "83dbd6228dc1775c6084ae3ebea2dcd670e5011494c2a1af90f3fd44d59f9b67", func := "bushel/bushellaw19.DiskLoads", spec := "diskLoads", plainKeys := false, apart := false, narrowed := true }
def DiskLoadsUptoSaid : Prop := diskLoadsUptoRow.holds Try.pinned (OpenSpec.upto diskLoadsSpec)

/-- 'bushellaw19.DiskClones', WHERE WHAT IT READS IS OF BULK AT MOST 1048576: true; the input reads as it did. -/
def diskClonesUptoRow : OpenClaim := { program := "ytdmfikedojgjbaa", sum := "83dbd6228dc1775c6084ae3ebea2dcd670e5011494c2a1af90f3fd44d59f9b67", func := "bushel/bushellaw19.DiskClones", spec := "diskClones", plainKeys := false, apart := false, narrowed := true }
def DiskClonesUptoSaid : Prop := diskClonesUptoRow.holds Try.pinned (OpenSpec.upto diskClonesSpec)

/-- 'bushellaw19.DiskNobody', WHERE WHAT IT READS IS OF BULK AT MOST 1048576: true; the input reads as it did. -/
def diskNobodyUptoRow : OpenClaim := { program := "ytdmfikedojgjbaa", sum := "83dbd6228dc1775c6084ae3ebea2dcd670e5011494c2a1af90f3fd44d59f9b67", func := "bushel/bushellaw19.DiskNobody", spec := "diskNobody", plainKeys := false, apart := false, narrowed := true }
def DiskNobodyUptoSaid : Prop := diskNobodyUptoRow.holds Try.pinned (OpenSpec.upto diskNobodySpec)

/-- 'bushellaw24.FreeSafe', WHERE WHAT IT READS IS OF BULK AT MOST 1048576: true; the input reads as it did. -/
def freeSafeUptoRow : OpenClaim := { program := "ytdmfikedojgjbaa", sum := "83dbd6228dc1775c6084ae3ebea2dcd670e5011494c2a1af90f3fd44d59f9b67", func := "bushel/bushellaw24.FreeSafe", spec := "freeSafe", unfollowed := true, recurses := true, plainKeys := false, apart := false, narrowed := true }
def FreeSafeUptoSaid : Prop := freeSafeUptoRow.holds Try.pinned (OpenSpec.upto freeSafeSpec)

/-- 'bushellaw24.FreeDoes', WHERE WHAT IT READS IS OF BULK AT MOST 1048576: true; the input reads as it did. -/
def freeDoesUptoRow : OpenClaim := { program := "ytdmfikedojgjbaa", sum := "83dbd6228dc1775c6084ae3ebea2dcd670e5011494c2a1af90f3fd44d59f9b67", func := "bushel/bushellaw24.FreeDoes", spec := "freeDoes", unfollowed := true, recurses := true, plainKeys := false, apart := false, narrowed := true }
def FreeDoesUptoSaid : Prop := freeDoesUptoRow.holds Try.pinned (OpenSpec.upto freeDoesSpec)

/-- 'bushellaw24.FreeNobody', WHERE WHAT IT READS IS OF BULK AT MOST 1048576: true; the input reads as it did. -/
def freeNobodyUptoRow : OpenClaim := { program := "ytdmfikedojgjbaa", sum := "83dbd6228dc1775c6084ae3ebea2dcd670e5011494c2a1af90f3fd44d59f9b67", func := "bushel/bushellaw24.FreeNobody", spec := "freeNobody", unfollowed := true, recurses := true, plainKeys := false, apart := false, narrowed := true }
def FreeNobodyUptoSaid : Prop := freeNobodyUptoRow.holds Try.pinned (OpenSpec.upto freeNobodySpec)

/-- 'bushellaw43.DiffRows', WHERE WHAT IT READS IS OF BULK AT MOST 1048576: true; the input reads as it did. -/
def diffRowsUptoRow : OpenClaim := { program := "ytdmfikedojgjbaa", sum := "83dbd6228dc1775c6084ae3ebea2dcd670e5011494c2a1af90f3fd44d59f9b67", func := "bushel/bushellaw43.DiffRows", spec := "diffRows", inPlace := ["math.Float64bits"], unfollowed := true, recurses := true, plainKeys := false, apart := false, narrowed := true }
def DiffRowsUptoSaid : Prop := diffRowsUptoRow.holds Try.pinned (OpenSpec.upto diffRowsSpec)

/-- 'bushellaw43.DiffSchemas', WHERE WHAT IT READS IS OF BULK AT MOST 1048576: true; the input reads as it did. -/
def diffSchemasUptoRow : OpenClaim := { program := "ytdmfikedojgjbaa", sum := "83dbd6228dc1775c6084ae3ebea2dcd670e5011494c2a1af90f3fd44d59f9b67", func := "bushel/bushellaw43.DiffSchemas", spec := "diffSchemas", inPlace := ["math.Float64bits"], unfollowed := true, recurses := true, plainKeys := false, apart := false, narrowed := true }
def DiffSchemasUptoSaid : Prop := diffSchemasUptoRow.holds Try.pinned (OpenSpec.upto diffSchemasSpec)

/-- 'bushellaw30.PlanLeast', WHERE WHAT IT READS IS OF BULK AT MOST 1048576: true; the input reads as it did. -/
def planLeastUptoRow : OpenClaim := { program := "ytdmfikedojgjbaa", sum := "83dbd6228dc1775c6084ae3ebea2dcd670e5011494c2a1af90f3fd44d59f9b67", func := "bushel/bushellaw30.PlanLeast", spec := "planLeast", plainKeys := false, apart := false, narrowed := true }
def PlanLeastUptoSaid : Prop := planLeastUptoRow.holds Try.pinned (OpenSpec.upto planLeastSpec)

/-- 'bushellaw30.PlanPicks', WHERE WHAT IT READS IS OF BULK AT MOST 1048576: true; the input reads as it did. -/
def planPicksUptoRow : OpenClaim := { program := "ytdmfikedojgjbaa", sum := "83dbd6228dc1775c6084ae3ebea2dcd670e5011494c2a1af90f3fd44d59f9b67", func := "bushel/bushellaw30.PlanPicks", spec := "planPicks", unfollowed := true, recurses := true, plainKeys := false, apart := false, narrowed := true }
def PlanPicksUptoSaid : Prop := planPicksUptoRow.holds Try.pinned (OpenSpec.upto planPicksSpec)

end Rows
end Go.Proofs.Ytdmfikedojgjbaa
