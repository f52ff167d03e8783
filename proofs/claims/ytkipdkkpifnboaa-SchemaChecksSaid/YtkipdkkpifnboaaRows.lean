/-
  No cell of these rows narrows 'for every input' (looked for: loops, veiled, ifaces, maps, wideKeys, modest, calm, conditions, laid).
  DERIVED. THE GIVEN ROWS OF THIS SEAT. 12 by the template 'for every input the law returns true; each argument reads behind the call as it read before'; 0 by the template 'total and deterministic' (their statements: YtkipdkkpifnboaaTotals.lean).
  GIVEN WITH THE SEED: the statements are not yours to turn. If you find one false, say at which input.
  Laid BY PROGRAM, IN A SANDBOX (cutbox-rows.mjs): the forced cells as the released guide's own fill.sh prints them over the translation a66b31a14100470f… (all of the seat's roots in one cut). By AI agents, Wed Nov 11 2026. No macro, syntax, notation, axiom, sorry.
-/
import Derived.Test.YtkipdkkpifnboaaChecked
import GoSem.Claim
import GoSem.ClaimJoined
import GoSem.ClaimMapViews
import Derived.JoinedTies
import Derived.KernelRfl
namespace Go.Proofs.Ytkipdkkpifnboaa
/- THE CELL 'sum', in the pinned program and in every row, IS THE sha256 OF THE DUMP (.gsa) THAT YtkipdkkpifnboaaProg.lean LOADS. Nothing in Lean hashes anything: it is a label: what it is worth is what the hold of that sum in a sandbox is worth. -/
noncomputable def Try.pinned : Pinned := { name := "ytkipdkkpifnboaa", sum := "a66b31a14100470f1e5c9f400a6398271d94424a2107283f5bb61eb14fdd8ea7", checked := Try.checked }
namespace Rows
def none {H : Type} : Left H := { results := [], args := [] }

/-- 'bushellaw18.AdviseCosts': WHATEVER THE INPUT: true; the input reads as it did. -/
def adviseCostsSpec : ChangeSpec := { name := "adviseCosts", fn := fun _ => fun
  | [d1, d2, d3] => { results := [.lit (.bool true)], args := [d1, d2, d3] }
  | _ => none }
def adviseCostsRow : OpenClaim := { program := "ytkipdkkpifnboaa", sum := "a66b31a14100470f1e5c9f400a6398271d94424a2107283f5bb61eb14fdd8ea7", func := "bushel/bushellaw18.AdviseCosts", spec := "adviseCosts", plainKeys := false, apart := false }
def AdviseCostsSaid : Prop := adviseCostsRow.holds Try.pinned (OpenSpec.ofChange adviseCostsSpec)

/-- ITS FALSE NEIGHBOUR: 'it returns false'. Refute it at one input. -/
def adviseCostsWrong : ChangeSpec := { name := "adviseCosts", fn := fun _ => fun
  | [d1, d2, d3] => { results := [.lit (.bool false)], args := [d1, d2, d3] }
  | _ => none }
def AdviseCostsWrongFalsely : Prop := adviseCostsRow.holds Try.pinned (OpenSpec.ofChange adviseCostsWrong)

/-- 'bushellaw18.AdviseChooses': WHATEVER THE INPUT: true; the input reads as it did. -/
def adviseChoosesSpec : ChangeSpec := { name := "adviseChooses", fn := fun _ => fun
  | [d1, d2, d3] => { results := [.lit (.bool true)], args := [d1, d2, d3] }
  | _ => none }
def adviseChoosesRow : OpenClaim := { program := "ytkipdkkpifnboaa", sum := "a66b31a14100470f1e5c9f400a6398271d94424a2107283f5bb61eb14fdd8ea7", func := "bushel/bushellaw18.AdviseChooses", spec := "adviseChooses", plainKeys := false, apart := false }
def AdviseChoosesSaid : Prop := adviseChoosesRow.holds Try.pinned (OpenSpec.ofChange adviseChoosesSpec)

/-- ITS FALSE NEIGHBOUR: 'it returns false'. Refute it at one input. -/
def adviseChoosesWrong : ChangeSpec := { name := "adviseChooses", fn := fun _ => fun
  | [d1, d2, d3] => { results := [.lit (.bool false)], args := [d1, d2, d3] }
  | _ => none }
def AdviseChoosesWrongFalsely : Prop := adviseChoosesRow.holds Try.pinned (OpenSpec.ofChange adviseChoosesWrong)

/-- 'bushellaw18.AdviseGood': WHATEVER THE INPUT: true; the input reads as it did. -/
def adviseGoodSpec : ChangeSpec := { name := "adviseGood", fn := fun _ => fun
  | [d1, d2, d3] => { results := [.lit (.bool true)], args := [d1, d2, d3] }
  | _ => none }
def adviseGoodRow : OpenClaim := { program := "ytkipdkkpifnboaa", sum := "a66b31a14100470f1e5c9f400a6398271d94424a2107283f5bb61eb14fdd8ea7", func := "bushel/bushellaw18.AdviseGood", spec := "adviseGood", plainKeys := false, apart := false }
def AdviseGoodSaid : Prop := adviseGoodRow.holds Try.pinned (OpenSpec.ofChange adviseGoodSpec)

/-- ITS FALSE NEIGHBOUR: 'it returns false'. Refute it at one input. -/
def adviseGoodWrong : ChangeSpec := { name := "adviseGood", fn := fun _ => fun
  | [d1, d2, d3] => { results := [.lit (.bool false)], args := [d1, d2, d3] }
  | _ => none }
def AdviseGoodWrongFalsely : Prop := adviseGoodRow.holds Try.pinned (OpenSpec.ofChange adviseGoodWrong)

/-- 'bushellaw11.SchemaChecks': WHATEVER THE INPUT: true; the input reads as it did. -/
def schemaChecksSpec : ChangeSpec := { name := "schemaChecks", fn := fun _ => fun
  | [d1, d2] => { results := [.lit (.bool true)], args := [d1, d2] }
  | _ => none }
def schemaChecksRow : OpenClaim := { program := "ytkipdkkpifnboaa", sum := "a66b31a14100470f1e5c9f400a6398271d94424a2107283f5bb61eb14fdd8ea7", func := "bushel/bushellaw11.SchemaChecks", spec := "schemaChecks", plainKeys := false, apart := false }
def SchemaChecksSaid : Prop := schemaChecksRow.holds Try.pinned (OpenSpec.ofChange schemaChecksSpec)

/-- ITS FALSE NEIGHBOUR: 'it returns false'. Refute it at one input. -/
def schemaChecksWrong : ChangeSpec := { name := "schemaChecks", fn := fun _ => fun
  | [d1, d2] => { results := [.lit (.bool false)], args := [d1, d2] }
  | _ => none }
def SchemaChecksWrongFalsely : Prop := schemaChecksRow.holds Try.pinned (OpenSpec.ofChange schemaChecksWrong)

/-- 'bushellaw43.DiffRows': WHATEVER THE INPUT: true; the input reads as it did. -/
def diffRowsSpec : ChangeSpec := { name := "diffRows", fn := fun _ => fun
  | [d1, d2] => { results := [.lit (.bool true)], args := [d1, d2] }
  | _ => none }
def diffRowsRow : OpenClaim := { program := "ytkipdkkpifnboaa", sum := "a66b31a14100470f1e5c9f400a6398271d94424a2107283f5bb61eb14fdd8ea7", func := "bushel/bushellaw43.DiffRows", spec := "diffRows", inPlace := ["math.Float64bits"], unfollowed := true, recurses := true, plainKeys := false, apart := false }
def DiffRowsSaid : Prop := diffRowsRow.holds Try.pinned (OpenSpec.ofChange diffRowsSpec)

/-- ITS FALSE NEIGHBOUR: 'it returns false'. Refute it at one input. -/
def diffRowsWrong : ChangeSpec := { name := "diffRows", fn := fun _ => fun
  | [d1, d2] => { results := [.lit (.bool false)], args := [d1, d2] }
  | _ => none }
def DiffRowsWrongFalsely : Prop := diffRowsRow.holds Try.pinned (OpenSpec.ofChange diffRowsWrong)

/-- 'bushellaw19.DiskKeeps': WHATEVER THE INPUT: true; the input reads as it did. -/
def diskKeepsSpec : ChangeSpec := { name := "diskKeeps", fn := fun _ => fun
  | [d1, d2, d3] => { results := [.lit (.bool true)], args := [d1, d2, d3] }
  | _ => none }
def diskKeepsRow : OpenClaim := { program := "ytkipdkkpifnboaa", sum := "a66b31a14100470f1e5c9f400a6398271d94424a2107283f5bb61eb14fdd8ea7", func := "bushel/bushellaw19.DiskKeeps", spec := "diskKeeps", plainKeys := false, apart := false }
def DiskKeepsSaid : Prop := diskKeepsRow.holds Try.pinned (OpenSpec.ofChange diskKeepsSpec)

/-- ITS FALSE NEIGHBOUR: 'it returns false'. Refute it at one input. -/
def diskKeepsWrong : ChangeSpec := { name := "diskKeeps", fn := fun _ => fun
  | [d1, d2, d3] => { results := [.lit (.bool false)], args := [d1, d2, d3] }
  | _ => none }
def DiskKeepsWrongFalsely : Prop := diskKeepsRow.holds Try.pinned (OpenSpec.ofChange diskKeepsWrong)

/-- 'bushellaw43.DiffSchemas': WHATEVER THE INPUT: true; the input reads as it did. -/
def diffSchemasSpec : ChangeSpec := { name := "diffSchemas", fn := fun _ => fun
  | [d1, d2] => { results := [.lit (.bool true)], args := [d1, d2] }
  | _ => none }
def diffSchemasRow : OpenClaim := { program := "ytkipdkkpifnboaa", sum := "a66b31a14100470f1e5c9f400a6398271d94424a2107283f5bb61eb14fdd8ea7", func := "bushel/bushellaw43.DiffSchemas", spec := "diffSchemas", inPlace := ["math.Float64bits"], unfollowed := true, recurses := true, plainKeys := false, apart := false }
def DiffSchemasSaid : Prop := diffSchemasRow.holds Try.pinned (OpenSpec.ofChange diffSchemasSpec)

/-- ITS FALSE NEIGHBOUR: 'it returns false'. Refute it at one input. -/
def diffSchemasWrong : ChangeSpec := { name := "diffSchemas", fn := fun _ => fun
  | [d1, d2] => { results := [.lit (.bool false)], args := [d1, d2] }
  | _ => none }
def DiffSchemasWrongFalsely : Prop := diffSchemasRow.holds Try.pinned (OpenSpec.ofChange diffSchemasWrong)

/-- 'bushellaw19.DiskDoes': WHATEVER THE INPUT: true; the input reads as it did. -/
def diskDoesSpec : ChangeSpec := { name := "diskDoes", fn := fun _ => fun
  | [d1, d2] => { results := [.lit (.bool true)], args := [d1, d2] }
  | _ => none }
def diskDoesRow : OpenClaim := { program := "ytkipdkkpifnboaa", sum := "a66b31a14100470f1e5c9f400a6398271d94424a2107283f5bb61eb14fdd8ea7", func := "bushel/bushellaw19.DiskDoes", spec := "diskDoes", plainKeys := false, apart := false }
def DiskDoesSaid : Prop := diskDoesRow.holds Try.pinned (OpenSpec.ofChange diskDoesSpec)

/-- ITS FALSE NEIGHBOUR: 'it returns false'. Refute it at one input. -/
def diskDoesWrong : ChangeSpec := { name := "diskDoes", fn := fun _ => fun
  | [d1, d2] => { results := [.lit (.bool false)], args := [d1, d2] }
  | _ => none }
def DiskDoesWrongFalsely : Prop := diskDoesRow.holds Try.pinned (OpenSpec.ofChange diskDoesWrong)

/-- 'bushellaw19.DiskLoads': WHATEVER THE INPUT: true; the input reads as it did. -/
def diskLoadsSpec : ChangeSpec := { name := "diskLoads", fn := fun _ => fun
  | [d1, d2] => { results := [.lit (.bool true)], args := [d1, d2] }
  | _ => none }
def diskLoadsRow : OpenClaim := { program := "ytkipdkkpifnboaa", sum := "a66b31a14100470f1e5c9f400a6398271d94424a2107283f5bb61eb14fdd8ea7", func := "bushel/bushellaw19.DiskLoads", spec := "diskLoads", plainKeys := false, apart := false }
def DiskLoadsSaid : Prop := diskLoadsRow.holds Try.pinned (OpenSpec.ofChange diskLoadsSpec)

/-- ITS FALSE NEIGHBOUR: 'it returns false'. Refute it at one input. -/
def diskLoadsWrong : ChangeSpec := { name := "diskLoads", fn := fun _ => fun
  | [d1, d2] => { results := [.lit (.bool false)], args := [d1, d2] }
  | _ => none }
def DiskLoadsWrongFalsely : Prop := diskLoadsRow.holds Try.pinned (OpenSpec.ofChange diskLoadsWrong)

/-- 'bushellaw24.FreeSafe': WHATEVER THE INPUT: true; the input reads as it did. -/
def freeSafeSpec : ChangeSpec := { name := "freeSafe", fn := fun _ => fun
  | [d1, d2] => { results := [.lit (.bool true)], args := [d1, d2] }
  | _ => none }
def freeSafeRow : OpenClaim := { program := "ytkipdkkpifnboaa", sum := "a66b31a14100470f1e5c9f400a6398271d94424a2107283f5bb61eb14fdd8ea7", func := "bushel/bushellaw24.FreeSafe", spec := "freeSafe", unfollowed := true, recurses := true, plainKeys := false, apart := false }
def FreeSafeSaid : Prop := freeSafeRow.holds Try.pinned (OpenSpec.ofChange freeSafeSpec)

/-- ITS FALSE NEIGHBOUR: 'it returns false'. Refute it at one input. -/
def freeSafeWrong : ChangeSpec := { name := "freeSafe", fn := fun _ => fun
  | [d1, d2] => { results := [.lit (.bool false)], args := [d1, d2] }
  | _ => none }
def FreeSafeWrongFalsely : Prop := freeSafeRow.holds Try.pinned (OpenSpec.ofChange freeSafeWrong)

/-- 'bushellaw19.DiskClones': WHATEVER THE INPUT: true; the input reads as it did. -/
def diskClonesSpec : ChangeSpec := { name := "diskClones", fn := fun _ => fun
  | [d1, d2, d3] => { results := [.lit (.bool true)], args := [d1, d2, d3] }
  | _ => none }
def diskClonesRow : OpenClaim := { program := "ytkipdkkpifnboaa", sum := "a66b31a14100470f1e5c9f400a6398271d94424a2107283f5bb61eb14fdd8ea7", func := "bushel/bushellaw19.DiskClones", spec := "diskClones", plainKeys := false, apart := false }
def DiskClonesSaid : Prop := diskClonesRow.holds Try.pinned (OpenSpec.ofChange diskClonesSpec)

/-- ITS FALSE NEIGHBOUR: 'it returns false'. Refute it at one input. -/
def diskClonesWrong : ChangeSpec := { name := "diskClones", fn := fun _ => fun
  | [d1, d2, d3] => { results := [.lit (.bool false)], args := [d1, d2, d3] }
  | _ => none }
def DiskClonesWrongFalsely : Prop := diskClonesRow.holds Try.pinned (OpenSpec.ofChange diskClonesWrong)

/-- 'bushellaw19.DiskNobody': WHATEVER THE INPUT: true; the input reads as it did. -/
def diskNobodySpec : ChangeSpec := { name := "diskNobody", fn := fun _ => fun
  | [d] => { results := [.lit (.bool true)], args := [d] }
  | _ => none }
def diskNobodyRow : OpenClaim := { program := "ytkipdkkpifnboaa", sum := "a66b31a14100470f1e5c9f400a6398271d94424a2107283f5bb61eb14fdd8ea7", func := "bushel/bushellaw19.DiskNobody", spec := "diskNobody", plainKeys := false, apart := false }
def DiskNobodySaid : Prop := diskNobodyRow.holds Try.pinned (OpenSpec.ofChange diskNobodySpec)

/-- ITS FALSE NEIGHBOUR: 'it returns false'. Refute it at one input. -/
def diskNobodyWrong : ChangeSpec := { name := "diskNobody", fn := fun _ => fun
  | [d] => { results := [.lit (.bool false)], args := [d] }
  | _ => none }
def DiskNobodyWrongFalsely : Prop := diskNobodyRow.holds Try.pinned (OpenSpec.ofChange diskNobodyWrong)

/- THE SECOND FORM. 'bulk': how many values and letters a reading holds, each counted each time it is reached (what is shared counts as often as it is met; a slice's spare places count too). A statement '..UptoSaid' is the law's where the arguments, and the package variables that the reading takes, are together of bulk at most 1048576: NARROWER than '..Said'. Prove '..Said' where nothing that the law and all that it calls make is longer than what came in: it says more and counts as full. Else prove '..UptoSaid'. A law counts once. -/
mutual
def uptoBulk {H : Type} : DataW H → Nat
  | .lit (.string bytes) => bytes.length + 1
  | .lit _ => 1
  | .nil => 1
  | .ptr d => uptoBulk d + 1
  | .slice elems spare => uptoBulkAll elems + uptoBulkAll spare + 1
  | .agg parts => uptoBulkAll parts + 1
  | .iface _ d => uptoBulk d + 1
  | .map entries => uptoBulkEntries entries + 1
  | .held _ => 1
def uptoBulkAll {H : Type} : List (DataW H) → Nat
  | [] => 0
  | d :: r => uptoBulk d + uptoBulkAll r
def uptoBulkEntries {H : Type} : List (Lit × DataW H) → Nat
  | [] => 0
  | x :: r => uptoBulkEntry x + uptoBulkEntries r
def uptoBulkEntry {H : Type} : Lit × DataW H → Nat
  | (.string bytes, d) => bytes.length + uptoBulk d + 1
  | (_, d) => uptoBulk d + 1
 end
def uptoSmall : (H : Type) → List (DataW H) → Bool := fun _ ds => decide (uptoBulkAll ds ≤ 1048576)
def OpenSpec.upto (s : _root_.Go.ChangeSpec) : _root_.Go.OpenSpec := { _root_.Go.OpenSpec.ofChange s with cond := some uptoSmall }

/-- 'bushellaw18.AdviseCosts', WHERE WHAT IT READS IS OF BULK AT MOST 1048576: true; the input reads as it did. -/
def adviseCostsUptoRow : OpenClaim := { program := "ytkipdkkpifnboaa", sum := "a66b31a14100470f1e5c9f400a6398271d94424a2107283f5bb61eb14fdd8ea7", func := "bushel/bushellaw18.AdviseCosts", spec := "adviseCosts", plainKeys := false, apart := false, narrowed := true }
def AdviseCostsUptoSaid : Prop := adviseCostsUptoRow.holds Try.pinned (OpenSpec.upto adviseCostsSpec)

/-- 'bushellaw18.AdviseChooses', WHERE WHAT IT READS IS OF BULK AT MOST 1048576: true; the input reads as it did. -/
def adviseChoosesUptoRow : OpenClaim := { program := "ytkipdkkpifnboaa", sum := "a66b31a14100470f1e5c9f400a6398271d94424a2107283f5bb61eb14fdd8ea7", func := "bushel/bushellaw18.AdviseChooses", spec := "adviseChooses", plainKeys := false, apart := false, narrowed := true }
def AdviseChoosesUptoSaid : Prop := adviseChoosesUptoRow.holds Try.pinned (OpenSpec.upto adviseChoosesSpec)

/-- 'bushellaw18.AdviseGood', WHERE WHAT IT READS IS OF BULK AT MOST 1048576: true; the input reads as it did. -/
def adviseGoodUptoRow : OpenClaim := { program := "ytkipdkkpifnboaa", sum := "a66b31a14100470f1e5c9f400a6398271d94424a2107283f5bb61eb14fdd8ea7", func := "bushel/bushellaw18.AdviseGood", spec := "adviseGood", plainKeys := false, apart := false, narrowed := true }
def AdviseGoodUptoSaid : Prop := adviseGoodUptoRow.holds Try.pinned (OpenSpec.upto adviseGoodSpec)

/-- 'bushellaw11.SchemaChecks', WHERE WHAT IT READS IS OF BULK AT MOST 1048576: true; the input reads as it did. -/
def schemaChecksUptoRow : OpenClaim := { program := "ytkipdkkpifnboaa", sum := "a66b31a14100470f1e5c9f400a6398271d94424a2107283f5bb61eb14fdd8ea7", func := "bushel/bushellaw11.SchemaChecks", spec := "schemaChecks", plainKeys := false, apart := false, narrowed := true }
def SchemaChecksUptoSaid : Prop := schemaChecksUptoRow.holds Try.pinned (OpenSpec.upto schemaChecksSpec)

/-- 'bushellaw43.DiffRows', WHERE WHAT IT READS IS OF BULK AT MOST 1048576: true; the input reads as it did. -/
def diffRowsUptoRow : OpenClaim := { program := "ytkipdkkpifnboaa", sum := "a66b31a14100470f1e5c9f400a6398271d94424a2107283f5bb61eb14fdd8ea7", func := "bushel/bushellaw43.DiffRows", spec := "diffRows", inPlace := ["math.Float64bits"], unfollowed := true, recurses := true, plainKeys := false, apart := false, narrowed := true }
def DiffRowsUptoSaid : Prop := diffRowsUptoRow.holds Try.pinned (OpenSpec.upto diffRowsSpec)

/-- 'bushellaw19.DiskKeeps', WHERE WHAT IT READS IS OF BULK AT MOST 1048576: true; the input reads as it did. -/
def diskKeepsUptoRow : OpenClaim := { program := "ytkipdkkpifnboaa", sum := "a66b31a14100470f1e5c9f400a6398271d94424a2107283f5bb61eb14fdd8ea7", func := "bushel/bushellaw19.DiskKeeps", spec := "diskKeeps", plainKeys := false, apart := false, narrowed := true }
def DiskKeepsUptoSaid : Prop := diskKeepsUptoRow.holds Try.pinned (OpenSpec.upto diskKeepsSpec)

/-- 'bushellaw43.DiffSchemas', WHERE WHAT IT READS IS OF BULK AT MOST 1048576: true; the input reads as it did. -/
def diffSchemasUptoRow : OpenClaim := { program := "ytkipdkkpifnboaa", sum := "a66b31a14100470f1e5c9f400a6398271d94424a2107283f5bb61eb14fdd8ea7", func := "bushel/bushellaw43.DiffSchemas", spec := "diffSchemas", inPlace := ["math.Float64bits"], unfollowed := true, recurses := true, plainKeys := false, apart := false, narrowed := true }
def DiffSchemasUptoSaid : Prop := diffSchemasUptoRow.holds Try.pinned (OpenSpec.upto diffSchemasSpec)

/-- 'bushellaw19.DiskDoes', WHERE WHAT IT READS IS OF BULK AT MOST 1048576: true; the input reads as it did. -/
def diskDoesUptoRow : OpenClaim := { program := "ytkipdkkpifnboaa", sum := "a66b31a14100470f1e5c9f400a6398271d94424a2107283f5bb61eb14fdd8ea7", func := "bushel/bushellaw19.DiskDoes", spec := "diskDoes", plainKeys := false, apart := false, narrowed := true }
def DiskDoesUptoSaid : Prop := diskDoesUptoRow.holds Try.pinned (OpenSpec.upto diskDoesSpec)

/-- 'bushellaw19.DiskLoads', WHERE WHAT IT READS IS OF BULK AT MOST 1048576: true; the input reads as it did. -/
def diskLoadsUptoRow : OpenClaim := { program := "ytkipdkkpifnboaa", sum := "a66b31a14100470f1e5c9f400a6398271d94424a2107283f5bb61eb14fdd8ea7", func := "bushel/bushellaw19.DiskLoads", spec := "diskLoads", plainKeys := false, apart := false, narrowed := true }
def DiskLoadsUptoSaid : Prop := diskLoadsUptoRow.holds Try.pinned (OpenSpec.upto diskLoadsSpec)

/-- 'bushellaw24.FreeSafe', WHERE WHAT IT READS IS OF BULK AT MOST 1048576: true; the input reads as it did. -/
def freeSafeUptoRow : OpenClaim := { program := "ytkipdkkpifnboaa", sum := "a66b31a14100470f1e5c9f400a6398271d94424a2107283f5bb61eb14fdd8ea7", func := "bushel/bushellaw24.FreeSafe", spec := "freeSafe", unfollowed := true, recurses := true, plainKeys := false, apart := false, narrowed := true }
def FreeSafeUptoSaid : Prop := freeSafeUptoRow.holds Try.pinned (OpenSpec.upto freeSafeSpec)

/-- 'bushellaw19.DiskClones', WHERE WHAT IT READS IS OF BULK AT MOST 1048576: true; the input reads as it did. -/
def diskClonesUptoRow : OpenClaim := { program := "ytkipdkkpifnboaa", sum := "a66b31a14100470f1e5c9f400a6398271d94424a2107283f5bb61eb14fdd8ea7", func := "bushel/bushellaw19.DiskClones", spec := "diskClones", plainKeys := false, apart := false, narrowed := true }
def DiskClonesUptoSaid : Prop := diskClonesUptoRow.holds Try.pinned (OpenSpec.upto diskClonesSpec)

/-- 'bushellaw19.DiskNobody', WHERE WHAT IT READS IS OF BULK AT MOST 1048576: true; the input reads as it did. -/
def diskNobodyUptoRow : OpenClaim := { program := "ytkipdkkpifnboaa", sum := "a66b31a14100470f1e5c9f400a6398271d94424a2107283f5bb61eb14fdd8ea7", func := "bushel/bushellaw19.DiskNobody", spec := "diskNobody", plainKeys := false, apart := false, narrowed := true }
def DiskNobodyUptoSaid : Prop := diskNobodyUptoRow.holds Try.pinned (OpenSpec.upto diskNobodySpec)

end Rows
end Go.Proofs.Ytkipdkkpifnboaa
