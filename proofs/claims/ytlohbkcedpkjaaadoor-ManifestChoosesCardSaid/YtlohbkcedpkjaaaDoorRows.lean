/-
  NARROWER THAN 'FOR EVERY INPUT', by the rows' own cells (each row's printed sentence says how): ManifestGets: laid · ManifestChooses: laid · ManifestPuts: laid · ManifestSame: laid · FrameGets: laid.
  DERIVED. THE GIVEN ROWS OF THIS SEAT. 5 by the template 'for every input the law returns true; each argument reads behind the call as it read before'; 0 by the template 'total and deterministic' (their statements: YtlohbkcedpkjaaaDoorTotals.lean).
  GIVEN WITH THE SEED: the statements are not yours to turn. If you find one false, say at which input.
  Laid BY PROGRAM, IN A SANDBOX (cutbox-rows.mjs): the forced cells as the released guide's own fill.sh prints them over the translation eea17857b48600c6… (all of the seat's roots in one cut). By AI agents, Wed Nov 11 2026. No macro, syntax, notation, axiom, sorry.
-/
import Derived.Test.YtlohbkcedpkjaaaDoorChecked
import GoSem.Claim
import GoSem.ClaimJoined
import GoSem.ClaimMapViews
import Derived.JoinedTies
import Derived.KernelRfl
namespace Go.Proofs.YtlohbkcedpkjaaaDoor
/- THE CELL 'sum', in the pinned program and in every row, IS THE sha256 OF THE DUMP (.gsa) THAT YtlohbkcedpkjaaaDoorProg.lean LOADS. Nothing in Lean hashes anything: it is a label: what it is worth is what the hold of that sum in a sandbox is worth. -/
noncomputable def Tryd.pinned : Pinned := { name := "ytlohbkcedpkjaaadoor", sum := "eea17857b48600c612c98be2dfa0aa0642a5746fec5ae1a7de60b0fa86404c5a", checked := Tryd.checked }
namespace Rows
def none {H : Type} : Left H := { results := [], args := [] }

/- WHAT THE LISTED PACKAGE-LEVEL VARIABLES READ AS WHEN THE CALL BEGINS. Each datum BY PROGRAM (the guide's laid-datum.mjs) off the statement by which the dump's own 'gosem.cut.vars' lays the variable. In a bare row this is a premise. The card (YtlohbkcedpkjaaaDoorCards.lean) ties it to the program's text. -/
def laid_bushel_crc_step {H : Type} : DataW H := .agg [.lit (.int .u32 0), .lit (.int .u32 274646895), .lit (.int .u32 549293790), .lit (.int .u32 820201905), .lit (.int .u32 1098587580), .lit (.int .u32 1361435347), .lit (.int .u32 1640403810), .lit (.int .u32 1905808397), .lit (.int .u32 2197175160), .lit (.int .u32 2460548119), .lit (.int .u32 2722870694), .lit (.int .u32 2987750089), .lit (.int .u32 3280807620), .lit (.int .u32 3553878443), .lit (.int .u32 3811616794), .lit (.int .u32 4084100981)]

/-- 'bushellaw23.ManifestGets': WHATEVER THE INPUT: true; the input reads as it did. -/
def manifestGetsSpec : ChangeSpec := { name := "manifestGets", fn := fun _ => fun
  | [d1, d2] => { results := [.lit (.bool true)], args := [d1, d2] }
  | _ => none }
def manifestGetsRow : OpenClaim := { program := "ytlohbkcedpkjaaadoor", sum := "eea17857b48600c612c98be2dfa0aa0642a5746fec5ae1a7de60b0fa86404c5a", func := "bushel/bushellaw23.ManifestGets", spec := "manifestGets", unfollowed := true, recurses := true, named := ["bushel/crc.step"], apart := false, laid := [("bushel/crc.step", laid_bushel_crc_step)] }
def ManifestGetsSaid : Prop := manifestGetsRow.holds Tryd.pinned (OpenSpec.ofChange manifestGetsSpec)

/-- ITS FALSE NEIGHBOUR: 'it returns false'. Refute it at one input. -/
def manifestGetsWrong : ChangeSpec := { name := "manifestGets", fn := fun _ => fun
  | [d1, d2] => { results := [.lit (.bool false)], args := [d1, d2] }
  | _ => none }
def ManifestGetsWrongFalsely : Prop := manifestGetsRow.holds Tryd.pinned (OpenSpec.ofChange manifestGetsWrong)

/-- 'bushellaw23.ManifestChooses': WHATEVER THE INPUT: true; the input reads as it did. -/
def manifestChoosesSpec : ChangeSpec := { name := "manifestChooses", fn := fun _ => fun
  | [d1, d2, d3] => { results := [.lit (.bool true)], args := [d1, d2, d3] }
  | _ => none }
def manifestChoosesRow : OpenClaim := { program := "ytlohbkcedpkjaaadoor", sum := "eea17857b48600c612c98be2dfa0aa0642a5746fec5ae1a7de60b0fa86404c5a", func := "bushel/bushellaw23.ManifestChooses", spec := "manifestChooses", unfollowed := true, recurses := true, named := ["bushel/crc.step"], apart := false, laid := [("bushel/crc.step", laid_bushel_crc_step)] }
def ManifestChoosesSaid : Prop := manifestChoosesRow.holds Tryd.pinned (OpenSpec.ofChange manifestChoosesSpec)

/-- ITS FALSE NEIGHBOUR: 'it returns false'. Refute it at one input. -/
def manifestChoosesWrong : ChangeSpec := { name := "manifestChooses", fn := fun _ => fun
  | [d1, d2, d3] => { results := [.lit (.bool false)], args := [d1, d2, d3] }
  | _ => none }
def ManifestChoosesWrongFalsely : Prop := manifestChoosesRow.holds Tryd.pinned (OpenSpec.ofChange manifestChoosesWrong)

/-- 'bushellaw23.ManifestPuts': WHATEVER THE INPUT: true; the input reads as it did. -/
def manifestPutsSpec : ChangeSpec := { name := "manifestPuts", fn := fun _ => fun
  | [d] => { results := [.lit (.bool true)], args := [d] }
  | _ => none }
def manifestPutsRow : OpenClaim := { program := "ytlohbkcedpkjaaadoor", sum := "eea17857b48600c612c98be2dfa0aa0642a5746fec5ae1a7de60b0fa86404c5a", func := "bushel/bushellaw23.ManifestPuts", spec := "manifestPuts", unfollowed := true, recurses := true, named := ["bushel/crc.step"], apart := false, laid := [("bushel/crc.step", laid_bushel_crc_step)] }
def ManifestPutsSaid : Prop := manifestPutsRow.holds Tryd.pinned (OpenSpec.ofChange manifestPutsSpec)

/-- ITS FALSE NEIGHBOUR: 'it returns false'. Refute it at one input. -/
def manifestPutsWrong : ChangeSpec := { name := "manifestPuts", fn := fun _ => fun
  | [d] => { results := [.lit (.bool false)], args := [d] }
  | _ => none }
def ManifestPutsWrongFalsely : Prop := manifestPutsRow.holds Tryd.pinned (OpenSpec.ofChange manifestPutsWrong)

/-- 'bushellaw23.ManifestSame': WHATEVER THE INPUT: true; the input reads as it did. -/
def manifestSameSpec : ChangeSpec := { name := "manifestSame", fn := fun _ => fun
  | [d1, d2] => { results := [.lit (.bool true)], args := [d1, d2] }
  | _ => none }
def manifestSameRow : OpenClaim := { program := "ytlohbkcedpkjaaadoor", sum := "eea17857b48600c612c98be2dfa0aa0642a5746fec5ae1a7de60b0fa86404c5a", func := "bushel/bushellaw23.ManifestSame", spec := "manifestSame", unfollowed := true, recurses := true, named := ["bushel/crc.step"], apart := false, laid := [("bushel/crc.step", laid_bushel_crc_step)] }
def ManifestSameSaid : Prop := manifestSameRow.holds Tryd.pinned (OpenSpec.ofChange manifestSameSpec)

/-- ITS FALSE NEIGHBOUR: 'it returns false'. Refute it at one input. -/
def manifestSameWrong : ChangeSpec := { name := "manifestSame", fn := fun _ => fun
  | [d1, d2] => { results := [.lit (.bool false)], args := [d1, d2] }
  | _ => none }
def ManifestSameWrongFalsely : Prop := manifestSameRow.holds Tryd.pinned (OpenSpec.ofChange manifestSameWrong)

/-- 'bushellaw09.FrameGets': WHATEVER THE INPUT: true; the input reads as it did. -/
def frameGetsSpec : ChangeSpec := { name := "frameGets", fn := fun _ => fun
  | [d] => { results := [.lit (.bool true)], args := [d] }
  | _ => none }
def frameGetsRow : OpenClaim := { program := "ytlohbkcedpkjaaadoor", sum := "eea17857b48600c612c98be2dfa0aa0642a5746fec5ae1a7de60b0fa86404c5a", func := "bushel/bushellaw09.FrameGets", spec := "frameGets", unfollowed := true, recurses := true, named := ["bushel/crc.step"], apart := false, laid := [("bushel/crc.step", laid_bushel_crc_step)] }
def FrameGetsSaid : Prop := frameGetsRow.holds Tryd.pinned (OpenSpec.ofChange frameGetsSpec)

/-- ITS FALSE NEIGHBOUR: 'it returns false'. Refute it at one input. -/
def frameGetsWrong : ChangeSpec := { name := "frameGets", fn := fun _ => fun
  | [d] => { results := [.lit (.bool false)], args := [d] }
  | _ => none }
def FrameGetsWrongFalsely : Prop := frameGetsRow.holds Tryd.pinned (OpenSpec.ofChange frameGetsWrong)

/- THE SECOND FORM. 'bulk': how many values and letters a reading holds, each counted each time it is reached (what is shared counts as often as it is met; a slice's spare places count too). A statement '..UptoSaid' is the law's where the arguments, and the package variables that the reading takes, are together of bulk at most 1048576: NARROWER than '..Said'. Prove '..Said' where nothing that the law and all that it calls make is longer than what came in: it says more and counts as full. Else prove '..UptoSaid'. A law counts once. -/
mutual
def uptoBulk {H : Type} : DataW H → Nat
  | .lit (.string bytes) => bytes.length + 1
  | .lit _ => 1
  | .nil => 1
  | .ptr d => uptoBulk d + 1
  | .slice elems spare => uptoBulkAll elems + uptoBulkAll spare + 1
  | .agg parts => uptoBulkAll parts + 1
  | .iface _ d => uptoBulk d + 1
  | .map entries => uptoBulkEntries entries + 1
  | .held _ => 1
def uptoBulkAll {H : Type} : List (DataW H) → Nat
  | [] => 0
  | d :: r => uptoBulk d + uptoBulkAll r
def uptoBulkEntries {H : Type} : List (Lit × DataW H) → Nat
  | [] => 0
  | x :: r => uptoBulkEntry x + uptoBulkEntries r
def uptoBulkEntry {H : Type} : Lit × DataW H → Nat
  | (.string bytes, d) => bytes.length + uptoBulk d + 1
  | (_, d) => uptoBulk d + 1
 end
def uptoSmall : (H : Type) → List (DataW H) → Bool := fun _ ds => decide (uptoBulkAll ds ≤ 1048576)
def OpenSpec.upto (s : _root_.Go.ChangeSpec) : _root_.Go.OpenSpec := { _root_.Go.OpenSpec.ofChange s with cond := some uptoSmall }

/-- 'bushellaw23.ManifestGets', WHERE WHAT IT READS IS OF BULK AT MOST 1048576: true; the input reads as it did. -/
def manifestGetsUptoRow : OpenClaim := { program := "ytlohbkcedpkjaaadoor", sum := "eea17857b48600c612c98be2dfa0aa0642a5746fec5ae1a7de60b0fa86404c5a", func := "bushel/bushellaw23.ManifestGets", spec := "manifestGets", unfollowed := true, recurses := true, named := ["bushel/crc.step"], apart := false, laid := [("bushel/crc.step", laid_bushel_crc_step)], narrowed := true }
def ManifestGetsUptoSaid : Prop := manifestGetsUptoRow.holds Tryd.pinned (OpenSpec.upto manifestGetsSpec)

/-- 'bushellaw23.ManifestChooses', WHERE WHAT IT READS IS OF BULK AT MOST 1048576: true; the input reads as it did. -/
def manifestChoosesUptoRow : OpenClaim := { program := "ytlohbkcedpkjaaadoor", sum := "eea17857b48600c612c98be2dfa0aa0642a5746fec5ae1a7de60b0fa86404c5a", func := "bushel/bushellaw23.ManifestChooses", spec := "manifestChooses", unfollowed := true, recurses := true, named := ["bushel/crc.step"], apart := false, laid := [("bushel/crc.step", laid_bushel_crc_step)], narrowed := true }
def ManifestChoosesUptoSaid : Prop := manifestChoosesUptoRow.holds Tryd.pinned (OpenSpec.upto manifestChoosesSpec)

/-- 'bushellaw23.ManifestPuts', WHERE WHAT IT READS IS OF BULK AT MOST 1048576: true; the input reads as it did. -/
def manifestPutsUptoRow : OpenClaim := { program := "ytlohbkcedpkjaaadoor", sum := "eea17857b48600c612c98be2dfa0aa0642a5746fec5ae1a7de60b0fa86404c5a", func := "bushel/bushellaw23.ManifestPuts", spec := "manifestPuts", unfollowed := true, recurses := true, named := ["bushel/crc.step"], apart := false, laid := [("bushel/crc.step", laid_bushel_crc_step)], narrowed := true }
def ManifestPutsUptoSaid : Prop := manifestPutsUptoRow.holds Tryd.pinned (OpenSpec.upto manifestPutsSpec)

/-- 'bushellaw23.ManifestSame', WHERE WHAT IT READS IS OF BULK AT MOST 1048576: true; the input reads as it did. -/
def manifestSameUptoRow : OpenClaim := { program := "ytlohbkcedpkjaaadoor", sum := "eea17857b48600c612c98be2dfa0aa0642a5746fec5ae1a7de60b0fa86404c5a", func := "bushel/bushellaw23.ManifestSame", spec := "manifestSame", unfollowed := true, recurses := true, named := ["bushel/crc.step"], apart := false, laid := [("bushel/crc.step", laid_bushel_crc_step)], narrowed := true }
def ManifestSameUptoSaid : Prop := manifestSameUptoRow.holds Tryd.pinned (OpenSpec.upto manifestSameSpec)

/-- 'bushellaw09.FrameGets', WHERE WHAT IT READS IS OF BULK AT MOST 1048576: true; the input reads as it did. -/
def frameGetsUptoRow : OpenClaim := { program := "ytlohbkcedpkjaaadoor", sum := "eea17857b48600c612c98be2dfa0aa0642a5746fec5ae1a7de60b0fa86404c5a", func := "bushel/bushellaw09.FrameGets", spec := "frameGets", unfollowed := true, recurses := true, named := ["bushel/crc.step"], apart := false, laid := [("bushel/crc.step", laid_bushel_crc_step)], narrowed := true }
def FrameGetsUptoSaid : Prop := frameGetsUptoRow.holds Tryd.pinned (OpenSpec.upto frameGetsSpec)

end Rows
end Go.Proofs.YtlohbkcedpkjaaaDoor
