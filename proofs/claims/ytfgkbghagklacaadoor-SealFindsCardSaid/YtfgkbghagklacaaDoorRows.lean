/-
  NARROWER THAN 'FOR EVERY INPUT', by the rows' own cells (each row's printed sentence says how): CrcSums: laid · CrcBursts: laid · CrcPatches: laid · CrcJoins: laid · SealSame: laid · FramePuts: laid · FrameFinds: laid · SealGets: laid · SealFinds: laid · FrameGets: laid · SealPuts: laid.
  DERIVED. THE GIVEN ROWS OF THIS SEAT. 11 by the template 'for every input the law returns true; each argument reads behind the call as it read before'; 0 by the template 'total and deterministic' (their statements: YtfgkbghagklacaaDoorTotals.lean).
  GIVEN WITH THE SEED: the statements are not yours to turn. If you find one false, say at which input.
  Laid BY PROGRAM, IN A SANDBOX (cutbox-rows.mjs): the forced cells as the released guide's own fill.sh prints them over the translation e47ac845955edbcf… (all of the seat's roots in one cut). By AI agents, Wed Nov 11 2026. No macro, syntax, notation, axiom, sorry.
-/
import Derived.Test.YtfgkbghagklacaaDoorChecked
import GoSem.Claim
import GoSem.ClaimJoined
import GoSem.ClaimMapViews
import Derived.JoinedTies
import Derived.KernelRfl
namespace Go.Proofs.YtfgkbghagklacaaDoor
/- THE CELL 'sum', in the pinned program and in every row, IS THE sha256 OF THE DUMP (.gsa) THAT YtfgkbghagklacaaDoorProg.lean LOADS. Nothing in Lean hashes anything: it is a label: what it is worth is what the hold of that sum in a sandbox is worth. -/
noncomputable def Tryd.pinned : Pinned := { name := "ytfgkbghagklacaadoor", sum := "e47ac845955edbcf20807b50a2b3996988aac2d22ddf148b1d99cc4c21bf096a", checked := Tryd.checked }
namespace Rows
def none {H : Type} : Left H := { results := [], args := [] }

/- WHAT THE LISTED PACKAGE-LEVEL VARIABLES READ AS WHEN THE CALL BEGINS. Each datum BY PROGRAM (the guide's laid-datum.mjs) off the statement by which the dump's own 'gosem.cut.vars' lays the variable. In a bare row this is a premise. The card (YtfgkbghagklacaaDoorCards.lean) ties it to the program's text. -/
def laid_bushel_crc_step {H : Type} : DataW H := .agg [.lit (.int .u32 0), .lit (.int .u32 274646895), .lit (.int .u32 549293790), .lit (.int .u32 820201905), .lit (.int .u32 1098587580), .lit (.int .u32 1361435347), .lit (.int .u32 1640403810), .lit (.int .u32 1905808397), .lit (.int .u32 2197175160), .lit (.int .u32 2460548119), .lit (.int .u32 2722870694), .lit (.int .u32 2987750089), .lit (.int .u32 3280807620), .lit (.int .u32 3553878443), .lit (.int .u32 3811616794), .lit (.int .u32 4084100981)]

/-- 'bushellaw06.CrcSums': WHATEVER THE INPUT: true; the input reads as it did. -/
def crcSumsSpec : ChangeSpec := { name := "crcSums", fn := fun _ => fun
  | [d1, d2] => { results := [.lit (.bool true)], args := [d1, d2] }
  | _ => none }
def crcSumsRow : OpenClaim := { program := "ytfgkbghagklacaadoor", sum := "e47ac845955edbcf20807b50a2b3996988aac2d22ddf148b1d99cc4c21bf096a", func := "bushel/bushellaw06.CrcSums", spec := "crcSums", named := ["bushel/crc.step"], apart := false, laid := [("bushel/crc.step", laid_bushel_crc_step)] }
def CrcSumsSaid : Prop := crcSumsRow.holds Tryd.pinned (OpenSpec.ofChange crcSumsSpec)

/-- ITS FALSE NEIGHBOUR: 'it returns false'. Refute it at one input. -/
def crcSumsWrong : ChangeSpec := { name := "crcSums", fn := fun _ => fun
  | [d1, d2] => { results := [.lit (.bool false)], args := [d1, d2] }
  | _ => none }
def CrcSumsWrongFalsely : Prop := crcSumsRow.holds Tryd.pinned (OpenSpec.ofChange crcSumsWrong)

/-- 'bushellaw06.CrcBursts': WHATEVER THE INPUT: true; the input reads as it did. -/
def crcBurstsSpec : ChangeSpec := { name := "crcBursts", fn := fun _ => fun
  | [d1, d2, d3] => { results := [.lit (.bool true)], args := [d1, d2, d3] }
  | _ => none }
def crcBurstsRow : OpenClaim := { program := "ytfgkbghagklacaadoor", sum := "e47ac845955edbcf20807b50a2b3996988aac2d22ddf148b1d99cc4c21bf096a", func := "bushel/bushellaw06.CrcBursts", spec := "crcBursts", named := ["bushel/crc.step"], apart := false, laid := [("bushel/crc.step", laid_bushel_crc_step)] }
def CrcBurstsSaid : Prop := crcBurstsRow.holds Tryd.pinned (OpenSpec.ofChange crcBurstsSpec)

/-- ITS FALSE NEIGHBOUR: 'it returns false'. Refute it at one input. -/
def crcBurstsWrong : ChangeSpec := { name := "crcBursts", fn := fun _ => fun
  | [d1, d2, d3] => { results := [.lit (.bool false)], args := [d1, d2, d3] }
  | _ => none }
def CrcBurstsWrongFalsely : Prop := crcBurstsRow.holds Tryd.pinned (OpenSpec.ofChange crcBurstsWrong)

/-- 'bushellaw06.CrcPatches': WHATEVER THE INPUT: true; the input reads as it did. -/
def crcPatchesSpec : ChangeSpec := { name := "crcPatches", fn := fun _ => fun
  | [d1, d2] => { results := [.lit (.bool true)], args := [d1, d2] }
  | _ => none }
def crcPatchesRow : OpenClaim := { program := "ytfgkbghagklacaadoor", sum := "e47ac845955edbcf20807b50a2b3996988aac2d22ddf148b1d99cc4c21bf096a", func := "bushel/bushellaw06.CrcPatches", spec := "crcPatches", named := ["bushel/crc.step"], apart := false, laid := [("bushel/crc.step", laid_bushel_crc_step)] }
def CrcPatchesSaid : Prop := crcPatchesRow.holds Tryd.pinned (OpenSpec.ofChange crcPatchesSpec)

/-- ITS FALSE NEIGHBOUR: 'it returns false'. Refute it at one input. -/
def crcPatchesWrong : ChangeSpec := { name := "crcPatches", fn := fun _ => fun
  | [d1, d2] => { results := [.lit (.bool false)], args := [d1, d2] }
  | _ => none }
def CrcPatchesWrongFalsely : Prop := crcPatchesRow.holds Tryd.pinned (OpenSpec.ofChange crcPatchesWrong)

/-- 'bushellaw06.CrcJoins': WHATEVER THE INPUT: true; the input reads as it did. -/
def crcJoinsSpec : ChangeSpec := { name := "crcJoins", fn := fun _ => fun
  | [d1, d2, d3] => { results := [.lit (.bool true)], args := [d1, d2, d3] }
  | _ => none }
def crcJoinsRow : OpenClaim := { program := "ytfgkbghagklacaadoor", sum := "e47ac845955edbcf20807b50a2b3996988aac2d22ddf148b1d99cc4c21bf096a", func := "bushel/bushellaw06.CrcJoins", spec := "crcJoins", named := ["bushel/crc.step"], apart := false, laid := [("bushel/crc.step", laid_bushel_crc_step)] }
def CrcJoinsSaid : Prop := crcJoinsRow.holds Tryd.pinned (OpenSpec.ofChange crcJoinsSpec)

/-- ITS FALSE NEIGHBOUR: 'it returns false'. Refute it at one input. -/
def crcJoinsWrong : ChangeSpec := { name := "crcJoins", fn := fun _ => fun
  | [d1, d2, d3] => { results := [.lit (.bool false)], args := [d1, d2, d3] }
  | _ => none }
def CrcJoinsWrongFalsely : Prop := crcJoinsRow.holds Tryd.pinned (OpenSpec.ofChange crcJoinsWrong)

/-- 'bushellaw20.SealSame': WHATEVER THE INPUT: true; the input reads as it did. -/
def sealSameSpec : ChangeSpec := { name := "sealSame", fn := fun _ => fun
  | [d1, d2] => { results := [.lit (.bool true)], args := [d1, d2] }
  | _ => none }
def sealSameRow : OpenClaim := { program := "ytfgkbghagklacaadoor", sum := "e47ac845955edbcf20807b50a2b3996988aac2d22ddf148b1d99cc4c21bf096a", func := "bushel/bushellaw20.SealSame", spec := "sealSame", named := ["bushel/crc.step"], apart := false, laid := [("bushel/crc.step", laid_bushel_crc_step)] }
def SealSameSaid : Prop := sealSameRow.holds Tryd.pinned (OpenSpec.ofChange sealSameSpec)

/-- ITS FALSE NEIGHBOUR: 'it returns false'. Refute it at one input. -/
def sealSameWrong : ChangeSpec := { name := "sealSame", fn := fun _ => fun
  | [d1, d2] => { results := [.lit (.bool false)], args := [d1, d2] }
  | _ => none }
def SealSameWrongFalsely : Prop := sealSameRow.holds Tryd.pinned (OpenSpec.ofChange sealSameWrong)

/-- 'bushellaw09.FramePuts': WHATEVER THE INPUT: true; the input reads as it did. -/
def framePutsSpec : ChangeSpec := { name := "framePuts", fn := fun _ => fun
  | [d1, d2, d3] => { results := [.lit (.bool true)], args := [d1, d2, d3] }
  | _ => none }
def framePutsRow : OpenClaim := { program := "ytfgkbghagklacaadoor", sum := "e47ac845955edbcf20807b50a2b3996988aac2d22ddf148b1d99cc4c21bf096a", func := "bushel/bushellaw09.FramePuts", spec := "framePuts", named := ["bushel/crc.step"], apart := false, laid := [("bushel/crc.step", laid_bushel_crc_step)] }
def FramePutsSaid : Prop := framePutsRow.holds Tryd.pinned (OpenSpec.ofChange framePutsSpec)

/-- ITS FALSE NEIGHBOUR: 'it returns false'. Refute it at one input. -/
def framePutsWrong : ChangeSpec := { name := "framePuts", fn := fun _ => fun
  | [d1, d2, d3] => { results := [.lit (.bool false)], args := [d1, d2, d3] }
  | _ => none }
def FramePutsWrongFalsely : Prop := framePutsRow.holds Tryd.pinned (OpenSpec.ofChange framePutsWrong)

/-- 'bushellaw09.FrameFinds': WHATEVER THE INPUT: true; the input reads as it did. -/
def frameFindsSpec : ChangeSpec := { name := "frameFinds", fn := fun _ => fun
  | [d1, d2, d3] => { results := [.lit (.bool true)], args := [d1, d2, d3] }
  | _ => none }
def frameFindsRow : OpenClaim := { program := "ytfgkbghagklacaadoor", sum := "e47ac845955edbcf20807b50a2b3996988aac2d22ddf148b1d99cc4c21bf096a", func := "bushel/bushellaw09.FrameFinds", spec := "frameFinds", named := ["bushel/crc.step"], apart := false, laid := [("bushel/crc.step", laid_bushel_crc_step)] }
def FrameFindsSaid : Prop := frameFindsRow.holds Tryd.pinned (OpenSpec.ofChange frameFindsSpec)

/-- ITS FALSE NEIGHBOUR: 'it returns false'. Refute it at one input. -/
def frameFindsWrong : ChangeSpec := { name := "frameFinds", fn := fun _ => fun
  | [d1, d2, d3] => { results := [.lit (.bool false)], args := [d1, d2, d3] }
  | _ => none }
def FrameFindsWrongFalsely : Prop := frameFindsRow.holds Tryd.pinned (OpenSpec.ofChange frameFindsWrong)

/-- 'bushellaw20.SealGets': WHATEVER THE INPUT: true; the input reads as it did. -/
def sealGetsSpec : ChangeSpec := { name := "sealGets", fn := fun _ => fun
  | [d1, d2] => { results := [.lit (.bool true)], args := [d1, d2] }
  | _ => none }
def sealGetsRow : OpenClaim := { program := "ytfgkbghagklacaadoor", sum := "e47ac845955edbcf20807b50a2b3996988aac2d22ddf148b1d99cc4c21bf096a", func := "bushel/bushellaw20.SealGets", spec := "sealGets", named := ["bushel/crc.step"], apart := false, laid := [("bushel/crc.step", laid_bushel_crc_step)] }
def SealGetsSaid : Prop := sealGetsRow.holds Tryd.pinned (OpenSpec.ofChange sealGetsSpec)

/-- ITS FALSE NEIGHBOUR: 'it returns false'. Refute it at one input. -/
def sealGetsWrong : ChangeSpec := { name := "sealGets", fn := fun _ => fun
  | [d1, d2] => { results := [.lit (.bool false)], args := [d1, d2] }
  | _ => none }
def SealGetsWrongFalsely : Prop := sealGetsRow.holds Tryd.pinned (OpenSpec.ofChange sealGetsWrong)

/-- 'bushellaw20.SealFinds': WHATEVER THE INPUT: true; the input reads as it did. -/
def sealFindsSpec : ChangeSpec := { name := "sealFinds", fn := fun _ => fun
  | [d1, d2, d3] => { results := [.lit (.bool true)], args := [d1, d2, d3] }
  | _ => none }
def sealFindsRow : OpenClaim := { program := "ytfgkbghagklacaadoor", sum := "e47ac845955edbcf20807b50a2b3996988aac2d22ddf148b1d99cc4c21bf096a", func := "bushel/bushellaw20.SealFinds", spec := "sealFinds", named := ["bushel/crc.step"], apart := false, laid := [("bushel/crc.step", laid_bushel_crc_step)] }
def SealFindsSaid : Prop := sealFindsRow.holds Tryd.pinned (OpenSpec.ofChange sealFindsSpec)

/-- ITS FALSE NEIGHBOUR: 'it returns false'. Refute it at one input. -/
def sealFindsWrong : ChangeSpec := { name := "sealFinds", fn := fun _ => fun
  | [d1, d2, d3] => { results := [.lit (.bool false)], args := [d1, d2, d3] }
  | _ => none }
def SealFindsWrongFalsely : Prop := sealFindsRow.holds Tryd.pinned (OpenSpec.ofChange sealFindsWrong)

/-- 'bushellaw09.FrameGets': WHATEVER THE INPUT: true; the input reads as it did. -/
def frameGetsSpec : ChangeSpec := { name := "frameGets", fn := fun _ => fun
  | [d] => { results := [.lit (.bool true)], args := [d] }
  | _ => none }
def frameGetsRow : OpenClaim := { program := "ytfgkbghagklacaadoor", sum := "e47ac845955edbcf20807b50a2b3996988aac2d22ddf148b1d99cc4c21bf096a", func := "bushel/bushellaw09.FrameGets", spec := "frameGets", unfollowed := true, recurses := true, named := ["bushel/crc.step"], apart := false, laid := [("bushel/crc.step", laid_bushel_crc_step)] }
def FrameGetsSaid : Prop := frameGetsRow.holds Tryd.pinned (OpenSpec.ofChange frameGetsSpec)

/-- ITS FALSE NEIGHBOUR: 'it returns false'. Refute it at one input. -/
def frameGetsWrong : ChangeSpec := { name := "frameGets", fn := fun _ => fun
  | [d] => { results := [.lit (.bool false)], args := [d] }
  | _ => none }
def FrameGetsWrongFalsely : Prop := frameGetsRow.holds Tryd.pinned (OpenSpec.ofChange frameGetsWrong)

/-- 'bushellaw20.SealPuts': WHATEVER THE INPUT: true; the input reads as it did. -/
def sealPutsSpec : ChangeSpec := { name := "sealPuts", fn := fun _ => fun
  | [d] => { results := [.lit (.bool true)], args := [d] }
  | _ => none }
def sealPutsRow : OpenClaim := { program := "ytfgkbghagklacaadoor", sum := "e47ac845955edbcf20807b50a2b3996988aac2d22ddf148b1d99cc4c21bf096a", func := "bushel/bushellaw20.SealPuts", spec := "sealPuts", named := ["bushel/crc.step"], apart := false, laid := [("bushel/crc.step", laid_bushel_crc_step)] }
def SealPutsSaid : Prop := sealPutsRow.holds Tryd.pinned (OpenSpec.ofChange sealPutsSpec)

/-- ITS FALSE NEIGHBOUR: 'it returns false'. Refute it at one input. -/
def sealPutsWrong : ChangeSpec := { name := "sealPuts", fn := fun _ => fun
  | [d] => { results := [.lit (.bool false)], args := [d] }
  | _ => none }
def SealPutsWrongFalsely : Prop := sealPutsRow.holds Tryd.pinned (OpenSpec.ofChange sealPutsWrong)

/- THE SECOND FORM. 'bulk': how many values and letters a reading holds, each counted each time it is reached (what is shared counts as often as it is met; a slice's spare places count too). A statement '..UptoSaid' is the law's where the arguments, and the package variables that the reading takes, are together of bulk at most 1048576: NARROWER than '..Said'. Prove '..Said' where nothing that the law and all that it calls make is longer than what came in: it says more and counts as full. Else prove '..UptoSaid'. A law counts once. -/
mutual
def uptoBulk {H : Type} : DataW H → Nat
  | .lit (.string bytes) => bytes.length + 1
  | .lit _ => 1
  | .nil => 1
  | .ptr d => uptoBulk d + 1
  | .slice elems spare => uptoBulkAll elems + uptoBulkAll spare + 1
  | .agg parts => uptoBulkAll parts + 1
  | .iface _ d => uptoBulk d + 1
  | .map entries => uptoBulkEntries entries + 1
  | .held _ => 1
def uptoBulkAll {H : Type} : List (DataW H) → Nat
  | [] => 0
  | d :: r => uptoBulk d + uptoBulkAll r
def uptoBulkEntries {H : Type} : List (Lit × DataW H) → Nat
  | [] => 0
  | x :: r => uptoBulkEntry x + uptoBulkEntries r
def uptoBulkEntry {H : Type} : Lit × DataW H → Nat
  | (.string bytes, d) => bytes.length + uptoBulk d + 1
  | (_, d) => uptoBulk d + 1
 end
def uptoSmall : (H : Type) → List (DataW H) → Bool := fun _ ds => decide (uptoBulkAll ds ≤ 1048576)
def OpenSpec.upto (s : _root_.Go.ChangeSpec) : _root_.Go.OpenSpec := { _root_.Go.OpenSpec.ofChange s with cond := some uptoSmall }

/-- 'bushellaw06.CrcSums', WHERE WHAT IT READS IS OF BULK AT MOST 1048576: true; the input reads as it did. -/
def crcSumsUptoRow : OpenClaim := { program := "ytfgkbghagklacaadoor", sum := "e47ac845955edbcf20807b50a2b3996988aac2d22ddf148b1d99cc4c21bf096a", func := "bushel/bushellaw06.CrcSums", spec := "crcSums", named := ["bushel/crc.step"], apart := false, laid := [("bushel/crc.step", laid_bushel_crc_step)], narrowed := true }
def CrcSumsUptoSaid : Prop := crcSumsUptoRow.holds Tryd.pinned (OpenSpec.upto crcSumsSpec)

/-- 'bushellaw06.CrcBursts', WHERE WHAT IT READS IS OF BULK AT MOST 1048576: true; the input reads as it did. -/
def crcBurstsUptoRow : OpenClaim := { program := "ytfgkbghagklacaadoor", sum := "e47ac845955edbcf20807b50a2b3996988aac2d22ddf148b1d99cc4c21bf096a", func := "bushel/bushellaw06.CrcBursts", spec := "crcBursts", named := ["bushel/crc.step"], apart := false, laid := [("bushel/crc.step", laid_bushel_crc_step)], narrowed := true }
def CrcBurstsUptoSaid : Prop := crcBurstsUptoRow.holds Tryd.pinned (OpenSpec.upto crcBurstsSpec)

/-- 'bushellaw06.CrcPatches', WHERE WHAT IT READS IS OF BULK AT MOST 1048576: true; the input reads as it did. -/
def crcPatchesUptoRow : OpenClaim := { program := "ytfgkbghagklacaadoor", sum := "e47ac845955edbcf20807b50a2b3996988aac2d22ddf148b1d99cc4c21bf096a", func := "bushel/bushellaw06.CrcPatches", spec := "crcPatches", named := ["bushel/crc.step"], apart := false, laid := [("bushel/crc.step", laid_bushel_crc_step)], narrowed := true }
def CrcPatchesUptoSaid : Prop := crcPatchesUptoRow.holds Tryd.pinned (OpenSpec.upto crcPatchesSpec)

/-- 'bushellaw06.CrcJoins', WHERE WHAT IT READS IS OF BULK AT MOST 1048576: true; the input reads as it did. -/
def crcJoinsUptoRow : OpenClaim := { program := "ytfgkbghagklacaadoor", sum := "e47ac845955edbcf20807b50a2b3996988aac2d22ddf148b1d99cc4c21bf096a", func := "bushel/bushellaw06.CrcJoins", spec := "crcJoins", named := ["bushel/crc.step"], apart := false, laid := [("bushel/crc.step", laid_bushel_crc_step)], narrowed := true }
def CrcJoinsUptoSaid : Prop := crcJoinsUptoRow.holds Tryd.pinned (OpenSpec.upto crcJoinsSpec)

/-- 'bushellaw20.SealSame', WHERE WHAT IT READS IS OF BULK AT MOST 1048576: true; the input reads as it did. -/
def sealSameUptoRow : OpenClaim := { program := "ytfgkbghagklacaadoor", sum := "e47ac845955edbcf20807b50a2b3996988aac2d22ddf148b1d99cc4c21bf096a", func := "bushel/bushellaw20.SealSame", spec := "sealSame", named := ["bushel/crc.step"], apart := false, laid := [("bushel/crc.step", laid_bushel_crc_step)], narrowed := true }
def SealSameUptoSaid : Prop := sealSameUptoRow.holds Tryd.pinned (OpenSpec.upto sealSameSpec)

/-- 'bushellaw09.FramePuts', WHERE WHAT IT READS IS OF BULK AT MOST 1048576: true; the input reads as it did. -/
def framePutsUptoRow : OpenClaim := { program := "ytfgkbghagklacaadoor", sum := "e47ac845955edbcf20807b50a2b3996988aac2d22ddf148b1d99cc4c21bf096a", func := "bushel/bushellaw09.FramePuts", spec := "framePuts", named := ["bushel/crc.step"], apart := false, laid := [("bushel/crc.step", laid_bushel_crc_step)], narrowed := true }
def FramePutsUptoSaid : Prop := framePutsUptoRow.holds Tryd.pinned (OpenSpec.upto framePutsSpec)

/-- 'bushellaw09.FrameFinds', WHERE WHAT IT READS IS OF BULK AT MOST 1048576: true; the input reads as it did. -/
def frameFindsUptoRow : OpenClaim := { program := "ytfgkbghagklacaadoor", sum := "e47ac845955edbcf20807b50a2b3996988aac2d22ddf148b1d99cc4c21bf096a", func := "bushel/bushellaw09.FrameFinds", spec := "frameFinds", named := ["bushel/crc.step"], apart := false, laid := [("bushel/crc.step", laid_bushel_crc_step)], narrowed := true }
def FrameFindsUptoSaid : Prop := frameFindsUptoRow.holds Tryd.pinned (OpenSpec.upto frameFindsSpec)

/-- 'bushellaw20.SealGets', WHERE WHAT IT READS IS OF BULK AT MOST 1048576: true; the input reads as it did. -/
def sealGetsUptoRow : OpenClaim := { program := "ytfgkbghagklacaadoor", sum := "e47ac845955edbcf20807b50a2b3996988aac2d22ddf148b1d99cc4c21bf096a", func := "bushel/bushellaw20.SealGets", spec := "sealGets", named := ["bushel/crc.step"], apart := false, laid := [("bushel/crc.step", laid_bushel_crc_step)], narrowed := true }
def SealGetsUptoSaid : Prop := sealGetsUptoRow.holds Tryd.pinned (OpenSpec.upto sealGetsSpec)

/-- 'bushellaw20.SealFinds', WHERE WHAT IT READS IS OF BULK AT MOST 1048576: true; the input reads as it did. -/
def sealFindsUptoRow : OpenClaim := { program := "ytfgkbghagklacaadoor", sum := "e47ac845955edbcf20807b50a2b3996988aac2d22ddf148b1d99cc4c21bf096a", func := "bushel/bushellaw20.SealFinds", spec := "sealFinds", named := ["bushel/crc.step"], apart := false, laid := [("bushel/crc.step", laid_bushel_crc_step)], narrowed := true }
def SealFindsUptoSaid : Prop := sealFindsUptoRow.holds Tryd.pinned (OpenSpec.upto sealFindsSpec)

/-- 'bushellaw09.FrameGets', WHERE WHAT IT READS IS OF BULK AT MOST 1048576: true; the input reads as it did. -/
def frameGetsUptoRow : OpenClaim := { program := "ytfgkbghagklacaadoor", sum := "e47ac845955edbcf20807b50a2b3996988aac2d22ddf148b1d99cc4c21bf096a", func := "bushel/bushellaw09.FrameGets", spec := "frameGets", unfollowed := true, recurses := true, named := ["bushel/crc.step"], apart := false, laid := [("bushel/crc.step", laid_bushel_crc_step)], narrowed := true }
def FrameGetsUptoSaid : Prop := frameGetsUptoRow.holds Tryd.pinned (OpenSpec.upto frameGetsSpec)

/-- 'bushellaw20.SealPuts', WHERE WHAT IT READS IS OF BULK AT MOST 1048576: true; the input reads as it did. -/
def sealPutsUptoRow : OpenClaim := { program := "ytfgkbghagklacaadoor", sum := "e47ac845955edbcf20807b50a2b3996988aac2d22ddf148b1d99cc4c21bf096a", func := "bushel/bushellaw20.SealPuts", spec := "sealPuts", named := ["bushel/crc.step"], apart := false, laid := [("bushel/crc.step", laid_bushel_crc_step)], narrowed := true }
def SealPutsUptoSaid : Prop := sealPutsUptoRow.holds Tryd.pinned (OpenSpec.upto sealPutsSpec)

end Rows
end Go.Proofs.YtfgkbghagklacaaDoor
