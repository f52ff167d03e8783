/-
  DERIVED. GIVEN WITH THE SEED: THE CARDS: each row of YtfgkbghagklacaaDoorRows.lean that lists a variable, with what it lists TIED to the program's text (the seventh form; the later family's looks); each row that meets fmt, with fmt's text TOLD by the authors' own Lean function (tested against real Go, not proved from fmt's source: count such statements apart). THE CARD IS WHAT COUNTS. Prove the row's statement (the work); the ties are given (YtfgkbghagklacaaDoorTie.lean); close each card by the builder's one call (the guide's Derived/Test/ToyasCard.lean, 'card_holds'). Laid BY PROGRAM, IN A SANDBOX (cutbox-door.mjs). By AI agents, Wed Nov 11 2026. No macro, syntax, notation, axiom, sorry.
-/
import Derived.Test.YtfgkbghagklacaaDoorRows
import GoSem.ClaimSeven
namespace Go.Proofs.YtfgkbghagklacaaDoor
namespace Rows

/-- THE TIED CARD OF 'bushellaw06.CrcSums'. -/
def crcSumsCard : Claim7 := { stood := { row := crcSumsRow, standIns := [], harness := (true, "9cee338df8a52bf7d33001ce8a5b4fc901587b8c2da5c60b19947561180206ea"), looks := false }, kinds := [], alts := [], laidByText := true, laidKinds := [.data], laidTests := true, laidLooks := .later }
def CrcSumsCardSaid : Prop := Claim7.holds Tryd.pinned (.plain (OpenSpec.ofChange crcSumsSpec)) crcSumsCard

/-- THE TIED CARD OF 'bushellaw06.CrcBursts'. -/
def crcBurstsCard : Claim7 := { stood := { row := crcBurstsRow, standIns := [], harness := (true, "9cee338df8a52bf7d33001ce8a5b4fc901587b8c2da5c60b19947561180206ea"), looks := false }, kinds := [], alts := [], laidByText := true, laidKinds := [.data], laidTests := true, laidLooks := .later }
def CrcBurstsCardSaid : Prop := Claim7.holds Tryd.pinned (.plain (OpenSpec.ofChange crcBurstsSpec)) crcBurstsCard

/-- THE TIED CARD OF 'bushellaw06.CrcPatches'. -/
def crcPatchesCard : Claim7 := { stood := { row := crcPatchesRow, standIns := [], harness := (true, "9cee338df8a52bf7d33001ce8a5b4fc901587b8c2da5c60b19947561180206ea"), looks := false }, kinds := [], alts := [], laidByText := true, laidKinds := [.data], laidTests := true, laidLooks := .later }
def CrcPatchesCardSaid : Prop := Claim7.holds Tryd.pinned (.plain (OpenSpec.ofChange crcPatchesSpec)) crcPatchesCard

/-- THE TIED CARD OF 'bushellaw06.CrcJoins'. -/
def crcJoinsCard : Claim7 := { stood := { row := crcJoinsRow, standIns := [], harness := (true, "9cee338df8a52bf7d33001ce8a5b4fc901587b8c2da5c60b19947561180206ea"), looks := false }, kinds := [], alts := [], laidByText := true, laidKinds := [.data], laidTests := true, laidLooks := .later }
def CrcJoinsCardSaid : Prop := Claim7.holds Tryd.pinned (.plain (OpenSpec.ofChange crcJoinsSpec)) crcJoinsCard

/-- THE TIED CARD OF 'bushellaw20.SealSame'. -/
def sealSameCard : Claim7 := { stood := { row := sealSameRow, standIns := [], harness := (true, "9cee338df8a52bf7d33001ce8a5b4fc901587b8c2da5c60b19947561180206ea"), looks := false }, kinds := [], alts := [], laidByText := true, laidKinds := [.data], laidTests := true, laidLooks := .later }
def SealSameCardSaid : Prop := Claim7.holds Tryd.pinned (.plain (OpenSpec.ofChange sealSameSpec)) sealSameCard

/-- THE TIED CARD OF 'bushellaw09.FramePuts'. -/
def framePutsCard : Claim7 := { stood := { row := framePutsRow, standIns := [], harness := (true, "9cee338df8a52bf7d33001ce8a5b4fc901587b8c2da5c60b19947561180206ea"), looks := false }, kinds := [], alts := [], laidByText := true, laidKinds := [.data], laidTests := true, laidLooks := .later }
def FramePutsCardSaid : Prop := Claim7.holds Tryd.pinned (.plain (OpenSpec.ofChange framePutsSpec)) framePutsCard

/-- THE TIED CARD OF 'bushellaw09.FrameFinds'. -/
def frameFindsCard : Claim7 := { stood := { row := frameFindsRow, standIns := [], harness := (true, "9cee338df8a52bf7d33001ce8a5b4fc901587b8c2da5c60b19947561180206ea"), looks := false }, kinds := [], alts := [], laidByText := true, laidKinds := [.data], laidTests := true, laidLooks := .later }
def FrameFindsCardSaid : Prop := Claim7.holds Tryd.pinned (.plain (OpenSpec.ofChange frameFindsSpec)) frameFindsCard

/-- THE TIED CARD OF 'bushellaw20.SealGets'. -/
def sealGetsCard : Claim7 := { stood := { row := sealGetsRow, standIns := [], harness := (true, "9cee338df8a52bf7d33001ce8a5b4fc901587b8c2da5c60b19947561180206ea"), looks := false }, kinds := [], alts := [], laidByText := true, laidKinds := [.data], laidTests := true, laidLooks := .later }
def SealGetsCardSaid : Prop := Claim7.holds Tryd.pinned (.plain (OpenSpec.ofChange sealGetsSpec)) sealGetsCard

/-- THE TIED CARD OF 'bushellaw20.SealFinds'. -/
def sealFindsCard : Claim7 := { stood := { row := sealFindsRow, standIns := [], harness := (true, "9cee338df8a52bf7d33001ce8a5b4fc901587b8c2da5c60b19947561180206ea"), looks := false }, kinds := [], alts := [], laidByText := true, laidKinds := [.data], laidTests := true, laidLooks := .later }
def SealFindsCardSaid : Prop := Claim7.holds Tryd.pinned (.plain (OpenSpec.ofChange sealFindsSpec)) sealFindsCard

/-- THE TIED CARD OF 'bushellaw09.FrameGets'. -/
def frameGetsCard : Claim7 := { stood := { row := frameGetsRow, standIns := [], harness := (true, "9cee338df8a52bf7d33001ce8a5b4fc901587b8c2da5c60b19947561180206ea"), looks := false }, kinds := [], alts := [], laidByText := true, laidKinds := [.data], laidTests := true, laidLooks := .later }
def FrameGetsCardSaid : Prop := Claim7.holds Tryd.pinned (.plain (OpenSpec.ofChange frameGetsSpec)) frameGetsCard

/-- THE TIED CARD OF 'bushellaw20.SealPuts'. -/
def sealPutsCard : Claim7 := { stood := { row := sealPutsRow, standIns := [], harness := (true, "9cee338df8a52bf7d33001ce8a5b4fc901587b8c2da5c60b19947561180206ea"), looks := false }, kinds := [], alts := [], laidByText := true, laidKinds := [.data], laidTests := true, laidLooks := .later }
def SealPutsCardSaid : Prop := Claim7.holds Tryd.pinned (.plain (OpenSpec.ofChange sealPutsSpec)) sealPutsCard

/-- THE SECOND FORM's CARD OF 'bushellaw06.CrcSums'. -/
def crcSumsUptoCard : Claim7 := { stood := { row := crcSumsUptoRow, standIns := [], harness := (true, "9cee338df8a52bf7d33001ce8a5b4fc901587b8c2da5c60b19947561180206ea"), looks := false }, kinds := [], alts := [], laidByText := true, laidKinds := [.data], laidTests := true, laidLooks := .later }
def CrcSumsUptoCardSaid : Prop := Claim7.holds Tryd.pinned (.plain (OpenSpec.upto crcSumsSpec)) crcSumsUptoCard

/-- THE SECOND FORM's CARD OF 'bushellaw06.CrcBursts'. -/
def crcBurstsUptoCard : Claim7 := { stood := { row := crcBurstsUptoRow, standIns := [], harness := (true, "9cee338df8a52bf7d33001ce8a5b4fc901587b8c2da5c60b19947561180206ea"), looks := false }, kinds := [], alts := [], laidByText := true, laidKinds := [.data], laidTests := true, laidLooks := .later }
def CrcBurstsUptoCardSaid : Prop := Claim7.holds Tryd.pinned (.plain (OpenSpec.upto crcBurstsSpec)) crcBurstsUptoCard

/-- THE SECOND FORM's CARD OF 'bushellaw06.CrcPatches'. -/
def crcPatchesUptoCard : Claim7 := { stood := { row := crcPatchesUptoRow, standIns := [], harness := (true, "9cee338df8a52bf7d33001ce8a5b4fc901587b8c2da5c60b19947561180206ea"), looks := false }, kinds := [], alts := [], laidByText := true, laidKinds := [.data], laidTests := true, laidLooks := .later }
def CrcPatchesUptoCardSaid : Prop := Claim7.holds Tryd.pinned (.plain (OpenSpec.upto crcPatchesSpec)) crcPatchesUptoCard

/-- THE SECOND FORM's CARD OF 'bushellaw06.CrcJoins'. -/
def crcJoinsUptoCard : Claim7 := { stood := { row := crcJoinsUptoRow, standIns := [], harness := (true, "9cee338df8a52bf7d33001ce8a5b4fc901587b8c2da5c60b19947561180206ea"), looks := false }, kinds := [], alts := [], laidByText := true, laidKinds := [.data], laidTests := true, laidLooks := .later }
def CrcJoinsUptoCardSaid : Prop := Claim7.holds Tryd.pinned (.plain (OpenSpec.upto crcJoinsSpec)) crcJoinsUptoCard

/-- THE SECOND FORM's CARD OF 'bushellaw20.SealSame'. -/
def sealSameUptoCard : Claim7 := { stood := { row := sealSameUptoRow, standIns := [], harness := (true, "9cee338df8a52bf7d33001ce8a5b4fc901587b8c2da5c60b19947561180206ea"), looks := false }, kinds := [], alts := [], laidByText := true, laidKinds := [.data], laidTests := true, laidLooks := .later }
def SealSameUptoCardSaid : Prop := Claim7.holds Tryd.pinned (.plain (OpenSpec.upto sealSameSpec)) sealSameUptoCard

/-- THE SECOND FORM's CARD OF 'bushellaw09.FramePuts'. -/
def framePutsUptoCard : Claim7 := { stood := { row := framePutsUptoRow, standIns := [], harness := (true, "9cee338df8a52bf7d33001ce8a5b4fc901587b8c2da5c60b19947561180206ea"), looks := false }, kinds := [], alts := [], laidByText := true, laidKinds := [.data], laidTests := true, laidLooks := .later }
def FramePutsUptoCardSaid : Prop := Claim7.holds Tryd.pinned (.plain (OpenSpec.upto framePutsSpec)) framePutsUptoCard

/-- THE SECOND FORM's CARD OF 'bushellaw09.FrameFinds'. -/
def frameFindsUptoCard : Claim7 := { stood := { row := frameFindsUptoRow, standIns := [], harness := (true, "9cee338df8a52bf7d33001ce8a5b4fc901587b8c2da5c60b19947561180206ea"), looks := false }, kinds := [], alts := [], laidByText := true, laidKinds := [.data], laidTests := true, laidLooks := .later }
def FrameFindsUptoCardSaid : Prop := Claim7.holds Tryd.pinned (.plain (OpenSpec.upto frameFindsSpec)) frameFindsUptoCard

/-- THE SECOND FORM's CARD OF 'bushellaw20.SealGets'. -/
def sealGetsUptoCard : Claim7 := { stood := { row := sealGetsUptoRow, standIns := [], harness := (true, "9cee338df8a52bf7d33001ce8a5b4fc901587b8c2da5c60b19947561180206ea"), looks := false }, kinds := [], alts := [], laidByText := true, laidKinds := [.data], laidTests := true, laidLooks := .later }
def SealGetsUptoCardSaid : Prop := Claim7.holds Tryd.pinned (.plain (OpenSpec.upto sealGetsSpec)) sealGetsUptoCard

/-- THE SECOND FORM's CARD OF 'bushellaw20.SealFinds'. -/
def sealFindsUptoCard : Claim7 := { stood := { row := sealFindsUptoRow, standIns := [], harness := (true, "9cee338df8a52bf7d33001ce8a5b4fc901587b8c2da5c60b19947561180206ea"), looks := false }, kinds := [], alts := [], laidByText := true, laidKinds := [.data], laidTests := true, laidLooks := .later }
def SealFindsUptoCardSaid : Prop := Claim7.holds Tryd.pinned (.plain (OpenSpec.upto sealFindsSpec)) sealFindsUptoCard

/-- THE SECOND FORM's CARD OF 'bushellaw09.FrameGets'. -/
def frameGetsUptoCard : Claim7 := { stood := { row := frameGetsUptoRow, standIns := [], harness := (true, "9cee338df8a52bf7d33001ce8a5b4fc901587b8c2da5c60b19947561180206ea"), looks := false }, kinds := [], alts := [], laidByText := true, laidKinds := [.data], laidTests := true, laidLooks := .later }
def FrameGetsUptoCardSaid : Prop := Claim7.holds Tryd.pinned (.plain (OpenSpec.upto frameGetsSpec)) frameGetsUptoCard

/-- THE SECOND FORM's CARD OF 'bushellaw20.SealPuts'. -/
def sealPutsUptoCard : Claim7 := { stood := { row := sealPutsUptoRow, standIns := [], harness := (true, "9cee338df8a52bf7d33001ce8a5b4fc901587b8c2da5c60b19947561180206ea"), looks := false }, kinds := [], alts := [], laidByText := true, laidKinds := [.data], laidTests := true, laidLooks := .later }
def SealPutsUptoCardSaid : Prop := Claim7.holds Tryd.pinned (.plain (OpenSpec.upto sealPutsSpec)) sealPutsUptoCard
end Rows
end Go.Proofs.YtfgkbghagklacaaDoor
