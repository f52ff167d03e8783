/-
  DERIVED. GIVEN WITH THE SEED: THE CARDS: each row of YtjdimgigbgafbaaDoorRows.lean that lists a variable, with what it lists TIED to the program's text (the seventh form; the later family's looks); each row that meets fmt, with fmt's text TOLD by the authors' own Lean function (tested against real Go, not proved from fmt's source: count such statements apart). THE CARD IS WHAT COUNTS. Prove the row's statement (the work); the ties are given (YtjdimgigbgafbaaDoorTie.lean); close each card by the builder's one call (the guide's Derived/Test/ToyasCard.lean, 'card_holds'). Laid BY PROGRAM, IN A SANDBOX (cutbox-door.mjs). By AI agents, Wed Nov 11 2026. No macro, syntax, notation, axiom, sorry.
-/
import Derived.Test.YtjdimgigbgafbaaDoorRows
import GoSem.ClaimSeven
namespace Go.Proofs.YtjdimgigbgafbaaDoor
namespace Rows

/-- THE TIED CARD OF 'bushellaw22.LogDoes'. -/
def logDoesCard : Claim7 := { stood := { row := logDoesRow, standIns := [], harness := (true, "f63feafa4a0de6dec7dce46cdeb064020cdbf5f36c4e0c2c7cecbbfd01a2cd45"), looks := false }, kinds := [], alts := [], laidByText := true, laidKinds := [.data], laidTests := true, laidLooks := .later }
def LogDoesCardSaid : Prop := Claim7.holds Tryd.pinned (.plain (OpenSpec.ofChange logDoesSpec)) logDoesCard

/-- THE TIED CARD OF 'bushellaw22.LogReads'. -/
def logReadsCard : Claim7 := { stood := { row := logReadsRow, standIns := [], harness := (true, "f63feafa4a0de6dec7dce46cdeb064020cdbf5f36c4e0c2c7cecbbfd01a2cd45"), looks := false }, kinds := [], alts := [], laidByText := true, laidKinds := [.data], laidTests := true, laidLooks := .later }
def LogReadsCardSaid : Prop := Claim7.holds Tryd.pinned (.plain (OpenSpec.ofChange logReadsSpec)) logReadsCard

/-- THE TIED CARD OF 'bushellaw22.LogSurvives'. -/
def logSurvivesCard : Claim7 := { stood := { row := logSurvivesRow, standIns := [], harness := (true, "f63feafa4a0de6dec7dce46cdeb064020cdbf5f36c4e0c2c7cecbbfd01a2cd45"), looks := false }, kinds := [], alts := [], laidByText := true, laidKinds := [.data], laidTests := true, laidLooks := .later }
def LogSurvivesCardSaid : Prop := Claim7.holds Tryd.pinned (.plain (OpenSpec.ofChange logSurvivesSpec)) logSurvivesCard

/-- THE SECOND FORM's CARD OF 'bushellaw22.LogDoes'. -/
def logDoesUptoCard : Claim7 := { stood := { row := logDoesUptoRow, standIns := [], harness := (true, "f63feafa4a0de6dec7dce46cdeb064020cdbf5f36c4e0c2c7cecbbfd01a2cd45"), looks := false }, kinds := [], alts := [], laidByText := true, laidKinds := [.data], laidTests := true, laidLooks := .later }
def LogDoesUptoCardSaid : Prop := Claim7.holds Tryd.pinned (.plain (OpenSpec.upto logDoesSpec)) logDoesUptoCard

/-- THE SECOND FORM's CARD OF 'bushellaw22.LogReads'. -/
def logReadsUptoCard : Claim7 := { stood := { row := logReadsUptoRow, standIns := [], harness := (true, "f63feafa4a0de6dec7dce46cdeb064020cdbf5f36c4e0c2c7cecbbfd01a2cd45"), looks := false }, kinds := [], alts := [], laidByText := true, laidKinds := [.data], laidTests := true, laidLooks := .later }
def LogReadsUptoCardSaid : Prop := Claim7.holds Tryd.pinned (.plain (OpenSpec.upto logReadsSpec)) logReadsUptoCard

/-- THE SECOND FORM's CARD OF 'bushellaw22.LogSurvives'. -/
def logSurvivesUptoCard : Claim7 := { stood := { row := logSurvivesUptoRow, standIns := [], harness := (true, "f63feafa4a0de6dec7dce46cdeb064020cdbf5f36c4e0c2c7cecbbfd01a2cd45"), looks := false }, kinds := [], alts := [], laidByText := true, laidKinds := [.data], laidTests := true, laidLooks := .later }
def LogSurvivesUptoCardSaid : Prop := Claim7.holds Tryd.pinned (.plain (OpenSpec.upto logSurvivesSpec)) logSurvivesUptoCard
end Rows
end Go.Proofs.YtjdimgigbgafbaaDoor
