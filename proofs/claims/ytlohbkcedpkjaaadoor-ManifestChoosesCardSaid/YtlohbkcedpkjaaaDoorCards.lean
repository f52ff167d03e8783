/-
  DERIVED. GIVEN WITH THE SEED: THE CARDS: each row of YtlohbkcedpkjaaaDoorRows.lean that lists a variable, with what it lists TIED to the program's text (the seventh form; the later family's looks); each row that meets fmt, with fmt's text TOLD by the authors' own Lean function (tested against real Go, not proved from fmt's source: count such statements apart). THE CARD IS WHAT COUNTS. Prove the row's statement (the work); the ties are given (YtlohbkcedpkjaaaDoorTie.lean); close each card by the builder's one call (the guide's Derived/Test/ToyasCard.lean, 'card_holds'). Laid BY PROGRAM, IN A SANDBOX (cutbox-door.mjs). By AI agents, Wed Nov 11 2026. No macro, syntax, notation, axiom, sorry.
-/
import Derived.Test.YtlohbkcedpkjaaaDoorRows
import GoSem.ClaimSeven
namespace Go.Proofs.YtlohbkcedpkjaaaDoor
namespace Rows

/-- THE TIED CARD OF 'bushellaw23.ManifestGets'. -/
def manifestGetsCard : Claim7 := { stood := { row := manifestGetsRow, standIns := [], harness := (true, "6fc25b0f9070b2d37a1b60a6322dad2730bd4857873dc6b1d058e867066edba7"), looks := false }, kinds := [], alts := [], laidByText := true, laidKinds := [.data], laidTests := true, laidLooks := .later }
def ManifestGetsCardSaid : Prop := Claim7.holds Tryd.pinned (.plain (OpenSpec.ofChange manifestGetsSpec)) manifestGetsCard

/-- THE TIED CARD OF 'bushellaw23.ManifestChooses'. -/
def manifestChoosesCard : Claim7 := { stood := { row := manifestChoosesRow, standIns := [], harness := (true, "6fc25b0f9070b2d37a1b60a6322dad2730bd4857873dc6b1d058e867066edba7"), looks := false }, kinds := [], alts := [], laidByText := true, laidKinds := [.data], laidTests := true, laidLooks := .later }
def ManifestChoosesCardSaid : Prop := Claim7.holds Tryd.pinned (.plain (OpenSpec.ofChange manifestChoosesSpec)) manifestChoosesCard

/-- THE TIED CARD OF 'bushellaw23.ManifestPuts'. -/
def manifestPutsCard : Claim7 := { stood := { row := manifestPutsRow, standIns := [], harness := (true, "6fc25b0f9070b2d37a1b60a6322dad2730bd4857873dc6b1d058e867066edba7"), looks := false }, kinds := [], alts := [], laidByText := true, laidKinds := [.data], laidTests := true, laidLooks := .later }
def ManifestPutsCardSaid : Prop := Claim7.holds Tryd.pinned (.plain (OpenSpec.ofChange manifestPutsSpec)) manifestPutsCard

/-- THE TIED CARD OF 'bushellaw23.ManifestSame'. -/
def manifestSameCard : Claim7 := { stood := { row := manifestSameRow, standIns := [], harness := (true, "6fc25b0f9070b2d37a1b60a6322dad2730bd4857873dc6b1d058e867066edba7"), looks := false }, kinds := [], alts := [], laidByText := true, laidKinds := [.data], laidTests := true, laidLooks := .later }
def ManifestSameCardSaid : Prop := Claim7.holds Tryd.pinned (.plain (OpenSpec.ofChange manifestSameSpec)) manifestSameCard

/-- THE TIED CARD OF 'bushellaw09.FrameGets'. -/
def frameGetsCard : Claim7 := { stood := { row := frameGetsRow, standIns := [], harness := (true, "6fc25b0f9070b2d37a1b60a6322dad2730bd4857873dc6b1d058e867066edba7"), looks := false }, kinds := [], alts := [], laidByText := true, laidKinds := [.data], laidTests := true, laidLooks := .later }
def FrameGetsCardSaid : Prop := Claim7.holds Tryd.pinned (.plain (OpenSpec.ofChange frameGetsSpec)) frameGetsCard

/-- THE SECOND FORM's CARD OF 'bushellaw23.ManifestGets'. -/
def manifestGetsUptoCard : Claim7 := { stood := { row := manifestGetsUptoRow, standIns := [], harness := (true, "6fc25b0f9070b2d37a1b60a6322dad2730bd4857873dc6b1d058e867066edba7"), looks := false }, kinds := [], alts := [], laidByText := true, laidKinds := [.data], laidTests := true, laidLooks := .later }
def ManifestGetsUptoCardSaid : Prop := Claim7.holds Tryd.pinned (.plain (OpenSpec.upto manifestGetsSpec)) manifestGetsUptoCard

/-- THE SECOND FORM's CARD OF 'bushellaw23.ManifestChooses'. -/
def manifestChoosesUptoCard : Claim7 := { stood := { row := manifestChoosesUptoRow, standIns := [], harness := (true, "6fc25b0f9070b2d37a1b60a6322dad2730bd4857873dc6b1d058e867066edba7"), looks := false }, kinds := [], alts := [], laidByText := true, laidKinds := [.data], laidTests := true, laidLooks := .later }
def ManifestChoosesUptoCardSaid : Prop := Claim7.holds Tryd.pinned (.plain (OpenSpec.upto manifestChoosesSpec)) manifestChoosesUptoCard

/-- THE SECOND FORM's CARD OF 'bushellaw23.ManifestPuts'. -/
def manifestPutsUptoCard : Claim7 := { stood := { row := manifestPutsUptoRow, standIns := [], harness := (true, "6fc25b0f9070b2d37a1b60a6322dad2730bd4857873dc6b1d058e867066edba7"), looks := false }, kinds := [], alts := [], laidByText := true, laidKinds := [.data], laidTests := true, laidLooks := .later }
def ManifestPutsUptoCardSaid : Prop := Claim7.holds Tryd.pinned (.plain (OpenSpec.upto manifestPutsSpec)) manifestPutsUptoCard

/-- THE SECOND FORM's CARD OF 'bushellaw23.ManifestSame'. -/
def manifestSameUptoCard : Claim7 := { stood := { row := manifestSameUptoRow, standIns := [], harness := (true, "6fc25b0f9070b2d37a1b60a6322dad2730bd4857873dc6b1d058e867066edba7"), looks := false }, kinds := [], alts := [], laidByText := true, laidKinds := [.data], laidTests := true, laidLooks := .later }
def ManifestSameUptoCardSaid : Prop := Claim7.holds Tryd.pinned (.plain (OpenSpec.upto manifestSameSpec)) manifestSameUptoCard

/-- THE SECOND FORM's CARD OF 'bushellaw09.FrameGets'. -/
def frameGetsUptoCard : Claim7 := { stood := { row := frameGetsUptoRow, standIns := [], harness := (true, "6fc25b0f9070b2d37a1b60a6322dad2730bd4857873dc6b1d058e867066edba7"), looks := false }, kinds := [], alts := [], laidByText := true, laidKinds := [.data], laidTests := true, laidLooks := .later }
def FrameGetsUptoCardSaid : Prop := Claim7.holds Tryd.pinned (.plain (OpenSpec.upto frameGetsSpec)) frameGetsUptoCard
end Rows
end Go.Proofs.YtlohbkcedpkjaaaDoor
