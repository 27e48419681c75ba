/-
  DERIVED. GIVEN WITH THE SEED: THE CARDS: each row of YtjgmcnemcembmaaGreatDoorRows.lean that lists a variable, with what it lists TIED to the program's text (the seventh form; the later family's looks); each row that meets fmt, with fmt's text TOLD by the authors' own Lean function (tested against real Go, not proved from fmt's source: count such statements apart). THE CARD IS WHAT COUNTS. Prove the row's statement (the work); the ties are given (YtjgmcnemcembmaaGreatDoorTie.lean); close each card by the builder's one call (the guide's Derived/Test/ToyasCard.lean, 'card_holds'). Laid BY PROGRAM, IN A SANDBOX (cutbox-door.mjs). By AI agents, Wed Nov 11 2026. No macro, syntax, notation, axiom, sorry.
-/
import Derived.Test.YtjgmcnemcembmaaGreatDoorRows
import GoSem.ClaimSeven
namespace Go.Proofs.YtjgmcnemcembmaaGreatDoor
namespace Rows

/-- THE TIED CARD OF 'synchronylaw09.ShowPrograms'. -/
def showProgramsCard : Claim7 := { stood := { row := showProgramsRow, standIns := [], harness := (true, "550d44894e8ef5ae3c70bc1ac7f0dd79b6d7a80712128e332a9a2b37ae39c0f9"), looks := true }, kinds := [], alts := [], laidByText := true, laidKinds := [.data, .data, .data], laidTests := true, laidLooks := .later }
def ShowProgramsCardSaid : Prop := Claim7.holds Tryz.pinned (.plain (OpenSpec.ofChange showProgramsSpec)) showProgramsCard

/-- THE TIED CARD OF 'synchronylaw09.ShowExprs'. -/
def showExprsCard : Claim7 := { stood := { row := showExprsRow, standIns := [], harness := (true, "550d44894e8ef5ae3c70bc1ac7f0dd79b6d7a80712128e332a9a2b37ae39c0f9"), looks := true }, kinds := [], alts := [], laidByText := true, laidKinds := [.data, .data, .data], laidTests := true, laidLooks := .later }
def ShowExprsCardSaid : Prop := Claim7.holds Tryz.pinned (.plain (OpenSpec.ofChange showExprsSpec)) showExprsCard

/-- THE TIED CARD OF 'synchronylaw09.ShowClocks'. -/
def showClocksCard : Claim7 := { stood := { row := showClocksRow, standIns := [], harness := (true, "550d44894e8ef5ae3c70bc1ac7f0dd79b6d7a80712128e332a9a2b37ae39c0f9"), looks := true }, kinds := [], alts := [], laidByText := true, laidKinds := [.data, .data, .data], laidTests := true, laidLooks := .later }
def ShowClocksCardSaid : Prop := Claim7.holds Tryz.pinned (.plain (OpenSpec.ofChange showClocksSpec)) showClocksCard

/-- THE TIED CARD OF 'synchronylaw09.ShowLines'. -/
def showLinesCard : Claim7 := { stood := { row := showLinesRow, standIns := [], harness := (true, "550d44894e8ef5ae3c70bc1ac7f0dd79b6d7a80712128e332a9a2b37ae39c0f9"), looks := true }, kinds := [], alts := [], laidByText := true, laidKinds := [.data, .data, .data], laidTests := true, laidLooks := .later }
def ShowLinesCardSaid : Prop := Claim7.holds Tryz.pinned (.plain (OpenSpec.ofChange showLinesSpec)) showLinesCard

/-- THE SECOND FORM's CARD OF 'synchronylaw09.ShowPrograms'. -/
def showProgramsUptoCard : Claim7 := { stood := { row := showProgramsUptoRow, standIns := [], harness := (true, "550d44894e8ef5ae3c70bc1ac7f0dd79b6d7a80712128e332a9a2b37ae39c0f9"), looks := true }, kinds := [], alts := [], laidByText := true, laidKinds := [.data, .data, .data], laidTests := true, laidLooks := .later }
def ShowProgramsUptoCardSaid : Prop := Claim7.holds Tryz.pinned (.plain (OpenSpec.upto showProgramsSpec)) showProgramsUptoCard

/-- THE SECOND FORM's CARD OF 'synchronylaw09.ShowExprs'. -/
def showExprsUptoCard : Claim7 := { stood := { row := showExprsUptoRow, standIns := [], harness := (true, "550d44894e8ef5ae3c70bc1ac7f0dd79b6d7a80712128e332a9a2b37ae39c0f9"), looks := true }, kinds := [], alts := [], laidByText := true, laidKinds := [.data, .data, .data], laidTests := true, laidLooks := .later }
def ShowExprsUptoCardSaid : Prop := Claim7.holds Tryz.pinned (.plain (OpenSpec.upto showExprsSpec)) showExprsUptoCard

/-- THE SECOND FORM's CARD OF 'synchronylaw09.ShowClocks'. -/
def showClocksUptoCard : Claim7 := { stood := { row := showClocksUptoRow, standIns := [], harness := (true, "550d44894e8ef5ae3c70bc1ac7f0dd79b6d7a80712128e332a9a2b37ae39c0f9"), looks := true }, kinds := [], alts := [], laidByText := true, laidKinds := [.data, .data, .data], laidTests := true, laidLooks := .later }
def ShowClocksUptoCardSaid : Prop := Claim7.holds Tryz.pinned (.plain (OpenSpec.upto showClocksSpec)) showClocksUptoCard

/-- THE SECOND FORM's CARD OF 'synchronylaw09.ShowLines'. -/
def showLinesUptoCard : Claim7 := { stood := { row := showLinesUptoRow, standIns := [], harness := (true, "550d44894e8ef5ae3c70bc1ac7f0dd79b6d7a80712128e332a9a2b37ae39c0f9"), looks := true }, kinds := [], alts := [], laidByText := true, laidKinds := [.data, .data, .data], laidTests := true, laidLooks := .later }
def ShowLinesUptoCardSaid : Prop := Claim7.holds Tryz.pinned (.plain (OpenSpec.upto showLinesSpec)) showLinesUptoCard
end Rows
end Go.Proofs.YtjgmcnemcembmaaGreatDoor
