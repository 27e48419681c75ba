/-
  DERIVED. GIVEN WITH THE SEED: THE CARDS: each row of YthmbhfgflijapaaGreatDoorRows.lean that lists a variable, with what it lists TIED to the program's text (the seventh form; the later family's looks); each row that meets fmt, with fmt's text TOLD by the authors' own Lean function (tested against real Go, not proved from fmt's source: count such statements apart). THE CARD IS WHAT COUNTS. Prove the row's statement (the work); the ties are given (YthmbhfgflijapaaGreatDoorTie.lean); close each card by the builder's one call (the guide's Derived/Test/ToyasCard.lean, 'card_holds'). Laid BY PROGRAM, IN A SANDBOX (cutbox-door.mjs). By AI agents, Wed Nov 11 2026. No macro, syntax, notation, axiom, sorry.
-/
import Derived.Test.YthmbhfgflijapaaGreatDoorRows
import GoSem.ClaimSeven
namespace Go.Proofs.YthmbhfgflijapaaGreatDoor
namespace Rows

/-- THE TIED CARD OF 'synchronylaw09.ShowPieces'. -/
def showPiecesCard : Claim7 := { stood := { row := showPiecesRow, standIns := [], harness := (true, "f8997e379c0aecdec44bd828eab413269b5def2f1677879fa33328bd0cc13181"), looks := true }, kinds := [], alts := [], laidByText := true, laidKinds := [.data, .data, .data], laidTests := true, laidLooks := .later }
def ShowPiecesCardSaid : Prop := Claim7.holds Tryz.pinned (.plain (OpenSpec.ofChange showPiecesSpec)) showPiecesCard

/-- THE SECOND FORM's CARD OF 'synchronylaw09.ShowPieces'. -/
def showPiecesUptoCard : Claim7 := { stood := { row := showPiecesUptoRow, standIns := [], harness := (true, "f8997e379c0aecdec44bd828eab413269b5def2f1677879fa33328bd0cc13181"), looks := true }, kinds := [], alts := [], laidByText := true, laidKinds := [.data, .data, .data], laidTests := true, laidLooks := .later }
def ShowPiecesUptoCardSaid : Prop := Claim7.holds Tryz.pinned (.plain (OpenSpec.upto showPiecesSpec)) showPiecesUptoCard
end Rows
end Go.Proofs.YthmbhfgflijapaaGreatDoor
