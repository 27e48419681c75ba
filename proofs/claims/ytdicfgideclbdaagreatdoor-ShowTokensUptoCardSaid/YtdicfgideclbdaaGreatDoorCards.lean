/-
  DERIVED. GIVEN WITH THE SEED: THE CARDS: each row of YtdicfgideclbdaaGreatDoorRows.lean that lists a variable, with what it lists TIED to the program's text (the seventh form; the later family's looks); each row that meets fmt, with fmt's text TOLD by the authors' own Lean function (tested against real Go, not proved from fmt's source: count such statements apart). THE CARD IS WHAT COUNTS. Prove the row's statement (the work); the ties are given (YtdicfgideclbdaaGreatDoorTie.lean); close each card by the builder's one call (the guide's Derived/Test/ToyasCard.lean, 'card_holds'). Laid BY PROGRAM, IN A SANDBOX (cutbox-door.mjs). By AI agents, Wed Nov 11 2026. No macro, syntax, notation, axiom, sorry.
-/
import Derived.Test.YtdicfgideclbdaaGreatDoorRows
import GoSem.ClaimSeven
namespace Go.Proofs.YtdicfgideclbdaaGreatDoor
namespace Rows

/-- THE TIED CARD OF 'synchronylaw09.ShowTokens'. -/
def showTokensCard : Claim7 := { stood := { row := showTokensRow, standIns := [], harness := (true, "6310100ec08441c62e6884118b0b9367acca26add0d00bc6cba73c07215af2ff"), looks := true }, kinds := [], alts := [], laidByText := true, laidKinds := [.data, .data, .data], laidTests := true, laidLooks := .later }
def ShowTokensCardSaid : Prop := Claim7.holds Tryz.pinned (.plain (OpenSpec.ofChange showTokensSpec)) showTokensCard

/-- THE TIED CARD OF 'synchronylaw09.ShowReads'. -/
def showReadsCard : Claim7 := { stood := { row := showReadsRow, standIns := [], harness := (true, "6310100ec08441c62e6884118b0b9367acca26add0d00bc6cba73c07215af2ff"), looks := true }, kinds := [], alts := [], laidByText := true, laidKinds := [.data, .data, .data], laidTests := true, laidLooks := .later }
def ShowReadsCardSaid : Prop := Claim7.holds Tryz.pinned (.plain (OpenSpec.ofChange showReadsSpec)) showReadsCard

/-- THE SECOND FORM's CARD OF 'synchronylaw09.ShowTokens'. -/
def showTokensUptoCard : Claim7 := { stood := { row := showTokensUptoRow, standIns := [], harness := (true, "6310100ec08441c62e6884118b0b9367acca26add0d00bc6cba73c07215af2ff"), looks := true }, kinds := [], alts := [], laidByText := true, laidKinds := [.data, .data, .data], laidTests := true, laidLooks := .later }
def ShowTokensUptoCardSaid : Prop := Claim7.holds Tryz.pinned (.plain (OpenSpec.upto showTokensSpec)) showTokensUptoCard

/-- THE SECOND FORM's CARD OF 'synchronylaw09.ShowReads'. -/
def showReadsUptoCard : Claim7 := { stood := { row := showReadsUptoRow, standIns := [], harness := (true, "6310100ec08441c62e6884118b0b9367acca26add0d00bc6cba73c07215af2ff"), looks := true }, kinds := [], alts := [], laidByText := true, laidKinds := [.data, .data, .data], laidTests := true, laidLooks := .later }
def ShowReadsUptoCardSaid : Prop := Claim7.holds Tryz.pinned (.plain (OpenSpec.upto showReadsSpec)) showReadsUptoCard
end Rows
end Go.Proofs.YtdicfgideclbdaaGreatDoor
