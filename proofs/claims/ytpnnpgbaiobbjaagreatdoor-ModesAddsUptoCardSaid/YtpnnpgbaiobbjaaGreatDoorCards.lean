/-
  DERIVED. GIVEN WITH THE SEED: THE CARDS: each row of YtpnnpgbaiobbjaaGreatDoorRows.lean that lists a variable, with what it lists TIED to the program's text (the seventh form; the later family's looks); each row that meets fmt, with fmt's text TOLD by the authors' own Lean function (tested against real Go, not proved from fmt's source: count such statements apart). THE CARD IS WHAT COUNTS. Prove the row's statement (the work); the ties are given (YtpnnpgbaiobbjaaGreatDoorTie.lean); close each card by the builder's one call (the guide's Derived/Test/ToyasCard.lean, 'card_holds'). Laid BY PROGRAM, IN A SANDBOX (cutbox-door.mjs). By AI agents, Wed Nov 11 2026. No macro, syntax, notation, axiom, sorry.
-/
import Derived.Test.YtpnnpgbaiobbjaaGreatDoorRows
import GoSem.ClaimSeven
namespace Go.Proofs.YtpnnpgbaiobbjaaGreatDoor
namespace Rows

/-- THE TIED CARD OF 'synchronylaw15.ModesExpands'. -/
def modesExpandsCard : Claim7 := { stood := { row := modesExpandsRow, standIns := [], harness := (true, "331c66b1baa2b7453704fda3cbb8765b049aefceec73e30de80c5d04a5e53ffb"), looks := true }, kinds := [], alts := [], laidByText := true, laidKinds := [.data, .data, .data], laidTests := true, laidLooks := .later }
def ModesExpandsCardSaid : Prop := Claim7.holds Tryz.pinned (.plain (OpenSpec.ofChange modesExpandsSpec)) modesExpandsCard

/-- THE TIED CARD OF 'synchronylaw15.ModesCounts'. -/
def modesCountsCard : Claim7 := { stood := { row := modesCountsRow, standIns := [], harness := (true, "331c66b1baa2b7453704fda3cbb8765b049aefceec73e30de80c5d04a5e53ffb"), looks := true }, kinds := [], alts := [], laidByText := true, laidKinds := [.data, .data, .data], laidTests := true, laidLooks := .later }
def ModesCountsCardSaid : Prop := Claim7.holds Tryz.pinned (.plain (OpenSpec.ofChange modesCountsSpec)) modesCountsCard

/-- THE TIED CARD OF 'synchronylaw15.ModesAdds'. -/
def modesAddsCard : Claim7 := { stood := { row := modesAddsRow, standIns := [], harness := (true, "331c66b1baa2b7453704fda3cbb8765b049aefceec73e30de80c5d04a5e53ffb"), looks := true }, kinds := [], alts := [], laidByText := true, laidKinds := [.data, .data, .data], laidTests := true, laidLooks := .later }
def ModesAddsCardSaid : Prop := Claim7.holds Tryz.pinned (.plain (OpenSpec.ofChange modesAddsSpec)) modesAddsCard

/-- THE TIED CARD OF 'synchronylaw15.ModesBodies'. -/
def modesBodiesCard : Claim7 := { stood := { row := modesBodiesRow, standIns := [], harness := (true, "331c66b1baa2b7453704fda3cbb8765b049aefceec73e30de80c5d04a5e53ffb"), looks := true }, kinds := [], alts := [], laidByText := true, laidKinds := [.data, .data, .data], laidTests := true, laidLooks := .later }
def ModesBodiesCardSaid : Prop := Claim7.holds Tryz.pinned (.plain (OpenSpec.ofChange modesBodiesSpec)) modesBodiesCard

/-- THE TIED CARD OF 'synchronylaw15.ModesSums'. -/
def modesSumsCard : Claim7 := { stood := { row := modesSumsRow, standIns := [], harness := (true, "331c66b1baa2b7453704fda3cbb8765b049aefceec73e30de80c5d04a5e53ffb"), looks := true }, kinds := [], alts := [], laidByText := true, laidKinds := [.data, .data, .data], laidTests := true, laidLooks := .later }
def ModesSumsCardSaid : Prop := Claim7.holds Tryz.pinned (.plain (OpenSpec.ofChange modesSumsSpec)) modesSumsCard

/-- THE TIED CARD OF 'synchronylaw15.ModesNames'. -/
def modesNamesCard : Claim7 := { stood := { row := modesNamesRow, standIns := [], harness := (true, "331c66b1baa2b7453704fda3cbb8765b049aefceec73e30de80c5d04a5e53ffb"), looks := true }, kinds := [], alts := [], laidByText := true, laidKinds := [.data, .data, .data], laidTests := true, laidLooks := .later }
def ModesNamesCardSaid : Prop := Claim7.holds Tryz.pinned (.plain (OpenSpec.ofChange modesNamesSpec)) modesNamesCard

/-- THE SECOND FORM's CARD OF 'synchronylaw15.ModesExpands'. -/
def modesExpandsUptoCard : Claim7 := { stood := { row := modesExpandsUptoRow, standIns := [], harness := (true, "331c66b1baa2b7453704fda3cbb8765b049aefceec73e30de80c5d04a5e53ffb"), looks := true }, kinds := [], alts := [], laidByText := true, laidKinds := [.data, .data, .data], laidTests := true, laidLooks := .later }
def ModesExpandsUptoCardSaid : Prop := Claim7.holds Tryz.pinned (.plain (OpenSpec.upto modesExpandsSpec)) modesExpandsUptoCard

/-- THE SECOND FORM's CARD OF 'synchronylaw15.ModesCounts'. -/
def modesCountsUptoCard : Claim7 := { stood := { row := modesCountsUptoRow, standIns := [], harness := (true, "331c66b1baa2b7453704fda3cbb8765b049aefceec73e30de80c5d04a5e53ffb"), looks := true }, kinds := [], alts := [], laidByText := true, laidKinds := [.data, .data, .data], laidTests := true, laidLooks := .later }
def ModesCountsUptoCardSaid : Prop := Claim7.holds Tryz.pinned (.plain (OpenSpec.upto modesCountsSpec)) modesCountsUptoCard

/-- THE SECOND FORM's CARD OF 'synchronylaw15.ModesAdds'. -/
def modesAddsUptoCard : Claim7 := { stood := { row := modesAddsUptoRow, standIns := [], harness := (true, "331c66b1baa2b7453704fda3cbb8765b049aefceec73e30de80c5d04a5e53ffb"), looks := true }, kinds := [], alts := [], laidByText := true, laidKinds := [.data, .data, .data], laidTests := true, laidLooks := .later }
def ModesAddsUptoCardSaid : Prop := Claim7.holds Tryz.pinned (.plain (OpenSpec.upto modesAddsSpec)) modesAddsUptoCard

/-- THE SECOND FORM's CARD OF 'synchronylaw15.ModesBodies'. -/
def modesBodiesUptoCard : Claim7 := { stood := { row := modesBodiesUptoRow, standIns := [], harness := (true, "331c66b1baa2b7453704fda3cbb8765b049aefceec73e30de80c5d04a5e53ffb"), looks := true }, kinds := [], alts := [], laidByText := true, laidKinds := [.data, .data, .data], laidTests := true, laidLooks := .later }
def ModesBodiesUptoCardSaid : Prop := Claim7.holds Tryz.pinned (.plain (OpenSpec.upto modesBodiesSpec)) modesBodiesUptoCard

/-- THE SECOND FORM's CARD OF 'synchronylaw15.ModesSums'. -/
def modesSumsUptoCard : Claim7 := { stood := { row := modesSumsUptoRow, standIns := [], harness := (true, "331c66b1baa2b7453704fda3cbb8765b049aefceec73e30de80c5d04a5e53ffb"), looks := true }, kinds := [], alts := [], laidByText := true, laidKinds := [.data, .data, .data], laidTests := true, laidLooks := .later }
def ModesSumsUptoCardSaid : Prop := Claim7.holds Tryz.pinned (.plain (OpenSpec.upto modesSumsSpec)) modesSumsUptoCard

/-- THE SECOND FORM's CARD OF 'synchronylaw15.ModesNames'. -/
def modesNamesUptoCard : Claim7 := { stood := { row := modesNamesUptoRow, standIns := [], harness := (true, "331c66b1baa2b7453704fda3cbb8765b049aefceec73e30de80c5d04a5e53ffb"), looks := true }, kinds := [], alts := [], laidByText := true, laidKinds := [.data, .data, .data], laidTests := true, laidLooks := .later }
def ModesNamesUptoCardSaid : Prop := Claim7.holds Tryz.pinned (.plain (OpenSpec.upto modesNamesSpec)) modesNamesUptoCard
end Rows
end Go.Proofs.YtpnnpgbaiobbjaaGreatDoor
