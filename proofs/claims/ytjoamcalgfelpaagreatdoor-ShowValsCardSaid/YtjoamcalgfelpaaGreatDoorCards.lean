/-
  DERIVED. GIVEN WITH THE SEED: THE CARDS: each row of YtjoamcalgfelpaaGreatDoorRows.lean that lists a variable, with what it lists TIED to the program's text (the seventh form; the later family's looks); each row that meets fmt, with fmt's text TOLD by the authors' own Lean function (tested against real Go, not proved from fmt's source: count such statements apart). THE CARD IS WHAT COUNTS. Prove the row's statement (the work); the ties are given (YtjoamcalgfelpaaGreatDoorTie.lean); close each card by the builder's one call (the guide's Derived/Test/ToyasCard.lean, 'card_holds'). Laid BY PROGRAM, IN A SANDBOX (cutbox-door.mjs). By AI agents, Wed Nov 11 2026. No macro, syntax, notation, axiom, sorry.
-/
import Derived.Test.YtjoamcalgfelpaaGreatDoorRows
import GoSem.ClaimSeven
namespace Go.Proofs.YtjoamcalgfelpaaGreatDoor
namespace Rows

/-- THE TIED CARD OF 'dossierlaw5.ShowVals'. -/
def showValsCard : Claim7 := { stood := { row := showValsRow, standIns := [], harness := (true, "90e27f67f898e417bfe270e954dfc6460b0915de22dbd06b476c06bbd35a6a5a"), looks := false }, kinds := [], alts := [], laidByText := true, laidKinds := [.data, .data, .data], laidTests := true, laidLooks := .later }
def ShowValsCardSaid : Prop := Claim7.holds Tryz.pinned (.plain (OpenSpec.ofChange showValsSpec)) showValsCard

/-- THE SECOND FORM's CARD OF 'dossierlaw5.ShowVals'. -/
def showValsUptoCard : Claim7 := { stood := { row := showValsUptoRow, standIns := [], harness := (true, "90e27f67f898e417bfe270e954dfc6460b0915de22dbd06b476c06bbd35a6a5a"), looks := false }, kinds := [], alts := [], laidByText := true, laidKinds := [.data, .data, .data], laidTests := true, laidLooks := .later }
def ShowValsUptoCardSaid : Prop := Claim7.holds Tryz.pinned (.plain (OpenSpec.upto showValsSpec)) showValsUptoCard
end Rows
end Go.Proofs.YtjoamcalgfelpaaGreatDoor
