/-
  DERIVED. GIVEN WITH THE SEED: THE CARDS: each row of YtjoamcalgfelpaaDoorRows.lean that lists a variable, with what it lists TIED to the program's text (the seventh form; the later family's looks); each row that meets fmt, with fmt's text TOLD by the authors' own Lean function (tested against real Go, not proved from fmt's source: count such statements apart). THE CARD IS WHAT COUNTS. Prove the row's statement (the work); the ties are given (YtjoamcalgfelpaaDoorTie.lean); close each card by the builder's one call (the guide's Derived/Test/ToyasCard.lean, 'card_holds'). Laid BY PROGRAM, IN A SANDBOX (cutbox-door.mjs). By AI agents, Wed Nov 11 2026. No macro, syntax, notation, axiom, sorry.
-/
import Derived.Test.YtjoamcalgfelpaaDoorRows
import GoSem.ClaimSeven
namespace Go.Proofs.YtjoamcalgfelpaaDoor
namespace Rows

/-- THE TIED CARD OF 'dossierlaw5.ShowTells'. -/
def showTellsCard : Claim7 := { stood := { row := showTellsRow, standIns := [], harness := (true, "9210ee3714d3881f26c593d4e76e2165c74fb01f945892e119a62b13aba0f3c6"), looks := false }, kinds := [], alts := [], laidByText := true, laidKinds := [.data, .data, .data], laidTests := true, laidLooks := .later }
def ShowTellsCardSaid : Prop := Claim7.holds Tryd.pinned (.plain (OpenSpec.ofChange showTellsSpec)) showTellsCard

/-- THE TIED CARD OF 'dossierlaw5.ShowBack'. -/
def showBackCard : Claim7 := { stood := { row := showBackRow, standIns := [], harness := (true, "9210ee3714d3881f26c593d4e76e2165c74fb01f945892e119a62b13aba0f3c6"), looks := false }, kinds := [], alts := [], laidByText := true, laidKinds := [.data, .data, .data], laidTests := true, laidLooks := .later }
def ShowBackCardSaid : Prop := Claim7.holds Tryd.pinned (.plain (OpenSpec.ofChange showBackSpec)) showBackCard

/-- THE TIED CARD OF 'dossierlaw5.ShowOdd'. -/
def showOddCard : Claim7 := { stood := { row := showOddRow, standIns := [], harness := (true, "9210ee3714d3881f26c593d4e76e2165c74fb01f945892e119a62b13aba0f3c6"), looks := false }, kinds := [], alts := [], laidByText := true, laidKinds := [.data, .data, .data], laidTests := true, laidLooks := .later }
def ShowOddCardSaid : Prop := Claim7.holds Tryd.pinned (.plain (OpenSpec.ofChange showOddSpec)) showOddCard

/-- THE SECOND FORM's CARD OF 'dossierlaw5.ShowTells'. -/
def showTellsUptoCard : Claim7 := { stood := { row := showTellsUptoRow, standIns := [], harness := (true, "9210ee3714d3881f26c593d4e76e2165c74fb01f945892e119a62b13aba0f3c6"), looks := false }, kinds := [], alts := [], laidByText := true, laidKinds := [.data, .data, .data], laidTests := true, laidLooks := .later }
def ShowTellsUptoCardSaid : Prop := Claim7.holds Tryd.pinned (.plain (OpenSpec.upto showTellsSpec)) showTellsUptoCard

/-- THE SECOND FORM's CARD OF 'dossierlaw5.ShowBack'. -/
def showBackUptoCard : Claim7 := { stood := { row := showBackUptoRow, standIns := [], harness := (true, "9210ee3714d3881f26c593d4e76e2165c74fb01f945892e119a62b13aba0f3c6"), looks := false }, kinds := [], alts := [], laidByText := true, laidKinds := [.data, .data, .data], laidTests := true, laidLooks := .later }
def ShowBackUptoCardSaid : Prop := Claim7.holds Tryd.pinned (.plain (OpenSpec.upto showBackSpec)) showBackUptoCard

/-- THE SECOND FORM's CARD OF 'dossierlaw5.ShowOdd'. -/
def showOddUptoCard : Claim7 := { stood := { row := showOddUptoRow, standIns := [], harness := (true, "9210ee3714d3881f26c593d4e76e2165c74fb01f945892e119a62b13aba0f3c6"), looks := false }, kinds := [], alts := [], laidByText := true, laidKinds := [.data, .data, .data], laidTests := true, laidLooks := .later }
def ShowOddUptoCardSaid : Prop := Claim7.holds Tryd.pinned (.plain (OpenSpec.upto showOddSpec)) showOddUptoCard
end Rows
end Go.Proofs.YtjoamcalgfelpaaDoor
