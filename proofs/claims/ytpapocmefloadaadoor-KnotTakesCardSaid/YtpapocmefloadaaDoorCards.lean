/-
  DERIVED. GIVEN WITH THE SEED: THE CARDS: each row of YtpapocmefloadaaDoorRows.lean that lists a variable, with what it lists TIED to the program's text (the seventh form; the later family's looks); each row that meets fmt, with fmt's text TOLD by the authors' own Lean function (tested against real Go, not proved from fmt's source: count such statements apart). THE CARD IS WHAT COUNTS. Prove the row's statement (the work); the ties are given (YtpapocmefloadaaDoorTie.lean); close each card by the builder's one call (the guide's Derived/Test/ToyasCard.lean, 'card_holds'). Laid BY PROGRAM, IN A SANDBOX (cutbox-door.mjs). By AI agents, Wed Nov 11 2026. No macro, syntax, notation, axiom, sorry.
-/
import Derived.Test.YtpapocmefloadaaDoorRows
import GoSem.ClaimSeven
namespace Go.Proofs.YtpapocmefloadaaDoor
namespace Rows

/-- THE TIED CARD OF 'dossierlaw10.KnotTies'. -/
def knotTiesCard : Claim7 := { stood := { row := knotTiesRow, standIns := [], harness := (true, "39a5a08979d7aa77312288c22b43cf25425b268931087906a3648b403b8ce416"), looks := true }, kinds := [], alts := [], laidByText := true, laidKinds := [.data, .data, .data], laidTests := true, laidLooks := .later }
def KnotTiesCardSaid : Prop := Claim7.holds Tryd.pinned (.plain (OpenSpec.ofChange knotTiesSpec)) knotTiesCard

/-- THE TIED CARD OF 'dossierlaw10.KnotOne'. -/
def knotOneCard : Claim7 := { stood := { row := knotOneRow, standIns := [], harness := (true, "39a5a08979d7aa77312288c22b43cf25425b268931087906a3648b403b8ce416"), looks := true }, kinds := [], alts := [], laidByText := true, laidKinds := [.data, .data, .data, .sentinel, .sentinel], laidTests := true, laidLooks := .later }
def KnotOneCardSaid : Prop := Claim7.holds Tryd.pinned (.plain (OpenSpec.ofChange knotOneSpec)) knotOneCard

/-- THE TIED CARD OF 'dossierlaw10.KnotLong'. -/
def knotLongCard : Claim7 := { stood := { row := knotLongRow, standIns := [], harness := (true, "39a5a08979d7aa77312288c22b43cf25425b268931087906a3648b403b8ce416"), looks := true }, kinds := [], alts := [], laidByText := true, laidKinds := [.data, .data, .data, .sentinel, .sentinel], laidTests := true, laidLooks := .later }
def KnotLongCardSaid : Prop := Claim7.holds Tryd.pinned (.plain (OpenSpec.ofChange knotLongSpec)) knotLongCard

/-- THE TIED CARD OF 'dossierlaw10.KnotTakes'. -/
def knotTakesCard : Claim7 := { stood := { row := knotTakesRow, standIns := [], harness := (true, "39a5a08979d7aa77312288c22b43cf25425b268931087906a3648b403b8ce416"), looks := true }, kinds := [], alts := [], laidByText := true, laidKinds := [.data, .data, .data, .sentinel, .sentinel], laidTests := true, laidLooks := .later }
def KnotTakesCardSaid : Prop := Claim7.holds Tryd.pinned (.plain (OpenSpec.ofChange knotTakesSpec)) knotTakesCard

/-- THE TIED CARD OF 'dossierlaw10.KnotOfNothing'. -/
def knotOfNothingCard : Claim7 := { stood := { row := knotOfNothingRow, standIns := [], harness := (true, "39a5a08979d7aa77312288c22b43cf25425b268931087906a3648b403b8ce416"), looks := true }, kinds := [], alts := [], laidByText := true, laidKinds := [.data, .data, .data, .sentinel, .sentinel], laidTests := true, laidLooks := .later }
def KnotOfNothingCardSaid : Prop := Claim7.holds Tryd.pinned (.plain (OpenSpec.ofChange knotOfNothingSpec)) knotOfNothingCard

/-- THE TIED CARD OF 'dossierlaw10.KnotNums'. -/
def knotNumsCard : Claim7 := { stood := { row := knotNumsRow, standIns := [], harness := (true, "39a5a08979d7aa77312288c22b43cf25425b268931087906a3648b403b8ce416"), looks := true }, kinds := [], alts := [], laidByText := true, laidKinds := [.data, .data, .data, .sentinel, .sentinel], laidTests := true, laidLooks := .later }
def KnotNumsCardSaid : Prop := Claim7.holds Tryd.pinned (.plain (OpenSpec.ofChange knotNumsSpec)) knotNumsCard

/-- THE TIED CARD OF 'dossierlaw10.KnotBack'. -/
def knotBackCard : Claim7 := { stood := { row := knotBackRow, standIns := [], harness := (true, "39a5a08979d7aa77312288c22b43cf25425b268931087906a3648b403b8ce416"), looks := true }, kinds := [], alts := [], laidByText := true, laidKinds := [.data, .data, .data, .sentinel, .sentinel], laidTests := true, laidLooks := .later }
def KnotBackCardSaid : Prop := Claim7.holds Tryd.pinned (.plain (OpenSpec.ofChange knotBackSpec)) knotBackCard

/-- THE SECOND FORM's CARD OF 'dossierlaw10.KnotTies'. -/
def knotTiesUptoCard : Claim7 := { stood := { row := knotTiesUptoRow, standIns := [], harness := (true, "39a5a08979d7aa77312288c22b43cf25425b268931087906a3648b403b8ce416"), looks := true }, kinds := [], alts := [], laidByText := true, laidKinds := [.data, .data, .data], laidTests := true, laidLooks := .later }
def KnotTiesUptoCardSaid : Prop := Claim7.holds Tryd.pinned (.plain (OpenSpec.upto knotTiesSpec)) knotTiesUptoCard

/-- THE SECOND FORM's CARD OF 'dossierlaw10.KnotOne'. -/
def knotOneUptoCard : Claim7 := { stood := { row := knotOneUptoRow, standIns := [], harness := (true, "39a5a08979d7aa77312288c22b43cf25425b268931087906a3648b403b8ce416"), looks := true }, kinds := [], alts := [], laidByText := true, laidKinds := [.data, .data, .data, .sentinel, .sentinel], laidTests := true, laidLooks := .later }
def KnotOneUptoCardSaid : Prop := Claim7.holds Tryd.pinned (.plain (OpenSpec.upto knotOneSpec)) knotOneUptoCard

/-- THE SECOND FORM's CARD OF 'dossierlaw10.KnotLong'. -/
def knotLongUptoCard : Claim7 := { stood := { row := knotLongUptoRow, standIns := [], harness := (true, "39a5a08979d7aa77312288c22b43cf25425b268931087906a3648b403b8ce416"), looks := true }, kinds := [], alts := [], laidByText := true, laidKinds := [.data, .data, .data, .sentinel, .sentinel], laidTests := true, laidLooks := .later }
def KnotLongUptoCardSaid : Prop := Claim7.holds Tryd.pinned (.plain (OpenSpec.upto knotLongSpec)) knotLongUptoCard

/-- THE SECOND FORM's CARD OF 'dossierlaw10.KnotTakes'. -/
def knotTakesUptoCard : Claim7 := { stood := { row := knotTakesUptoRow, standIns := [], harness := (true, "39a5a08979d7aa77312288c22b43cf25425b268931087906a3648b403b8ce416"), looks := true }, kinds := [], alts := [], laidByText := true, laidKinds := [.data, .data, .data, .sentinel, .sentinel], laidTests := true, laidLooks := .later }
def KnotTakesUptoCardSaid : Prop := Claim7.holds Tryd.pinned (.plain (OpenSpec.upto knotTakesSpec)) knotTakesUptoCard

/-- THE SECOND FORM's CARD OF 'dossierlaw10.KnotOfNothing'. -/
def knotOfNothingUptoCard : Claim7 := { stood := { row := knotOfNothingUptoRow, standIns := [], harness := (true, "39a5a08979d7aa77312288c22b43cf25425b268931087906a3648b403b8ce416"), looks := true }, kinds := [], alts := [], laidByText := true, laidKinds := [.data, .data, .data, .sentinel, .sentinel], laidTests := true, laidLooks := .later }
def KnotOfNothingUptoCardSaid : Prop := Claim7.holds Tryd.pinned (.plain (OpenSpec.upto knotOfNothingSpec)) knotOfNothingUptoCard

/-- THE SECOND FORM's CARD OF 'dossierlaw10.KnotNums'. -/
def knotNumsUptoCard : Claim7 := { stood := { row := knotNumsUptoRow, standIns := [], harness := (true, "39a5a08979d7aa77312288c22b43cf25425b268931087906a3648b403b8ce416"), looks := true }, kinds := [], alts := [], laidByText := true, laidKinds := [.data, .data, .data, .sentinel, .sentinel], laidTests := true, laidLooks := .later }
def KnotNumsUptoCardSaid : Prop := Claim7.holds Tryd.pinned (.plain (OpenSpec.upto knotNumsSpec)) knotNumsUptoCard

/-- THE SECOND FORM's CARD OF 'dossierlaw10.KnotBack'. -/
def knotBackUptoCard : Claim7 := { stood := { row := knotBackUptoRow, standIns := [], harness := (true, "39a5a08979d7aa77312288c22b43cf25425b268931087906a3648b403b8ce416"), looks := true }, kinds := [], alts := [], laidByText := true, laidKinds := [.data, .data, .data, .sentinel, .sentinel], laidTests := true, laidLooks := .later }
def KnotBackUptoCardSaid : Prop := Claim7.holds Tryd.pinned (.plain (OpenSpec.upto knotBackSpec)) knotBackUptoCard
end Rows
end Go.Proofs.YtpapocmefloadaaDoor
