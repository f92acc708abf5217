/-
  DERIVED. GIVEN WITH THE SEED: THE CARDS: each row of YtlcpociffjmknaaDoorRows.lean that lists a variable, with what it lists TIED to the program's text (the seventh form; the later family's looks); each row that meets fmt, with fmt's text TOLD by the authors' own Lean function (tested against real Go, not proved from fmt's source: count such statements apart). THE CARD IS WHAT COUNTS. Prove the row's statement (the work); the ties are given (YtlcpociffjmknaaDoorTie.lean); close each card by the builder's one call (the guide's Derived/Test/ToyasCard.lean, 'card_holds'). Laid BY PROGRAM, IN A SANDBOX (cutbox-door.mjs). By AI agents, Wed Nov 11 2026. No macro, syntax, notation, axiom, sorry.
-/
import Derived.Test.YtlcpociffjmknaaDoorRows
import GoSem.ClaimSeven
namespace Go.Proofs.YtlcpociffjmknaaDoor
namespace Rows

/-- THE TIED CARD OF 'dossierlaw1.DecTexts'. -/
def decTextsCard : Claim7 := { stood := { row := decTextsRow, standIns := [], harness := (true, "8c60c5684711b3fc6cde92abb8701a4f862fdc670122530f04c75a16187cabf4"), looks := true }, kinds := [], alts := [], laidByText := true, laidKinds := [.data, .data, .data, .data, .sentinel, .sentinel, .pinned], laidTests := true, laidLooks := .later }
def DecTextsCardSaid : Prop := Claim7.holds Tryd.pinned (.plain (OpenSpec.ofChange decTextsSpec)) decTextsCard

/-- THE TIED CARD OF 'dossierlaw1.DecSigns'. -/
def decSignsCard : Claim7 := { stood := { row := decSignsRow, standIns := [], harness := (true, "8c60c5684711b3fc6cde92abb8701a4f862fdc670122530f04c75a16187cabf4"), looks := true }, kinds := [], alts := [], laidByText := true, laidKinds := [.data, .data, .data, .data, .sentinel, .sentinel, .pinned], laidTests := true, laidLooks := .later }
def DecSignsCardSaid : Prop := Claim7.holds Tryd.pinned (.plain (OpenSpec.ofChange decSignsSpec)) decSignsCard

/-- THE TIED CARD OF 'dossierlaw1.DecDivides'. -/
def decDividesCard : Claim7 := { stood := { row := decDividesRow, standIns := [], harness := (true, "8c60c5684711b3fc6cde92abb8701a4f862fdc670122530f04c75a16187cabf4"), looks := true }, kinds := [], alts := [], laidByText := true, laidKinds := [.data, .data, .data, .data, .sentinel, .sentinel, .pinned], laidTests := true, laidLooks := .later }
def DecDividesCardSaid : Prop := Claim7.holds Tryd.pinned (.plain (OpenSpec.ofChange decDividesSpec)) decDividesCard

/-- THE TIED CARD OF 'dossierlaw1.DecHalves'. -/
def decHalvesCard : Claim7 := { stood := { row := decHalvesRow, standIns := [], harness := (true, "8c60c5684711b3fc6cde92abb8701a4f862fdc670122530f04c75a16187cabf4"), looks := true }, kinds := [], alts := [], laidByText := true, laidKinds := [.data, .data, .data, .data, .sentinel, .sentinel, .pinned], laidTests := true, laidLooks := .later }
def DecHalvesCardSaid : Prop := Claim7.holds Tryd.pinned (.plain (OpenSpec.ofChange decHalvesSpec)) decHalvesCard

/-- THE TIED CARD OF 'dossierlaw1.DecOver'. -/
def decOverCard : Claim7 := { stood := { row := decOverRow, standIns := [], harness := (true, "8c60c5684711b3fc6cde92abb8701a4f862fdc670122530f04c75a16187cabf4"), looks := true }, kinds := [], alts := [], laidByText := true, laidKinds := [.data, .data, .data, .data, .sentinel, .sentinel, .pinned], laidTests := true, laidLooks := .later }
def DecOverCardSaid : Prop := Claim7.holds Tryd.pinned (.plain (OpenSpec.ofChange decOverSpec)) decOverCard

/-- THE TIED CARD OF 'dossierlaw1.DecFits'. -/
def decFitsCard : Claim7 := { stood := { row := decFitsRow, standIns := [], harness := (true, "8c60c5684711b3fc6cde92abb8701a4f862fdc670122530f04c75a16187cabf4"), looks := true }, kinds := [], alts := [], laidByText := true, laidKinds := [.data, .data, .data, .data, .sentinel, .sentinel, .pinned], laidTests := true, laidLooks := .later }
def DecFitsCardSaid : Prop := Claim7.holds Tryd.pinned (.plain (OpenSpec.ofChange decFitsSpec)) decFitsCard

/-- THE TIED CARD OF 'dossierlaw1.DecWholes'. -/
def decWholesCard : Claim7 := { stood := { row := decWholesRow, standIns := [], harness := (true, "8c60c5684711b3fc6cde92abb8701a4f862fdc670122530f04c75a16187cabf4"), looks := true }, kinds := [], alts := [], laidByText := true, laidKinds := [.data, .data, .data, .data, .sentinel, .sentinel, .pinned], laidTests := true, laidLooks := .later }
def DecWholesCardSaid : Prop := Claim7.holds Tryd.pinned (.plain (OpenSpec.ofChange decWholesSpec)) decWholesCard

/-- THE TIED CARD OF 'dossierlaw1.DecOrders'. -/
def decOrdersCard : Claim7 := { stood := { row := decOrdersRow, standIns := [], harness := (true, "8c60c5684711b3fc6cde92abb8701a4f862fdc670122530f04c75a16187cabf4"), looks := true }, kinds := [], alts := [], laidByText := true, laidKinds := [.data, .data, .data, .data, .sentinel, .sentinel, .pinned], laidTests := true, laidLooks := .later }
def DecOrdersCardSaid : Prop := Claim7.holds Tryd.pinned (.plain (OpenSpec.ofChange decOrdersSpec)) decOrdersCard

/-- THE TIED CARD OF 'dossierlaw1.DecFloors'. -/
def decFloorsCard : Claim7 := { stood := { row := decFloorsRow, standIns := [], harness := (true, "8c60c5684711b3fc6cde92abb8701a4f862fdc670122530f04c75a16187cabf4"), looks := true }, kinds := [], alts := [], laidByText := true, laidKinds := [.data, .data, .data, .data, .sentinel, .sentinel, .pinned], laidTests := true, laidLooks := .later }
def DecFloorsCardSaid : Prop := Claim7.holds Tryd.pinned (.plain (OpenSpec.ofChange decFloorsSpec)) decFloorsCard

/-- THE TIED CARD OF 'dossierlaw1.DecTells'. -/
def decTellsCard : Claim7 := { stood := { row := decTellsRow, standIns := [], harness := (true, "8c60c5684711b3fc6cde92abb8701a4f862fdc670122530f04c75a16187cabf4"), looks := true }, kinds := [], alts := [], laidByText := true, laidKinds := [.data, .data, .data, .data, .sentinel, .sentinel, .pinned], laidTests := true, laidLooks := .later }
def DecTellsCardSaid : Prop := Claim7.holds Tryd.pinned (.plain (OpenSpec.ofChange decTellsSpec)) decTellsCard

/-- THE SECOND FORM's CARD OF 'dossierlaw1.DecTexts'. -/
def decTextsUptoCard : Claim7 := { stood := { row := decTextsUptoRow, standIns := [], harness := (true, "8c60c5684711b3fc6cde92abb8701a4f862fdc670122530f04c75a16187cabf4"), looks := true }, kinds := [], alts := [], laidByText := true, laidKinds := [.data, .data, .data, .data, .sentinel, .sentinel, .pinned], laidTests := true, laidLooks := .later }
def DecTextsUptoCardSaid : Prop := Claim7.holds Tryd.pinned (.plain (OpenSpec.upto decTextsSpec)) decTextsUptoCard

/-- THE SECOND FORM's CARD OF 'dossierlaw1.DecSigns'. -/
def decSignsUptoCard : Claim7 := { stood := { row := decSignsUptoRow, standIns := [], harness := (true, "8c60c5684711b3fc6cde92abb8701a4f862fdc670122530f04c75a16187cabf4"), looks := true }, kinds := [], alts := [], laidByText := true, laidKinds := [.data, .data, .data, .data, .sentinel, .sentinel, .pinned], laidTests := true, laidLooks := .later }
def DecSignsUptoCardSaid : Prop := Claim7.holds Tryd.pinned (.plain (OpenSpec.upto decSignsSpec)) decSignsUptoCard

/-- THE SECOND FORM's CARD OF 'dossierlaw1.DecDivides'. -/
def decDividesUptoCard : Claim7 := { stood := { row := decDividesUptoRow, standIns := [], harness := (true, "8c60c5684711b3fc6cde92abb8701a4f862fdc670122530f04c75a16187cabf4"), looks := true }, kinds := [], alts := [], laidByText := true, laidKinds := [.data, .data, .data, .data, .sentinel, .sentinel, .pinned], laidTests := true, laidLooks := .later }
def DecDividesUptoCardSaid : Prop := Claim7.holds Tryd.pinned (.plain (OpenSpec.upto decDividesSpec)) decDividesUptoCard

/-- THE SECOND FORM's CARD OF 'dossierlaw1.DecHalves'. -/
def decHalvesUptoCard : Claim7 := { stood := { row := decHalvesUptoRow, standIns := [], harness := (true, "8c60c5684711b3fc6cde92abb8701a4f862fdc670122530f04c75a16187cabf4"), looks := true }, kinds := [], alts := [], laidByText := true, laidKinds := [.data, .data, .data, .data, .sentinel, .sentinel, .pinned], laidTests := true, laidLooks := .later }
def DecHalvesUptoCardSaid : Prop := Claim7.holds Tryd.pinned (.plain (OpenSpec.upto decHalvesSpec)) decHalvesUptoCard

/-- THE SECOND FORM's CARD OF 'dossierlaw1.DecOver'. -/
def decOverUptoCard : Claim7 := { stood := { row := decOverUptoRow, standIns := [], harness := (true, "8c60c5684711b3fc6cde92abb8701a4f862fdc670122530f04c75a16187cabf4"), looks := true }, kinds := [], alts := [], laidByText := true, laidKinds := [.data, .data, .data, .data, .sentinel, .sentinel, .pinned], laidTests := true, laidLooks := .later }
def DecOverUptoCardSaid : Prop := Claim7.holds Tryd.pinned (.plain (OpenSpec.upto decOverSpec)) decOverUptoCard

/-- THE SECOND FORM's CARD OF 'dossierlaw1.DecFits'. -/
def decFitsUptoCard : Claim7 := { stood := { row := decFitsUptoRow, standIns := [], harness := (true, "8c60c5684711b3fc6cde92abb8701a4f862fdc670122530f04c75a16187cabf4"), looks := true }, kinds := [], alts := [], laidByText := true, laidKinds := [.data, .data, .data, .data, .sentinel, .sentinel, .pinned], laidTests := true, laidLooks := .later }
def DecFitsUptoCardSaid : Prop := Claim7.holds Tryd.pinned (.plain (OpenSpec.upto decFitsSpec)) decFitsUptoCard

/-- THE SECOND FORM's CARD OF 'dossierlaw1.DecWholes'. -/
def decWholesUptoCard : Claim7 := { stood := { row := decWholesUptoRow, standIns := [], harness := (true, "8c60c5684711b3fc6cde92abb8701a4f862fdc670122530f04c75a16187cabf4"), looks := true }, kinds := [], alts := [], laidByText := true, laidKinds := [.data, .data, .data, .data, .sentinel, .sentinel, .pinned], laidTests := true, laidLooks := .later }
def DecWholesUptoCardSaid : Prop := Claim7.holds Tryd.pinned (.plain (OpenSpec.upto decWholesSpec)) decWholesUptoCard

/-- THE SECOND FORM's CARD OF 'dossierlaw1.DecOrders'. -/
def decOrdersUptoCard : Claim7 := { stood := { row := decOrdersUptoRow, standIns := [], harness := (true, "8c60c5684711b3fc6cde92abb8701a4f862fdc670122530f04c75a16187cabf4"), looks := true }, kinds := [], alts := [], laidByText := true, laidKinds := [.data, .data, .data, .data, .sentinel, .sentinel, .pinned], laidTests := true, laidLooks := .later }
def DecOrdersUptoCardSaid : Prop := Claim7.holds Tryd.pinned (.plain (OpenSpec.upto decOrdersSpec)) decOrdersUptoCard

/-- THE SECOND FORM's CARD OF 'dossierlaw1.DecFloors'. -/
def decFloorsUptoCard : Claim7 := { stood := { row := decFloorsUptoRow, standIns := [], harness := (true, "8c60c5684711b3fc6cde92abb8701a4f862fdc670122530f04c75a16187cabf4"), looks := true }, kinds := [], alts := [], laidByText := true, laidKinds := [.data, .data, .data, .data, .sentinel, .sentinel, .pinned], laidTests := true, laidLooks := .later }
def DecFloorsUptoCardSaid : Prop := Claim7.holds Tryd.pinned (.plain (OpenSpec.upto decFloorsSpec)) decFloorsUptoCard

/-- THE SECOND FORM's CARD OF 'dossierlaw1.DecTells'. -/
def decTellsUptoCard : Claim7 := { stood := { row := decTellsUptoRow, standIns := [], harness := (true, "8c60c5684711b3fc6cde92abb8701a4f862fdc670122530f04c75a16187cabf4"), looks := true }, kinds := [], alts := [], laidByText := true, laidKinds := [.data, .data, .data, .data, .sentinel, .sentinel, .pinned], laidTests := true, laidLooks := .later }
def DecTellsUptoCardSaid : Prop := Claim7.holds Tryd.pinned (.plain (OpenSpec.upto decTellsSpec)) decTellsUptoCard
end Rows
end Go.Proofs.YtlcpociffjmknaaDoor
