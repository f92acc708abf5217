/-
  DERIVED. GIVEN WITH THE SEED: THE CARDS: each row of YtjmdahjafdhmdaaDoorRows.lean that lists a variable, with what it lists TIED to the program's text (the seventh form; the later family's looks); each row that meets fmt, with fmt's text TOLD by the authors' own Lean function (tested against real Go, not proved from fmt's source: count such statements apart). THE CARD IS WHAT COUNTS. Prove the row's statement (the work); the ties are given (YtjmdahjafdhmdaaDoorTie.lean); close each card by the builder's one call (the guide's Derived/Test/ToyasCard.lean, 'card_holds'). Laid BY PROGRAM, IN A SANDBOX (cutbox-door.mjs). By AI agents, Wed Nov 11 2026. No macro, syntax, notation, axiom, sorry.
-/
import Derived.Test.YtjmdahjafdhmdaaDoorRows
import GoSem.ClaimSeven
namespace Go.Proofs.YtjmdahjafdhmdaaDoor
namespace Rows

/-- THE TIED CARD OF 'dossierlaw19.LogTells'. -/
def logTellsCard : Claim7 := { stood := { row := logTellsRow, standIns := [], harness := (true, "95f7439f4b687a3c1f2d67d9f7174f476cc8b1465461a51d6d95716493d5bed1"), looks := true }, kinds := [], alts := [], laidByText := true, laidKinds := [.data, .data, .data, .sentinel, .sentinel], laidTests := true, laidLooks := .later }
def LogTellsCardSaid : Prop := Claim7.holds Tryd.pinned (.plain (OpenSpec.ofChange logTellsSpec)) logTellsCard

/-- THE TIED CARD OF 'dossierlaw19.LogBack'. -/
def logBackCard : Claim7 := { stood := { row := logBackRow, standIns := [], harness := (true, "95f7439f4b687a3c1f2d67d9f7174f476cc8b1465461a51d6d95716493d5bed1"), looks := true }, kinds := [], alts := [], laidByText := true, laidKinds := [.data, .data, .data, .sentinel, .sentinel], laidTests := true, laidLooks := .later }
def LogBackCardSaid : Prop := Claim7.holds Tryd.pinned (.plain (OpenSpec.ofChange logBackSpec)) logBackCard

/-- THE TIED CARD OF 'dossierlaw19.LogTurned'. -/
def logTurnedCard : Claim7 := { stood := { row := logTurnedRow, standIns := [], harness := (true, "95f7439f4b687a3c1f2d67d9f7174f476cc8b1465461a51d6d95716493d5bed1"), looks := true }, kinds := [], alts := [], laidByText := true, laidKinds := [.data, .data, .data, .sentinel, .sentinel], laidTests := true, laidLooks := .later }
def LogTurnedCardSaid : Prop := Claim7.holds Tryd.pinned (.plain (OpenSpec.ofChange logTurnedSpec)) logTurnedCard

/-- THE TIED CARD OF 'dossierlaw19.LogCounts'. -/
def logCountsCard : Claim7 := { stood := { row := logCountsRow, standIns := [], harness := (true, "95f7439f4b687a3c1f2d67d9f7174f476cc8b1465461a51d6d95716493d5bed1"), looks := true }, kinds := [], alts := [], laidByText := true, laidKinds := [.data, .data, .data, .sentinel, .sentinel], laidTests := true, laidLooks := .later }
def LogCountsCardSaid : Prop := Claim7.holds Tryd.pinned (.plain (OpenSpec.ofChange logCountsSpec)) logCountsCard

/-- THE TIED CARD OF 'dossierlaw19.LogOfNothing'. -/
def logOfNothingCard : Claim7 := { stood := { row := logOfNothingRow, standIns := [], harness := (true, "95f7439f4b687a3c1f2d67d9f7174f476cc8b1465461a51d6d95716493d5bed1"), looks := true }, kinds := [], alts := [], laidByText := true, laidKinds := [.data, .data, .data, .sentinel, .sentinel], laidTests := true, laidLooks := .later }
def LogOfNothingCardSaid : Prop := Claim7.holds Tryd.pinned (.plain (OpenSpec.ofChange logOfNothingSpec)) logOfNothingCard

/-- THE TIED CARD OF 'dossierlaw19.LogLasts'. -/
def logLastsCard : Claim7 := { stood := { row := logLastsRow, standIns := [], harness := (true, "95f7439f4b687a3c1f2d67d9f7174f476cc8b1465461a51d6d95716493d5bed1"), looks := true }, kinds := [], alts := [], laidByText := true, laidKinds := [.data, .data, .data, .sentinel, .sentinel], laidTests := true, laidLooks := .later }
def LogLastsCardSaid : Prop := Claim7.holds Tryd.pinned (.plain (OpenSpec.ofChange logLastsSpec)) logLastsCard

/-- THE TIED CARD OF 'dossierlaw19.LogPlays'. -/
def logPlaysCard : Claim7 := { stood := { row := logPlaysRow, standIns := [], harness := (true, "95f7439f4b687a3c1f2d67d9f7174f476cc8b1465461a51d6d95716493d5bed1"), looks := true }, kinds := [], alts := [], laidByText := true, laidKinds := [.data, .data, .data, .sentinel, .sentinel], laidTests := true, laidLooks := .later }
def LogPlaysCardSaid : Prop := Claim7.holds Tryd.pinned (.plain (OpenSpec.ofChange logPlaysSpec)) logPlaysCard

/-- THE SECOND FORM's CARD OF 'dossierlaw19.LogTells'. -/
def logTellsUptoCard : Claim7 := { stood := { row := logTellsUptoRow, standIns := [], harness := (true, "95f7439f4b687a3c1f2d67d9f7174f476cc8b1465461a51d6d95716493d5bed1"), looks := true }, kinds := [], alts := [], laidByText := true, laidKinds := [.data, .data, .data, .sentinel, .sentinel], laidTests := true, laidLooks := .later }
def LogTellsUptoCardSaid : Prop := Claim7.holds Tryd.pinned (.plain (OpenSpec.upto logTellsSpec)) logTellsUptoCard

/-- THE SECOND FORM's CARD OF 'dossierlaw19.LogBack'. -/
def logBackUptoCard : Claim7 := { stood := { row := logBackUptoRow, standIns := [], harness := (true, "95f7439f4b687a3c1f2d67d9f7174f476cc8b1465461a51d6d95716493d5bed1"), looks := true }, kinds := [], alts := [], laidByText := true, laidKinds := [.data, .data, .data, .sentinel, .sentinel], laidTests := true, laidLooks := .later }
def LogBackUptoCardSaid : Prop := Claim7.holds Tryd.pinned (.plain (OpenSpec.upto logBackSpec)) logBackUptoCard

/-- THE SECOND FORM's CARD OF 'dossierlaw19.LogTurned'. -/
def logTurnedUptoCard : Claim7 := { stood := { row := logTurnedUptoRow, standIns := [], harness := (true, "95f7439f4b687a3c1f2d67d9f7174f476cc8b1465461a51d6d95716493d5bed1"), looks := true }, kinds := [], alts := [], laidByText := true, laidKinds := [.data, .data, .data, .sentinel, .sentinel], laidTests := true, laidLooks := .later }
def LogTurnedUptoCardSaid : Prop := Claim7.holds Tryd.pinned (.plain (OpenSpec.upto logTurnedSpec)) logTurnedUptoCard

/-- THE SECOND FORM's CARD OF 'dossierlaw19.LogCounts'. -/
def logCountsUptoCard : Claim7 := { stood := { row := logCountsUptoRow, standIns := [], harness := (true, "95f7439f4b687a3c1f2d67d9f7174f476cc8b1465461a51d6d95716493d5bed1"), looks := true }, kinds := [], alts := [], laidByText := true, laidKinds := [.data, .data, .data, .sentinel, .sentinel], laidTests := true, laidLooks := .later }
def LogCountsUptoCardSaid : Prop := Claim7.holds Tryd.pinned (.plain (OpenSpec.upto logCountsSpec)) logCountsUptoCard

/-- THE SECOND FORM's CARD OF 'dossierlaw19.LogOfNothing'. -/
def logOfNothingUptoCard : Claim7 := { stood := { row := logOfNothingUptoRow, standIns := [], harness := (true, "95f7439f4b687a3c1f2d67d9f7174f476cc8b1465461a51d6d95716493d5bed1"), looks := true }, kinds := [], alts := [], laidByText := true, laidKinds := [.data, .data, .data, .sentinel, .sentinel], laidTests := true, laidLooks := .later }
def LogOfNothingUptoCardSaid : Prop := Claim7.holds Tryd.pinned (.plain (OpenSpec.upto logOfNothingSpec)) logOfNothingUptoCard

/-- THE SECOND FORM's CARD OF 'dossierlaw19.LogLasts'. -/
def logLastsUptoCard : Claim7 := { stood := { row := logLastsUptoRow, standIns := [], harness := (true, "95f7439f4b687a3c1f2d67d9f7174f476cc8b1465461a51d6d95716493d5bed1"), looks := true }, kinds := [], alts := [], laidByText := true, laidKinds := [.data, .data, .data, .sentinel, .sentinel], laidTests := true, laidLooks := .later }
def LogLastsUptoCardSaid : Prop := Claim7.holds Tryd.pinned (.plain (OpenSpec.upto logLastsSpec)) logLastsUptoCard

/-- THE SECOND FORM's CARD OF 'dossierlaw19.LogPlays'. -/
def logPlaysUptoCard : Claim7 := { stood := { row := logPlaysUptoRow, standIns := [], harness := (true, "95f7439f4b687a3c1f2d67d9f7174f476cc8b1465461a51d6d95716493d5bed1"), looks := true }, kinds := [], alts := [], laidByText := true, laidKinds := [.data, .data, .data, .sentinel, .sentinel], laidTests := true, laidLooks := .later }
def LogPlaysUptoCardSaid : Prop := Claim7.holds Tryd.pinned (.plain (OpenSpec.upto logPlaysSpec)) logPlaysUptoCard
end Rows
end Go.Proofs.YtjmdahjafdhmdaaDoor
