/-
  DERIVED. GIVEN WITH THE SEED: THE CARDS: each row of YtaojkmalpihmbaaGreatDoorRows.lean that lists a variable, with what it lists TIED to the program's text (the seventh form; the later family's looks); each row that meets fmt, with fmt's text TOLD by the authors' own Lean function (tested against real Go, not proved from fmt's source: count such statements apart). THE CARD IS WHAT COUNTS. Prove the row's statement (the work); the ties are given (YtaojkmalpihmbaaGreatDoorTie.lean); close each card by the builder's one call (the guide's Derived/Test/ToyasCard.lean, 'card_holds'). Laid BY PROGRAM, IN A SANDBOX (cutbox-door.mjs). By AI agents, Wed Nov 11 2026. No macro, syntax, notation, axiom, sorry.
-/
import Derived.Test.YtaojkmalpihmbaaGreatDoorRows
import GoSem.ClaimSeven
namespace Go.Proofs.YtaojkmalpihmbaaGreatDoor
namespace Rows

/-- THE TIED CARD OF 'tellurionlaw03.SlackOrder'. -/
def slackOrderCard : Claim7 := { stood := { row := slackOrderRow, standIns := [], harness := (true, "388f5c6d1a5f59d116c8459f75d65127e3f827dedd0d7c772f9ac7db5e549341"), looks := true }, kinds := [], alts := [], laidByText := true, laidKinds := [.data, .data, .data, .data, .pinned], laidTests := true, laidLooks := .later }
def SlackOrderCardSaid : Prop := Claim7.holds Tryz.pinned (.plain (OpenSpec.ofChange slackOrderSpec)) slackOrderCard

/-- THE TIED CARD OF 'tellurionlaw03.SlackParts'. -/
def slackPartsCard : Claim7 := { stood := { row := slackPartsRow, standIns := [], harness := (true, "388f5c6d1a5f59d116c8459f75d65127e3f827dedd0d7c772f9ac7db5e549341"), looks := true }, kinds := [], alts := [], laidByText := true, laidKinds := [.data, .data, .data, .data, .pinned], laidTests := true, laidLooks := .later }
def SlackPartsCardSaid : Prop := Claim7.holds Tryz.pinned (.plain (OpenSpec.ofChange slackPartsSpec)) slackPartsCard

/-- THE TIED CARD OF 'tellurionlaw03.SlackKnowns'. -/
def slackKnownsCard : Claim7 := { stood := { row := slackKnownsRow, standIns := [], harness := (true, "388f5c6d1a5f59d116c8459f75d65127e3f827dedd0d7c772f9ac7db5e549341"), looks := true }, kinds := [], alts := [], laidByText := true, laidKinds := [.data, .data, .data, .data, .pinned], laidTests := true, laidLooks := .later }
def SlackKnownsCardSaid : Prop := Claim7.holds Tryz.pinned (.plain (OpenSpec.ofChange slackKnownsSpec)) slackKnownsCard

/-- THE TIED CARD OF 'tellurionlaw03.SlackLosts'. -/
def slackLostsCard : Claim7 := { stood := { row := slackLostsRow, standIns := [], harness := (true, "388f5c6d1a5f59d116c8459f75d65127e3f827dedd0d7c772f9ac7db5e549341"), looks := true }, kinds := [], alts := [], laidByText := true, laidKinds := [.data, .data, .data, .data, .pinned], laidTests := true, laidLooks := .later }
def SlackLostsCardSaid : Prop := Claim7.holds Tryz.pinned (.plain (OpenSpec.ofChange slackLostsSpec)) slackLostsCard

/-- THE TIED CARD OF 'tellurionlaw03.SlackTurned'. -/
def slackTurnedCard : Claim7 := { stood := { row := slackTurnedRow, standIns := [], harness := (true, "388f5c6d1a5f59d116c8459f75d65127e3f827dedd0d7c772f9ac7db5e549341"), looks := true }, kinds := [], alts := [], laidByText := true, laidKinds := [.data, .data, .data, .data, .pinned], laidTests := true, laidLooks := .later }
def SlackTurnedCardSaid : Prop := Claim7.holds Tryz.pinned (.plain (OpenSpec.ofChange slackTurnedSpec)) slackTurnedCard

/-- THE TIED CARD OF 'tellurionlaw03.SlackAparts'. -/
def slackApartsCard : Claim7 := { stood := { row := slackApartsRow, standIns := [], harness := (true, "388f5c6d1a5f59d116c8459f75d65127e3f827dedd0d7c772f9ac7db5e549341"), looks := true }, kinds := [], alts := [], laidByText := true, laidKinds := [.data, .data, .data, .data, .pinned], laidTests := true, laidLooks := .later }
def SlackApartsCardSaid : Prop := Claim7.holds Tryz.pinned (.plain (OpenSpec.ofChange slackApartsSpec)) slackApartsCard

/-- THE TIED CARD OF 'tellurionlaw03.SlackDiffer'. -/
def slackDifferCard : Claim7 := { stood := { row := slackDifferRow, standIns := [], harness := (true, "388f5c6d1a5f59d116c8459f75d65127e3f827dedd0d7c772f9ac7db5e549341"), looks := true }, kinds := [], alts := [], laidByText := true, laidKinds := [.data, .data, .data, .data, .pinned], laidTests := true, laidLooks := .later }
def SlackDifferCardSaid : Prop := Claim7.holds Tryz.pinned (.plain (OpenSpec.ofChange slackDifferSpec)) slackDifferCard

/-- THE SECOND FORM's CARD OF 'tellurionlaw03.SlackOrder'. -/
def slackOrderUptoCard : Claim7 := { stood := { row := slackOrderUptoRow, standIns := [], harness := (true, "388f5c6d1a5f59d116c8459f75d65127e3f827dedd0d7c772f9ac7db5e549341"), looks := true }, kinds := [], alts := [], laidByText := true, laidKinds := [.data, .data, .data, .data, .pinned], laidTests := true, laidLooks := .later }
def SlackOrderUptoCardSaid : Prop := Claim7.holds Tryz.pinned (.plain (OpenSpec.upto slackOrderSpec)) slackOrderUptoCard

/-- THE SECOND FORM's CARD OF 'tellurionlaw03.SlackParts'. -/
def slackPartsUptoCard : Claim7 := { stood := { row := slackPartsUptoRow, standIns := [], harness := (true, "388f5c6d1a5f59d116c8459f75d65127e3f827dedd0d7c772f9ac7db5e549341"), looks := true }, kinds := [], alts := [], laidByText := true, laidKinds := [.data, .data, .data, .data, .pinned], laidTests := true, laidLooks := .later }
def SlackPartsUptoCardSaid : Prop := Claim7.holds Tryz.pinned (.plain (OpenSpec.upto slackPartsSpec)) slackPartsUptoCard

/-- THE SECOND FORM's CARD OF 'tellurionlaw03.SlackKnowns'. -/
def slackKnownsUptoCard : Claim7 := { stood := { row := slackKnownsUptoRow, standIns := [], harness := (true, "388f5c6d1a5f59d116c8459f75d65127e3f827dedd0d7c772f9ac7db5e549341"), looks := true }, kinds := [], alts := [], laidByText := true, laidKinds := [.data, .data, .data, .data, .pinned], laidTests := true, laidLooks := .later }
def SlackKnownsUptoCardSaid : Prop := Claim7.holds Tryz.pinned (.plain (OpenSpec.upto slackKnownsSpec)) slackKnownsUptoCard

/-- THE SECOND FORM's CARD OF 'tellurionlaw03.SlackLosts'. -/
def slackLostsUptoCard : Claim7 := { stood := { row := slackLostsUptoRow, standIns := [], harness := (true, "388f5c6d1a5f59d116c8459f75d65127e3f827dedd0d7c772f9ac7db5e549341"), looks := true }, kinds := [], alts := [], laidByText := true, laidKinds := [.data, .data, .data, .data, .pinned], laidTests := true, laidLooks := .later }
def SlackLostsUptoCardSaid : Prop := Claim7.holds Tryz.pinned (.plain (OpenSpec.upto slackLostsSpec)) slackLostsUptoCard

/-- THE SECOND FORM's CARD OF 'tellurionlaw03.SlackTurned'. -/
def slackTurnedUptoCard : Claim7 := { stood := { row := slackTurnedUptoRow, standIns := [], harness := (true, "388f5c6d1a5f59d116c8459f75d65127e3f827dedd0d7c772f9ac7db5e549341"), looks := true }, kinds := [], alts := [], laidByText := true, laidKinds := [.data, .data, .data, .data, .pinned], laidTests := true, laidLooks := .later }
def SlackTurnedUptoCardSaid : Prop := Claim7.holds Tryz.pinned (.plain (OpenSpec.upto slackTurnedSpec)) slackTurnedUptoCard

/-- THE SECOND FORM's CARD OF 'tellurionlaw03.SlackAparts'. -/
def slackApartsUptoCard : Claim7 := { stood := { row := slackApartsUptoRow, standIns := [], harness := (true, "388f5c6d1a5f59d116c8459f75d65127e3f827dedd0d7c772f9ac7db5e549341"), looks := true }, kinds := [], alts := [], laidByText := true, laidKinds := [.data, .data, .data, .data, .pinned], laidTests := true, laidLooks := .later }
def SlackApartsUptoCardSaid : Prop := Claim7.holds Tryz.pinned (.plain (OpenSpec.upto slackApartsSpec)) slackApartsUptoCard

/-- THE SECOND FORM's CARD OF 'tellurionlaw03.SlackDiffer'. -/
def slackDifferUptoCard : Claim7 := { stood := { row := slackDifferUptoRow, standIns := [], harness := (true, "388f5c6d1a5f59d116c8459f75d65127e3f827dedd0d7c772f9ac7db5e549341"), looks := true }, kinds := [], alts := [], laidByText := true, laidKinds := [.data, .data, .data, .data, .pinned], laidTests := true, laidLooks := .later }
def SlackDifferUptoCardSaid : Prop := Claim7.holds Tryz.pinned (.plain (OpenSpec.upto slackDifferSpec)) slackDifferUptoCard
end Rows
end Go.Proofs.YtaojkmalpihmbaaGreatDoor
