/- SlackParts's tied card: for every input the law returns true, and what came in reads as before; the conditions are the card's own: five tables of the library hold what the program's text lays. -/
import Derived.Test.YtaojkmalpihmbaaGreatDoorMXPE
namespace Go.Proofs.YtaojkmalpihmbaaGreatDoor
theorem slackParts_card_holds : Rows.SlackPartsCardSaid := M.parts_card
#print axioms slackParts_card_holds
end Go.Proofs.YtaojkmalpihmbaaGreatDoor
