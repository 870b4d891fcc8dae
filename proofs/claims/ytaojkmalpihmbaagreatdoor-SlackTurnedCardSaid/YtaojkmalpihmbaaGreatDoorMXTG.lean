/- SlackTurned's tied card: for every input the law returns true, and what came in reads as before; the conditions are the card's own: five tables of the library hold what the program's text lays. -/
import Derived.Test.YtaojkmalpihmbaaGreatDoorMXTE
namespace Go.Proofs.YtaojkmalpihmbaaGreatDoor
theorem slackTurned_card_holds : Rows.SlackTurnedCardSaid := M.turned_law_card
#print axioms slackTurned_card_holds
end Go.Proofs.YtaojkmalpihmbaaGreatDoor
