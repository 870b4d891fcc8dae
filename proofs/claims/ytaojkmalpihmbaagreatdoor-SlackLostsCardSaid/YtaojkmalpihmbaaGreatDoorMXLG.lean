/- SlackLosts's tied card: for every input the law returns true, and what came in reads as before; the conditions are the card's own: five tables of the library hold what the program's text lays. -/
import Derived.Test.YtaojkmalpihmbaaGreatDoorMXLE
namespace Go.Proofs.YtaojkmalpihmbaaGreatDoor
theorem slackLosts_card_holds : Rows.SlackLostsCardSaid := M.losts_card
#print axioms slackLosts_card_holds
end Go.Proofs.YtaojkmalpihmbaaGreatDoor
