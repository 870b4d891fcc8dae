/- SlackKnowns's tied card: for every input the law returns true, and what came in reads as before; the conditions are the card's own: five tables of the library hold what the program's text lays. -/
import Derived.Test.YtaojkmalpihmbaaGreatDoorMXKE
namespace Go.Proofs.YtaojkmalpihmbaaGreatDoor
theorem slackKnowns_card_holds : Rows.SlackKnownsCardSaid := M.knowns_card
#print axioms slackKnowns_card_holds
end Go.Proofs.YtaojkmalpihmbaaGreatDoor
