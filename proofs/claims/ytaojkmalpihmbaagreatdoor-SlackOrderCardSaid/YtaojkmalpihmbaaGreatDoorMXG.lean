/- SlackOrder's tied card: for every input the law returns true, and what came in reads as before; the conditions are the card's own: five tables of the library hold what the program's text lays. -/
import Derived.Test.YtaojkmalpihmbaaGreatDoorMXE
namespace Go.Proofs.YtaojkmalpihmbaaGreatDoor
theorem slackOrder_card_holds : Rows.SlackOrderCardSaid := M.order_card
#print axioms slackOrder_card_holds
end Go.Proofs.YtaojkmalpihmbaaGreatDoor
