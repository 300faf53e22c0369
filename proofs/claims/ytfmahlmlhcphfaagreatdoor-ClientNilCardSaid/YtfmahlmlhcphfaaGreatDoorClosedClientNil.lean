/- The closed facts of the row of clientNil, joined. Printed by facts.py. -/
import Derived.Test.YtfmahlmlhcphfaaGreatDoorFactsClientNil
namespace Go.Proofs.YtfmahlmlhcphfaaGreatDoor
open Go

set_option maxRecDepth 100000 in
theorem closedClientNil : joinedFacts Tryz.prog 6 Tryz.f6 Rows.clientNilSpec Rows.clientNilRow = true :=
  (bothClientNil (bothClientNil (bothClientNil (bothClientNil (bothClientNil (bothClientNil (bothClientNil (bothClientNil (bothClientNil (bothClientNil (bothClientNil (bothClientNil (bothClientNil (bothClientNil (bothClientNil (bothClientNil (bothClientNil (bothClientNil (bothClientNil (bothClientNil (bothClientNil (bothClientNil (bothClientNil (bothClientNil (bothClientNil (bothClientNil (bothClientNil (bothClientNil (bothClientNil (bothClientNil (bothClientNil factClientNil0 factP1) factP2) factClientNil3) factClientNil4) factClientNil5) factP6) factClientNil7) factP8) factClientNil9) factClientNil10) factClientNil11) factClientNil12) factClientNil13) factClientNil14) factClientNil15) factClientNil16) factClientNil17) factClientNil18) factClientNil19) factClientNil20) factClientNil21) factClientNil22) factClientNil23) factP24) factP25) factClientNil26) factClientNil27) factClientNil28) factClientNil29) factClientNil30) factClientNil31)
end Go.Proofs.YtfmahlmlhcphfaaGreatDoor
