/- The closed facts of the row of autoNil, joined. Printed by facts.py. -/
import Derived.Test.YtfmahlmlhcphfaaGreatDoorFactsAutoNil
namespace Go.Proofs.YtfmahlmlhcphfaaGreatDoor
open Go

set_option maxRecDepth 100000 in
theorem closedAutoNil : joinedFacts Tryz.prog 5 Tryz.f5 Rows.autoNilSpec Rows.autoNilRow = true :=
  (bothAutoNil (bothAutoNil (bothAutoNil (bothAutoNil (bothAutoNil (bothAutoNil (bothAutoNil (bothAutoNil (bothAutoNil (bothAutoNil (bothAutoNil (bothAutoNil (bothAutoNil (bothAutoNil (bothAutoNil (bothAutoNil (bothAutoNil (bothAutoNil (bothAutoNil (bothAutoNil (bothAutoNil (bothAutoNil (bothAutoNil (bothAutoNil (bothAutoNil (bothAutoNil (bothAutoNil (bothAutoNil (bothAutoNil (bothAutoNil (bothAutoNil factAutoNil0 factP1) factP2) factAutoNil3) factAutoNil4) factAutoNil5) factP6) factAutoNil7) factP8) factAutoNil9) factAutoNil10) factAutoNil11) factAutoNil12) factAutoNil13) factAutoNil14) factAutoNil15) factAutoNil16) factAutoNil17) factAutoNil18) factAutoNil19) factAutoNil20) factAutoNil21) factAutoNil22) factAutoNil23) factP24) factP25) factAutoNil26) factAutoNil27) factAutoNil28) factAutoNil29) factAutoNil30) factAutoNil31)
end Go.Proofs.YtfmahlmlhcphfaaGreatDoor
