/- The closed facts of the row of schedNil, joined. Printed by facts.py. -/
import Derived.Test.YtfmahlmlhcphfaaGreatDoorFactsSchedNil
namespace Go.Proofs.YtfmahlmlhcphfaaGreatDoor
open Go

set_option maxRecDepth 100000 in
theorem closedSchedNil : joinedFacts Tryz.prog 7 Tryz.f7 Rows.schedNilSpec Rows.schedNilRow = true :=
  (bothSchedNil (bothSchedNil (bothSchedNil (bothSchedNil (bothSchedNil (bothSchedNil (bothSchedNil (bothSchedNil (bothSchedNil (bothSchedNil (bothSchedNil (bothSchedNil (bothSchedNil (bothSchedNil (bothSchedNil (bothSchedNil (bothSchedNil (bothSchedNil (bothSchedNil (bothSchedNil (bothSchedNil (bothSchedNil (bothSchedNil (bothSchedNil (bothSchedNil (bothSchedNil (bothSchedNil (bothSchedNil (bothSchedNil (bothSchedNil (bothSchedNil factSchedNil0 factP1) factP2) factSchedNil3) factSchedNil4) factSchedNil5) factP6) factSchedNil7) factP8) factSchedNil9) factSchedNil10) factSchedNil11) factSchedNil12) factSchedNil13) factSchedNil14) factSchedNil15) factSchedNil16) factSchedNil17) factSchedNil18) factSchedNil19) factSchedNil20) factSchedNil21) factSchedNil22) factSchedNil23) factP24) factP25) factSchedNil26) factSchedNil27) factSchedNil28) factSchedNil29) factSchedNil30) factSchedNil31)
end Go.Proofs.YtfmahlmlhcphfaaGreatDoor
