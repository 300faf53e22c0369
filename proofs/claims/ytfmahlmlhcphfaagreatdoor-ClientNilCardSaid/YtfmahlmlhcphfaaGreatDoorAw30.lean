/- A closed run answers true. Printed by gen.lean. -/
import Derived.Test.YtfmahlmlhcphfaaGreatDoorAw30L0
namespace Go.Proofs.YtfmahlmlhcphfaaGreatDoor
open Go.G

theorem runAw30 : isTrue (callFn envAw30_0 (run envAw30_0 600) 29 [] (globHeap [0])) = true := by decide +kernel

theorem trueAw30 : TrueCall Tryz.prog [0] 29 := trueCall primsAw30_0_ok (envOk _ _) mixed runAw30
#print axioms trueAw30
end Go.Proofs.YtfmahlmlhcphfaaGreatDoor
