/- A closed run answers true. Printed by gen.lean. -/
import Derived.Test.YtfmahlmlhcphfaaGreatDoorAw24L1
namespace Go.Proofs.YtfmahlmlhcphfaaGreatDoor
open Go.G

theorem runAw24 : isTrue (callFn envAw24_1 (run envAw24_1 600) 24 [] (globHeap [0])) = true := by decide +kernel

theorem trueAw24 : TrueCall Tryz.prog [0] 24 := trueCall primsAw24_1_ok (envOk _ _) mixed runAw24
#print axioms trueAw24
end Go.Proofs.YtfmahlmlhcphfaaGreatDoor
