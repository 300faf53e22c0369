/- A closed run answers true. Printed by gen.lean. -/
import Derived.Test.YtfmahlmlhcphfaaGreatDoorLib
namespace Go.Proofs.YtfmahlmlhcphfaaGreatDoor
open Go.G

theorem runAw31 : isTrue (callFn envLib (run envLib 600) 39 [] (globHeap [])) = true := by decide +kernel

theorem trueAw31 : TrueCall Tryz.prog [] 39 := trueCall primsLib_ok (envOk _ _) mixed runAw31
#print axioms trueAw31
end Go.Proofs.YtfmahlmlhcphfaaGreatDoor
