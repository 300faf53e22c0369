/- Closed facts of the program. Printed by facts.py. -/
import Derived.Test.YtfmahlmlhcphfaaGreatDoorProg
import Derived.JoinedOf
import Derived.KernelRfl
namespace Go.Proofs.YtfmahlmlhcphfaaGreatDoor
open Go

theorem factP1 : laidOutB Tryz.prog = true := by kernel_rfl
theorem factP2 : mapsRowed Tryz.prog = true := by kernel_rfl
theorem factP6 : (Tryz.prog.stops == []) = true := by kernel_rfl
theorem factP8 : (Tryz.prog.stopKnobs == []) = true := by kernel_rfl
theorem factP24 : Tryz.prog.stopsHeard = true := by kernel_rfl
theorem factP25 : Tryz.prog.mayEnter = true := by kernel_rfl
end Go.Proofs.YtfmahlmlhcphfaaGreatDoor
