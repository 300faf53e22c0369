/- Closed facts of the row of clientNil. Printed by facts.py. -/
import Derived.Test.YtfmahlmlhcphfaaGreatDoorFactsP
import Derived.Test.YtfmahlmlhcphfaaGreatDoorRows
import Derived.JoinedOf
import Derived.KernelRfl
namespace Go.Proofs.YtfmahlmlhcphfaaGreatDoor
open Go

theorem bothClientNil {a b : Bool} (ha : a = true) (hb : b = true) : (a && b) = true := by rw [ha, hb]; rfl

theorem factClientNil0 : (Rows.clientNilRow.wf (OpenSpec.ofChange Rows.clientNilSpec)) = true := by kernel_rfl
theorem factClientNil3 : (Tryz.f6.params.all (Tryz.prog.readableRec ·)) = true := by kernel_rfl
theorem factClientNil4 : (namedTie Tryz.prog Rows.clientNilRow.named Rows.clientNilSpec.vars) = true := by kernel_rfl
theorem factClientNil5 : ((Rows.clientNilRow.stops == [])) = true := by kernel_rfl
theorem factClientNil7 : ((Rows.clientNilRow.knobs == [])) = true := by kernel_rfl
theorem factClientNil9 : ((Rows.clientNilRow.inPlace == Tryz.prog.inPlace 6)) = true := by kernel_rfl
theorem factClientNil10 : ((Rows.clientNilRow.unfollowed == Tryz.prog.unfollowed 6)) = true := by kernel_rfl
theorem factClientNil11 : ((Rows.clientNilRow.recurses == Tryz.prog.recurses 6)) = true := by kernel_rfl
theorem factClientNil12 : ((Rows.clientNilRow.named == Tryz.prog.varsNamed 6)) = true := by kernel_rfl
theorem factClientNil13 : ((Rows.clientNilRow.maps == (Tryz.f6.params.toList ++ Rows.clientNilSpec.plain.varTypes Tryz.prog).any (Tryz.prog.mapsRec ·))) = true := by kernel_rfl
theorem factClientNil14 : ((Rows.clientNilRow.ifaces == (Tryz.f6.params.toList ++ Rows.clientNilSpec.plain.varTypes Tryz.prog).any (Tryz.prog.ifacesRec ·))) = true := by kernel_rfl
theorem factClientNil15 : ((Rows.clientNilRow.mapsOut == Tryz.prog.mapsAmong Tryz.f6.resultTypes.toList)) = true := by kernel_rfl
theorem factClientNil16 : ((Rows.clientNilRow.loops == (Tryz.f6.params.toList ++ Rows.clientNilSpec.plain.varTypes Tryz.prog).any (Tryz.prog.loopsFrom ·))) = true := by kernel_rfl
theorem factClientNil17 : ((Rows.clientNilRow.wideKeys == (Tryz.f6.params.toList ++ Rows.clientNilSpec.plain.varTypes Tryz.prog ++ Tryz.f6.resultTypes.toList).any (Tryz.prog.wideKeysFrom ·))) = true := by kernel_rfl
theorem factClientNil18 : (Rows.clientNilSpec.vars.all (Tryz.prog.varReadable ·)) = true := by kernel_rfl
theorem factClientNil19 : (Tryz.f6.resultTypes.all (fun t => Tryz.prog.readableRec t && decide (t < Tryz.prog.types.size))) = true := by kernel_rfl
theorem factClientNil20 : ((Rows.clientNilRow.ifacesOut == Tryz.f6.resultTypes.toList.any (Tryz.prog.ifacesRec ·))) = true := by kernel_rfl
theorem factClientNil21 : ((Rows.clientNilRow.loopsOut == Tryz.f6.resultTypes.toList.any (Tryz.prog.loopsFrom ·))) = true := by kernel_rfl
theorem factClientNil22 : ((Rows.clientNilRow.plainKeys == Tryz.prog.plainKeys)) = true := by kernel_rfl
theorem factClientNil23 : (Rows.clientNilRow.shortTexts.isNone) = true := by kernel_rfl
theorem factClientNil26 : ((Rows.clientNilRow.lifted == Tryz.prog.liftsFinal)) = true := by kernel_rfl
theorem factClientNil27 : ((Tryz.prog.make == some Rows.clientNilRow.make)) = true := by kernel_rfl
theorem factClientNil28 : ((Rows.clientNilRow.kinds == (if Rows.clientNilRow.domain.isEmpty then [] else Tryz.f6.params.toList.map fun t => match Tryz.prog.underlying t with | some (.int k) => some k | _ => none))) = true := by kernel_rfl
theorem factClientNil29 : ((Rows.clientNilRow.pinned == Rows.clientNilRow.pinnedBy)) = true := by kernel_rfl
theorem factClientNil30 : ((Rows.clientNilRow.veiled == (Tryz.f6.params.toList ++ Rows.clientNilSpec.plain.varTypes Tryz.prog ++ Tryz.f6.resultTypes.toList).any (Tryz.prog.veiledRec ·))) = true := by kernel_rfl
theorem factClientNil31 : (Rows.clientNilRow.veiledFits Tryz.prog Tryz.f6.params.toList (Tryz.f6.params.toList ++ Rows.clientNilSpec.plain.varTypes Tryz.prog ++ Tryz.f6.resultTypes.toList)) = true := by kernel_rfl
end Go.Proofs.YtfmahlmlhcphfaaGreatDoor
