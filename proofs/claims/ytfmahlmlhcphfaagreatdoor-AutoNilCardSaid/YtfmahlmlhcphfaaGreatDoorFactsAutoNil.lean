/- Closed facts of the row of autoNil. Printed by facts.py. -/
import Derived.Test.YtfmahlmlhcphfaaGreatDoorFactsP
import Derived.Test.YtfmahlmlhcphfaaGreatDoorRows
import Derived.JoinedOf
import Derived.KernelRfl
namespace Go.Proofs.YtfmahlmlhcphfaaGreatDoor
open Go

theorem bothAutoNil {a b : Bool} (ha : a = true) (hb : b = true) : (a && b) = true := by rw [ha, hb]; rfl

theorem factAutoNil0 : (Rows.autoNilRow.wf (OpenSpec.ofChange Rows.autoNilSpec)) = true := by kernel_rfl
theorem factAutoNil3 : (Tryz.f5.params.all (Tryz.prog.readableRec ·)) = true := by kernel_rfl
theorem factAutoNil4 : (namedTie Tryz.prog Rows.autoNilRow.named Rows.autoNilSpec.vars) = true := by kernel_rfl
theorem factAutoNil5 : ((Rows.autoNilRow.stops == [])) = true := by kernel_rfl
theorem factAutoNil7 : ((Rows.autoNilRow.knobs == [])) = true := by kernel_rfl
theorem factAutoNil9 : ((Rows.autoNilRow.inPlace == Tryz.prog.inPlace 5)) = true := by kernel_rfl
theorem factAutoNil10 : ((Rows.autoNilRow.unfollowed == Tryz.prog.unfollowed 5)) = true := by kernel_rfl
theorem factAutoNil11 : ((Rows.autoNilRow.recurses == Tryz.prog.recurses 5)) = true := by kernel_rfl
theorem factAutoNil12 : ((Rows.autoNilRow.named == Tryz.prog.varsNamed 5)) = true := by kernel_rfl
theorem factAutoNil13 : ((Rows.autoNilRow.maps == (Tryz.f5.params.toList ++ Rows.autoNilSpec.plain.varTypes Tryz.prog).any (Tryz.prog.mapsRec ·))) = true := by kernel_rfl
theorem factAutoNil14 : ((Rows.autoNilRow.ifaces == (Tryz.f5.params.toList ++ Rows.autoNilSpec.plain.varTypes Tryz.prog).any (Tryz.prog.ifacesRec ·))) = true := by kernel_rfl
theorem factAutoNil15 : ((Rows.autoNilRow.mapsOut == Tryz.prog.mapsAmong Tryz.f5.resultTypes.toList)) = true := by kernel_rfl
theorem factAutoNil16 : ((Rows.autoNilRow.loops == (Tryz.f5.params.toList ++ Rows.autoNilSpec.plain.varTypes Tryz.prog).any (Tryz.prog.loopsFrom ·))) = true := by kernel_rfl
theorem factAutoNil17 : ((Rows.autoNilRow.wideKeys == (Tryz.f5.params.toList ++ Rows.autoNilSpec.plain.varTypes Tryz.prog ++ Tryz.f5.resultTypes.toList).any (Tryz.prog.wideKeysFrom ·))) = true := by kernel_rfl
theorem factAutoNil18 : (Rows.autoNilSpec.vars.all (Tryz.prog.varReadable ·)) = true := by kernel_rfl
theorem factAutoNil19 : (Tryz.f5.resultTypes.all (fun t => Tryz.prog.readableRec t && decide (t < Tryz.prog.types.size))) = true := by kernel_rfl
theorem factAutoNil20 : ((Rows.autoNilRow.ifacesOut == Tryz.f5.resultTypes.toList.any (Tryz.prog.ifacesRec ·))) = true := by kernel_rfl
theorem factAutoNil21 : ((Rows.autoNilRow.loopsOut == Tryz.f5.resultTypes.toList.any (Tryz.prog.loopsFrom ·))) = true := by kernel_rfl
theorem factAutoNil22 : ((Rows.autoNilRow.plainKeys == Tryz.prog.plainKeys)) = true := by kernel_rfl
theorem factAutoNil23 : (Rows.autoNilRow.shortTexts.isNone) = true := by kernel_rfl
theorem factAutoNil26 : ((Rows.autoNilRow.lifted == Tryz.prog.liftsFinal)) = true := by kernel_rfl
theorem factAutoNil27 : ((Tryz.prog.make == some Rows.autoNilRow.make)) = true := by kernel_rfl
theorem factAutoNil28 : ((Rows.autoNilRow.kinds == (if Rows.autoNilRow.domain.isEmpty then [] else Tryz.f5.params.toList.map fun t => match Tryz.prog.underlying t with | some (.int k) => some k | _ => none))) = true := by kernel_rfl
theorem factAutoNil29 : ((Rows.autoNilRow.pinned == Rows.autoNilRow.pinnedBy)) = true := by kernel_rfl
theorem factAutoNil30 : ((Rows.autoNilRow.veiled == (Tryz.f5.params.toList ++ Rows.autoNilSpec.plain.varTypes Tryz.prog ++ Tryz.f5.resultTypes.toList).any (Tryz.prog.veiledRec ·))) = true := by kernel_rfl
theorem factAutoNil31 : (Rows.autoNilRow.veiledFits Tryz.prog Tryz.f5.params.toList (Tryz.f5.params.toList ++ Rows.autoNilSpec.plain.varTypes Tryz.prog ++ Tryz.f5.resultTypes.toList)) = true := by kernel_rfl
end Go.Proofs.YtfmahlmlhcphfaaGreatDoor
