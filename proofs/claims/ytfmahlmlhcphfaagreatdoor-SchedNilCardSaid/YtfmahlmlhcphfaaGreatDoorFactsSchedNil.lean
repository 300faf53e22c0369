/- Closed facts of the row of schedNil. Printed by facts.py. -/
import Derived.Test.YtfmahlmlhcphfaaGreatDoorFactsP
import Derived.Test.YtfmahlmlhcphfaaGreatDoorRows
import Derived.JoinedOf
import Derived.KernelRfl
namespace Go.Proofs.YtfmahlmlhcphfaaGreatDoor
open Go

theorem bothSchedNil {a b : Bool} (ha : a = true) (hb : b = true) : (a && b) = true := by rw [ha, hb]; rfl

theorem factSchedNil0 : (Rows.schedNilRow.wf (OpenSpec.ofChange Rows.schedNilSpec)) = true := by kernel_rfl
theorem factSchedNil3 : (Tryz.f7.params.all (Tryz.prog.readableRec ·)) = true := by kernel_rfl
theorem factSchedNil4 : (namedTie Tryz.prog Rows.schedNilRow.named Rows.schedNilSpec.vars) = true := by kernel_rfl
theorem factSchedNil5 : ((Rows.schedNilRow.stops == [])) = true := by kernel_rfl
theorem factSchedNil7 : ((Rows.schedNilRow.knobs == [])) = true := by kernel_rfl
theorem factSchedNil9 : ((Rows.schedNilRow.inPlace == Tryz.prog.inPlace 7)) = true := by kernel_rfl
theorem factSchedNil10 : ((Rows.schedNilRow.unfollowed == Tryz.prog.unfollowed 7)) = true := by kernel_rfl
theorem factSchedNil11 : ((Rows.schedNilRow.recurses == Tryz.prog.recurses 7)) = true := by kernel_rfl
theorem factSchedNil12 : ((Rows.schedNilRow.named == Tryz.prog.varsNamed 7)) = true := by kernel_rfl
theorem factSchedNil13 : ((Rows.schedNilRow.maps == (Tryz.f7.params.toList ++ Rows.schedNilSpec.plain.varTypes Tryz.prog).any (Tryz.prog.mapsRec ·))) = true := by kernel_rfl
theorem factSchedNil14 : ((Rows.schedNilRow.ifaces == (Tryz.f7.params.toList ++ Rows.schedNilSpec.plain.varTypes Tryz.prog).any (Tryz.prog.ifacesRec ·))) = true := by kernel_rfl
theorem factSchedNil15 : ((Rows.schedNilRow.mapsOut == Tryz.prog.mapsAmong Tryz.f7.resultTypes.toList)) = true := by kernel_rfl
theorem factSchedNil16 : ((Rows.schedNilRow.loops == (Tryz.f7.params.toList ++ Rows.schedNilSpec.plain.varTypes Tryz.prog).any (Tryz.prog.loopsFrom ·))) = true := by kernel_rfl
theorem factSchedNil17 : ((Rows.schedNilRow.wideKeys == (Tryz.f7.params.toList ++ Rows.schedNilSpec.plain.varTypes Tryz.prog ++ Tryz.f7.resultTypes.toList).any (Tryz.prog.wideKeysFrom ·))) = true := by kernel_rfl
theorem factSchedNil18 : (Rows.schedNilSpec.vars.all (Tryz.prog.varReadable ·)) = true := by kernel_rfl
theorem factSchedNil19 : (Tryz.f7.resultTypes.all (fun t => Tryz.prog.readableRec t && decide (t < Tryz.prog.types.size))) = true := by kernel_rfl
theorem factSchedNil20 : ((Rows.schedNilRow.ifacesOut == Tryz.f7.resultTypes.toList.any (Tryz.prog.ifacesRec ·))) = true := by kernel_rfl
theorem factSchedNil21 : ((Rows.schedNilRow.loopsOut == Tryz.f7.resultTypes.toList.any (Tryz.prog.loopsFrom ·))) = true := by kernel_rfl
theorem factSchedNil22 : ((Rows.schedNilRow.plainKeys == Tryz.prog.plainKeys)) = true := by kernel_rfl
theorem factSchedNil23 : (Rows.schedNilRow.shortTexts.isNone) = true := by kernel_rfl
theorem factSchedNil26 : ((Rows.schedNilRow.lifted == Tryz.prog.liftsFinal)) = true := by kernel_rfl
theorem factSchedNil27 : ((Tryz.prog.make == some Rows.schedNilRow.make)) = true := by kernel_rfl
theorem factSchedNil28 : ((Rows.schedNilRow.kinds == (if Rows.schedNilRow.domain.isEmpty then [] else Tryz.f7.params.toList.map fun t => match Tryz.prog.underlying t with | some (.int k) => some k | _ => none))) = true := by kernel_rfl
theorem factSchedNil29 : ((Rows.schedNilRow.pinned == Rows.schedNilRow.pinnedBy)) = true := by kernel_rfl
theorem factSchedNil30 : ((Rows.schedNilRow.veiled == (Tryz.f7.params.toList ++ Rows.schedNilSpec.plain.varTypes Tryz.prog ++ Tryz.f7.resultTypes.toList).any (Tryz.prog.veiledRec ·))) = true := by kernel_rfl
theorem factSchedNil31 : (Rows.schedNilRow.veiledFits Tryz.prog Tryz.f7.params.toList (Tryz.f7.params.toList ++ Rows.schedNilSpec.plain.varTypes Tryz.prog ++ Tryz.f7.resultTypes.toList)) = true := by kernel_rfl
end Go.Proofs.YtfmahlmlhcphfaaGreatDoor
