/- SchedNil: for every input the law's function returns true, and its argument reads afterwards as before. No condition beyond the row's own cells. -/
import Derived.Test.YtfmahlmlhcphfaaGreatDoorSchedRow
import Derived.Test.YtfmahlmlhcphfaaGreatDoorClosedSchedNil
import Derived.Test.YtfmahlmlhcphfaaGreatDoorTie
import Derived.Test.YtfmahlmlhcphfaaGreatDoorCards
import Derived.SevenTiedAt
import Derived.Stop.Joined
namespace Go.Proofs.YtfmahlmlhcphfaaGreatDoor
open Go.ChangeShapes Go.WideShapes Go.ChangeAt Go.RowKit

theorem namedSchedNil : Tryz.pinned.checked.prog.funcNamed Rows.schedNilRow.func = some 7 := by kernel_rfl
theorem instSchedNil : Tryz.f7.isInstance Tryz.pinned.checked.prog Rows.schedNilRow.origin Rows.schedNilRow.targs := of_decide_eq_true (by kernel_rfl)
theorem wrapperSchedNil : Tryz.f7.isWrapper Tryz.pinned.checked.prog Rows.schedNilRow.wrapper Rows.schedNilRow.mainSum := by
  unfold Func.isWrapper; first | (rw [if_pos (by decide +kernel)]; kernel_rfl) | (rw [if_neg (by decide +kernel)]; exact ⟨rfl, rfl⟩)

theorem sched_holds : Rows.SchedNilSaid :=
  OpenClaim.holds_of_wide 7 Tryz.f7 rfl rfl rfl rfl rfl rfl rfl ⟨rfl, rfl, rfl, rfl, rfl⟩ rfl rfl rfl rfl rfl namedSchedNil Tryz.func7 closedSchedNil
    instSchedNil wrapperSchedNil
    (fun os started H enc _ => sched_lifted os started H enc)
end Go.Proofs.YtfmahlmlhcphfaaGreatDoor
