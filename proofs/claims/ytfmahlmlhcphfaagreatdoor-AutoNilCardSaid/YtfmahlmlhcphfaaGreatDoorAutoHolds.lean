/- AutoNil: for every input the law's function returns true, and its argument reads afterwards as before. No condition beyond the row's own cells. -/
import Derived.Test.YtfmahlmlhcphfaaGreatDoorAutoRow
import Derived.Test.YtfmahlmlhcphfaaGreatDoorClosedAutoNil
import Derived.Test.YtfmahlmlhcphfaaGreatDoorTie
import Derived.Test.YtfmahlmlhcphfaaGreatDoorCards
import Derived.SevenTiedAt
import Derived.Stop.Joined
namespace Go.Proofs.YtfmahlmlhcphfaaGreatDoor
open Go.ChangeShapes Go.WideShapes Go.ChangeAt Go.RowKit

theorem namedAutoNil : Tryz.pinned.checked.prog.funcNamed Rows.autoNilRow.func = some 5 := by kernel_rfl
theorem instAutoNil : Tryz.f5.isInstance Tryz.pinned.checked.prog Rows.autoNilRow.origin Rows.autoNilRow.targs := of_decide_eq_true (by kernel_rfl)
theorem wrapperAutoNil : Tryz.f5.isWrapper Tryz.pinned.checked.prog Rows.autoNilRow.wrapper Rows.autoNilRow.mainSum := by
  unfold Func.isWrapper; first | (rw [if_pos (by decide +kernel)]; kernel_rfl) | (rw [if_neg (by decide +kernel)]; exact ⟨rfl, rfl⟩)

theorem auto_holds : Rows.AutoNilSaid :=
  OpenClaim.holds_of_wide 5 Tryz.f5 rfl rfl rfl rfl rfl rfl rfl ⟨rfl, rfl, rfl, rfl, rfl⟩ rfl rfl rfl rfl rfl namedAutoNil Tryz.func5 closedAutoNil
    instAutoNil wrapperAutoNil
    (fun os started H enc _ => auto_lifted os started H enc)
end Go.Proofs.YtfmahlmlhcphfaaGreatDoor
