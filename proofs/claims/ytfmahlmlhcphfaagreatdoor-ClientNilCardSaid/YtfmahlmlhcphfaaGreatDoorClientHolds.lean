/- ClientNil: for every input the law's function returns true, and its argument reads afterwards as before. No condition beyond the row's own cells. -/
import Derived.Test.YtfmahlmlhcphfaaGreatDoorClientRow
import Derived.Test.YtfmahlmlhcphfaaGreatDoorClosedClientNil
import Derived.Test.YtfmahlmlhcphfaaGreatDoorTie
import Derived.Test.YtfmahlmlhcphfaaGreatDoorCards
import Derived.SevenTiedAt
import Derived.Stop.Joined
namespace Go.Proofs.YtfmahlmlhcphfaaGreatDoor
open Go.ChangeShapes Go.WideShapes Go.ChangeAt Go.RowKit

theorem namedClientNil : Tryz.pinned.checked.prog.funcNamed Rows.clientNilRow.func = some 6 := by kernel_rfl
theorem instClientNil : Tryz.f6.isInstance Tryz.pinned.checked.prog Rows.clientNilRow.origin Rows.clientNilRow.targs := of_decide_eq_true (by kernel_rfl)
theorem wrapperClientNil : Tryz.f6.isWrapper Tryz.pinned.checked.prog Rows.clientNilRow.wrapper Rows.clientNilRow.mainSum := by
  unfold Func.isWrapper; first | (rw [if_pos (by decide +kernel)]; kernel_rfl) | (rw [if_neg (by decide +kernel)]; exact ⟨rfl, rfl⟩)

theorem client_holds : Rows.ClientNilSaid :=
  OpenClaim.holds_of_wide 6 Tryz.f6 rfl rfl rfl rfl rfl rfl rfl ⟨rfl, rfl, rfl, rfl, rfl⟩ rfl rfl rfl rfl rfl namedClientNil Tryz.func6 closedClientNil
    instClientNil wrapperClientNil
    (fun os started H enc _ => client_lifted os started H enc)
end Go.Proofs.YtfmahlmlhcphfaaGreatDoor
