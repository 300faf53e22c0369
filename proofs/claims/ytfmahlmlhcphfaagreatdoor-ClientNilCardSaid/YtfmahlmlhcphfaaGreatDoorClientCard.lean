/- ClientNil: the tied card: for every input the law's function returns true, and its argument reads afterwards as before. No condition beyond the row's own cells. -/
import Derived.Test.YtfmahlmlhcphfaaGreatDoorClientHolds
import Derived.Test.YtfmahlmlhcphfaaGreatDoorNoGo
namespace Go.Proofs.YtfmahlmlhcphfaaGreatDoor
open Go.ChangeShapes Go.WideShapes Go.ChangeAt Go.RowKit

theorem client_card : Rows.ClientNilCardSaid :=
  Claim7.holds_tied_plain_at .later [] [.data, .pinned] true (true, "b42b47416d33279bc7966e258c5f47afa38f383c8683f6d4781276688bdee4c4") false client_holds (fun _ h => by cases h) (by as_aux_lemma => kernel_rfl) (fun _ h => by cases h) clientNil_row_tie rfl ⟨rfl, rfl⟩ (by as_aux_lemma => kernel_rfl) rfl
    (fun f fn hf hfn => by
      obtain rfl : f = 6 := Option.some.inj (namedClientNil.symm.trans hf) |>.symm
      obtain rfl : fn = Tryz.f6 := (Option.some.inj (Tryz.func6.symm.trans hfn)).symm
      exact ⟨by as_aux_lemma => kernel_rfl, fun j t ht => by
        rw [Tryz.params6] at ht
        have hm : t ∈ [3] := by simpa using Array.mem_of_getElem? ht
        have hall : ([3].all fun u => !Tryz.prog.wantsStandIn u) = true := by as_aux_lemma => kernel_rfl
        exact (show Tryz.prog.wantsStandIn t = false by simpa using List.all_eq_true.1 hall t hm)⟩)
    (goesBy_none rfl)
#print axioms client_card
end Go.Proofs.YtfmahlmlhcphfaaGreatDoor
