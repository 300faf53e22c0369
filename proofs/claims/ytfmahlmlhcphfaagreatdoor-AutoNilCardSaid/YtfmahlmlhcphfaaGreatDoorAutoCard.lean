/- AutoNil: the tied card: for every input the law's function returns true, and its argument reads afterwards as before. No condition beyond the row's own cells. -/
import Derived.Test.YtfmahlmlhcphfaaGreatDoorAutoHolds
import Derived.Test.YtfmahlmlhcphfaaGreatDoorNoGo
namespace Go.Proofs.YtfmahlmlhcphfaaGreatDoor
open Go.ChangeShapes Go.WideShapes Go.ChangeAt Go.RowKit

theorem auto_card : Rows.AutoNilCardSaid :=
  Claim7.holds_tied_plain_at .later [] [.data, .pinned] true (true, "b42b47416d33279bc7966e258c5f47afa38f383c8683f6d4781276688bdee4c4") false auto_holds (fun _ h => by cases h) (by as_aux_lemma => kernel_rfl) (fun _ h => by cases h) autoNil_row_tie rfl ⟨rfl, rfl⟩ (by as_aux_lemma => kernel_rfl) rfl
    (fun f fn hf hfn => by
      obtain rfl : f = 5 := Option.some.inj (namedAutoNil.symm.trans hf) |>.symm
      obtain rfl : fn = Tryz.f5 := (Option.some.inj (Tryz.func5.symm.trans hfn)).symm
      exact ⟨by as_aux_lemma => kernel_rfl, fun j t ht => by
        rw [Tryz.params5] at ht
        have hm : t ∈ [65] := by simpa using Array.mem_of_getElem? ht
        have hall : ([65].all fun u => !Tryz.prog.wantsStandIn u) = true := by as_aux_lemma => kernel_rfl
        exact (show Tryz.prog.wantsStandIn t = false by simpa using List.all_eq_true.1 hall t hm)⟩)
    (goesBy_none rfl)
#print axioms auto_card
end Go.Proofs.YtfmahlmlhcphfaaGreatDoor
