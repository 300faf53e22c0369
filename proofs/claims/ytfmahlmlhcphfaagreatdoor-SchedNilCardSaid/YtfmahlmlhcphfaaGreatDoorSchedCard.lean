/- SchedNil: the tied card: for every input the law's function returns true, and its argument reads afterwards as before. No condition beyond the row's own cells. -/
import Derived.Test.YtfmahlmlhcphfaaGreatDoorSchedHolds
import Derived.Test.YtfmahlmlhcphfaaGreatDoorNoGo
namespace Go.Proofs.YtfmahlmlhcphfaaGreatDoor
open Go.ChangeShapes Go.WideShapes Go.ChangeAt Go.RowKit

theorem sched_card : Rows.SchedNilCardSaid :=
  Claim7.holds_tied_plain_at .later [] [.data, .pinned] true (true, "b42b47416d33279bc7966e258c5f47afa38f383c8683f6d4781276688bdee4c4") false sched_holds (fun _ h => by cases h) (by as_aux_lemma => kernel_rfl) (fun _ h => by cases h) schedNil_row_tie rfl ⟨rfl, rfl⟩ (by as_aux_lemma => kernel_rfl) rfl
    (fun f fn hf hfn => by
      obtain rfl : f = 7 := Option.some.inj (namedSchedNil.symm.trans hf) |>.symm
      obtain rfl : fn = Tryz.f7 := (Option.some.inj (Tryz.func7.symm.trans hfn)).symm
      exact ⟨by as_aux_lemma => kernel_rfl, fun j t ht => by
        rw [Tryz.params7] at ht
        have hm : t ∈ [88] := by simpa using Array.mem_of_getElem? ht
        have hall : ([88].all fun u => !Tryz.prog.wantsStandIn u) = true := by as_aux_lemma => kernel_rfl
        exact (show Tryz.prog.wantsStandIn t = false by simpa using List.all_eq_true.1 hall t hm)⟩)
    (goesBy_none rfl)
#print axioms sched_card
end Go.Proofs.YtfmahlmlhcphfaaGreatDoor
