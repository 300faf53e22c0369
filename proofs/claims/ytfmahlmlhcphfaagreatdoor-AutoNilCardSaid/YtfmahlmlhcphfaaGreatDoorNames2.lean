/- The document's Right, and keys of names. -/
import Derived.Test.YtfmahlmlhcphfaaGreatDoorNames
import Derived.Lib.Hide
namespace Go.Proofs.YtfmahlmlhcphfaaGreatDoor
open Go.RowKit

theorem name_end {s : ByteArray} {k : Nat} (hk : ¬ k < s.size) (hc : (s.data.toList.take k).all mayB = true) : nameOk s = (decide (1 ≤ s.size) && decide (s.size ≤ 64)) := by
  have h0 : s.data.toList.length = s.size := by simp
  rw [List.take_of_length_le (by rw [h0]; omega)] at hc
  unfold nameOk nameL
  rw [hc, h0]
  rfl

theorem mayB_yes {c : UInt8} (h : MayI c.toNat) : mayB c = true := decide_eq_true h
theorem mayB_no {c : UInt8} (h : ¬ MayI c.toNat) : mayB c = false := decide_eq_false h

set_option maxRecDepth 1000000 in
set_option maxHeartbeats 4000000 in
theorem right60 (s : ByteArray) (w : World) (hs : s.size ≤ maxLen) :
    Calls Tryz.prog 60 #[.string s] w fun e w' => e = .returned (.bool (nameOk s)) ∧ w' = w := by
  unfold maxLen at hs
  go_enter Tryz.func60, Tryz.ntmps60
  go_wp2
  go_loop [3] (fun i => ∃ k : Nat, k ≤ s.size ∧ i = .int .i64 k ∧ (s.data.toList.take k).all mayB = true) (fun i => s.size - (intOf i).toNat)
  case atStart => exact ⟨0, Nat.zero_le _, rfl, rfl⟩
  case round =>
    obtain ⟨k, hk, rfl, hc⟩ := hrel
    by_cases hlt : k < s.size
    · have HC := Lib.hid hc
      clear hc
      go_wp2
      all_goals first
        | (go_round
           case rel => exact ⟨k + 1, by omega, by go_num, by rw [take_step s k hlt, List.all_append, HC.out, Bool.true_and]; simp only [List.all_cons, List.all_nil, Bool.and_true]; exact mayB_yes (by clear HC; simp at *; unfold MayI; omega)⟩
           case measure => simp [intOf]; omega)
        | (go_ret
           exact ⟨ret_bool (not_name k hlt (mayB_no (by clear HC; simp at *; unfold MayI; omega))).symm, rfl⟩)
    · have HC := Lib.hid (name_end hlt hc)
      clear hc
      go_wp2
      all_goals go_ret
      all_goals refine ⟨ret_bool ?_, rfl⟩
      all_goals (rw [HC.out, Bool.eq_iff_iff]; simp; omega)
end Go.Proofs.YtfmahlmlhcphfaaGreatDoor
