/- names.Right and the document's Right: one and the same question. -/
import Derived.Test.YtfmahlmlhcphfaaGreatDoorProg
import Derived.WalkKit
import Derived.WalkSpells
import Derived.WalkLawsBesides
import Derived.Handy
import Derived.LoopTactic
import Derived.Laws.RangeAny
import Derived.Lib.Strings
namespace Go.Proofs.YtfmahlmlhcphfaaGreatDoor
open Go.RowKit

/-- May a sign stand in a name? -/
def MayI (c : Int) : Prop := (97 ≤ c ∧ c ≤ 122) ∨ (65 ≤ c ∧ c ≤ 90) ∨ (48 ≤ c ∧ c ≤ 57) ∨ c = 46 ∨ c = 45 ∨ c = 95
instance (c : Int) : Decidable (MayI c) := by unfold MayI; infer_instance
def mayI (c : Int) : Bool := decide (MayI c)

theorem ret_b {a : Bool} {c : Int} (h : a = true ↔ MayI c) : Ending.returned (.bool a) = .returned (.bool (mayI c)) := by
  have : a = mayI c := by rw [Bool.eq_iff_iff, h]; unfold mayI; rw [decide_eq_true_eq]
  rw [this]

set_option maxHeartbeats 1000000 in
theorem may77 (c : Int) (w : World) : Calls Tryz.prog 77 #[.int .i32 c] w fun e w' => e = .returned (.bool (mayI c)) ∧ w' = w := by
  go_enter Tryz.func77, Tryz.ntmps77
  go_wp2
  all_goals go_ret
  all_goals refine ⟨ret_b ?_, rfl⟩
  all_goals (simp only [beq_iff_eq, beq_eq_false_iff_ne, ne_eq] at *; unfold MayI; simp; try omega)

def mayB (c : UInt8) : Bool := mayI c.toNat

def nameL (l : List UInt8) : Bool := l.all mayB && decide (1 ≤ l.length) && decide (l.length ≤ 64)

def nameOk (s : ByteArray) : Bool := nameL s.data.toList

theorem may_high (n : Nat) (h : 128 ≤ n) : mayI n = false := by
  unfold mayI
  rw [decide_eq_false_iff_not]
  unfold MayI
  omega

/-- What stands at a place decides as the sign that is read there. -/
theorem may_at (s : ByteArray) (pos : Nat) (h : pos < s.size) : mayI (Utf8.decode s pos).1 = mayB (s[pos]'h) := by
  by_cases ha : (s[pos]'h).toNat < 128
  · rw [decode_ascii s pos h ha]; rfl
  · rw [may_high _ (decode_high s pos h (by omega)).1]
    unfold mayB
    rw [may_high _ (by omega)]

theorem may_width (s : ByteArray) (pos : Nat) (h : pos < s.size) (hm : mayI (Utf8.decode s pos).1 = true) : (Utf8.decode s pos).2 = 1 := by
  by_cases ha : (s[pos]'h).toNat < 128
  · rw [decode_ascii s pos h ha]
  · rw [may_high _ (decode_high s pos h (by omega)).1] at hm
    cases hm

theorem take_step (s : ByteArray) (k : Nat) (h : k < s.size) : s.data.toList.take (k + 1) = s.data.toList.take k ++ [s[k]] := by
  rw [List.take_succ_eq_append_getElem (by simpa using h)]; rfl

theorem not_name {s : ByteArray} (pos : Nat) (h : pos < s.size) (hm : mayB (s[pos]'h) = false) : nameOk s = false := by
  unfold nameOk nameL
  have : s.data.toList.all mayB = false := by
    rw [List.all_eq_false]
    exact ⟨s[pos], by simp [ByteArray.getElem_eq_getElem_data], by rw [hm]; exact Bool.false_ne_true⟩
  rw [this]; rfl

theorem ret_bool {a b : Bool} (h : a = b) : Ending.returned (.bool a) = .returned (.bool b) := by rw [h]

set_option maxRecDepth 1000000 in
set_option maxHeartbeats 2000000 in
theorem right40 (s : ByteArray) (w : World) :
    Calls Tryz.prog 40 #[.string s] w fun e w' => e = .returned (.bool (nameOk s)) ∧ Below w.heap.size w w' := by
  go_enter Tryz.func40, Tryz.ntmps40
  go_wp2
  go_loopw [] (fun w' => ∃ pos : Nat, w' = w.iter s pos ∧ (s.data.toList.take pos).all mayB = true) (fun w' => s.size - w'.iterPos w.heap.size)
  case atStart => exact ⟨0, rfl, rfl⟩
  case round =>
    obtain ⟨pos, rfl, hc⟩ := hrel
    by_cases hp : pos < s.size
    · have hnx : ∀ ty, (Instr.next (.pointer (some ⟨w.heap.size, 0, none⟩)) true ty).run Tryz.prog (w.iter s pos) = _ := fun ty => run_next_any w s pos ty hp
      cases hm : mayI (Utf8.decode s pos).1 with
      | true =>
        go_wp2_with (go_at_call 77; refine (may77 _ _).mono ?_; rintro e w' ⟨rfl, rfl⟩)
        go_roundw
        case rel => exact ⟨pos + 1, by rw [may_width s pos hp hm], by rw [take_step s pos hp, List.all_append, hc]; simp [← may_at s pos hp, hm]⟩
        case measure =>
          rw [may_width s pos hp hm]
          simp
          omega
      | false =>
        go_wp2_with (go_at_call 77; refine (may77 _ _).mono ?_; rintro e w' ⟨rfl, rfl⟩)
        go_ret
        exact ⟨ret_bool (not_name pos hp (by rw [← may_at s pos hp]; exact hm)).symm, (Below.refl _ _).alloc (Nat.le_refl _) _⟩
    · have hnx : ∀ ty, (Instr.next (.pointer (some ⟨w.heap.size, 0, none⟩)) true ty).run Tryz.prog (w.iter s pos) = _ := fun ty => run_next_end w s pos ty hp
      have hall : s.data.toList.all mayB = true := by
        have h0 : s.data.toList.length = s.size := by simp
        rw [List.take_of_length_le (by rw [h0]; omega)] at hc
        exact hc
      have hlen : s.data.toList.length = s.size := by simp
      go_wp2
      · rename_i he
        go_ret
        refine ⟨ret_bool ?_, (Below.refl _ _).alloc (Nat.le_refl _) _⟩
        rw [Lib.toList_data] at he
        unfold nameOk nameL
        rw [he]; rfl
      · rename_i he
        go_ret
        refine ⟨ret_bool ?_, (Below.refl _ _).alloc (Nat.le_refl _) _⟩
        rw [Lib.toList_data] at he ⊢
        unfold nameOk nameL
        rw [hall, hlen]
        cases hl : s.data.toList with
        | nil => exact absurd hl he
        | cons a l =>
          rw [hl] at hlen
          simp at hlen
          rw [Bool.eq_iff_iff]
          simp
          omega
end Go.Proofs.YtfmahlmlhcphfaaGreatDoor
