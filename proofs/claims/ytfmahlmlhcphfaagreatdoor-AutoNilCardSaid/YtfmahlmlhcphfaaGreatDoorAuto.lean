/- The walk of AutoNil. -/
import Derived.Test.YtfmahlmlhcphfaaGreatDoorNames2
import Derived.Deep.RegionHeld3
import Derived.Deep.QuietTactic
import Derived.BigQuiet
namespace Go.Proofs.YtfmahlmlhcphfaaGreatDoor
open Go.RowKit

def keyOf (pre s : ByteArray) : ByteArray := ⟨(pre.data.toList ++ s.data.toList).toArray⟩

theorem ret_val {a b : Value} (h : a = b) : Ending.returned a = .returned b := by rw [h]

set_option maxRecDepth 1000000 in
set_option maxHeartbeats 2000000 in
theorem named_no (pre s : ByteArray) (w : World) (h : nameOk s = false) :
    Calls Tryz.prog 105 #[.string pre, .string s] w fun e w' => e = .returned (.tuple #[.string ⟨#[]⟩, .int .i64 1]) ∧ Below w.heap.size w w' := by
  go_enter Tryz.func105, Tryz.ntmps105
  go_wp2_with (go_at_call 40; refine (right40 _ _).mono ?_; rintro e w' ⟨rfl, hB⟩)
  go_ret2
  exact ⟨rfl, hB⟩

set_option maxRecDepth 1000000 in
set_option maxHeartbeats 2000000 in
theorem named_yes (pre s : ByteArray) (w : World) (h : nameOk s = true) (hp : pre.size ≤ 1000) :
    Calls Tryz.prog 105 #[.string pre, .string s] w fun e w' => e = .returned (.tuple #[.string (pre ++ s), .int .i64 0]) ∧ Below w.heap.size w w' := by
  have hs : s.size ≤ 64 := by
    unfold nameOk nameL at h
    simp at h
    exact h.2
  go_enter Tryz.func105, Tryz.ntmps105
  go_wp2_with (go_at_call 40; refine (right40 _ _).mono ?_; rintro e w' ⟨rfl, hB⟩)
  go_ret2
  exact ⟨rfl, hB⟩

set_option maxRecDepth 1000000 in
set_option maxHeartbeats 2000000 in
theorem may23_no (h n : ByteArray) (w : World) (hh : h.size ≤ maxLen) (h1 : nameOk h = false) :
    Calls Tryz.prog 23 #[.agg #[.string h, .string n]] w fun e w' => e = .returned (.bool false) ∧ Below w.heap.size w w' := by
  go_enter Tryz.func23, Tryz.ntmps23
  go_wp2_with (go_at_call 60; refine (right60 _ _ (by assumption)).mono ?_; rintro e w' ⟨rfl, rfl⟩)
  go_ret
  exact ⟨rfl, (Below.refl _ _).alloc (Nat.le_refl _) _⟩

set_option maxRecDepth 1000000 in
set_option maxHeartbeats 2000000 in
theorem may23_yes (h n : ByteArray) (w : World) (hh : h.size ≤ maxLen) (hn : n.size ≤ maxLen) (h1 : nameOk h = true) :
    Calls Tryz.prog 23 #[.agg #[.string h, .string n]] w fun e w' => e = .returned (.bool (nameOk n)) ∧ Below w.heap.size w w' := by
  go_enter Tryz.func23, Tryz.ntmps23
  go_wp2_with (go_at_call 60; refine (right60 _ _ (by assumption)).mono ?_; rintro e w' ⟨rfl, rfl⟩)
  go_ret
  exact ⟨rfl, (Below.refl _ _).alloc (Nat.le_refl _) _⟩

set_option maxRecDepth 1000000 in
set_option maxHeartbeats 2000000 in
theorem node_no (s : ByteArray) (w : World) (h : nameOk s = false) :
    Calls Tryz.prog 56 #[.string s] w fun e w' => e = .returned (.tuple #[.string ⟨#[]⟩, .int .i64 1]) ∧ Below w.heap.size w w' := by
  go_enter Tryz.func56, Tryz.ntmps56
  go_wp2_with (go_at_call 105; refine (named_no _ _ _ h).mono ?_; rintro e w' ⟨rfl, hB⟩)
  go_ret2
  exact ⟨rfl, hB⟩

def nodeKey (s : ByteArray) : ByteArray := ⟨#[110, 111, 100, 101, 47]⟩ ++ s

set_option maxRecDepth 1000000 in
set_option maxHeartbeats 2000000 in
theorem node_yes (s : ByteArray) (w : World) (h : nameOk s = true) :
    Calls Tryz.prog 56 #[.string s] w fun e w' => e = .returned (.tuple #[.string (nodeKey s), .int .i64 0]) ∧ Below w.heap.size w w' := by
  go_enter Tryz.func56, Tryz.ntmps56
  go_wp2_with (go_at_call 105; refine (named_yes _ _ _ h (by decide)).mono ?_; rintro e w' ⟨rfl, hB⟩)
  go_ret2
  exact ⟨rfl, hB⟩
end Go.Proofs.YtfmahlmlhcphfaaGreatDoor
