/- The walk of virgatelaw30.Ours, case by case. Printed by gen71.py. -/
import Derived.Test.YtfmahlmlhcphfaaGreatDoorProg
import Derived.WalkKit
import Derived.WalkSpells
import Derived.WalkLawsBesides
import Derived.Deep.RegionHeld3
import Derived.Handy
import Derived.Test.YtfmahlmlhcphfaaGreatDoorOursDef
namespace Go.Proofs.YtfmahlmlhcphfaaGreatDoor
open Go.RowKit

set_option maxRecDepth 100000 in
set_option maxHeartbeats 4000000 in
theorem ours30_ssb (k : Int) (s1 s2 : ByteArray) (ad : Int) (p : Addr) (m c : Nat) (hmc : m ≤ c) (n : Int) (b1 b2 : Bool) (na nb : Int) (w : World) (h1 : decide ((s1.size : Int) > 70) = false) (h2 : decide ((s2.size : Int) > 70) = false) (h3 : decide ((m : Int) > 20) = true) :
    Calls Tryz.prog 71 #[.agg #[.int .i64 k, .string s1, .string s2, .int .u32 ad, .slice (some p) m c, .int .i64 n, .bool b1, .bool b2, .int .u32 na, .int .i64 nb]] w fun e w' => Ours30 k s1 s2 ad (some p) m c n b1 b2 na nb w e w' := by
  have q1 : cut70 s1 = s1 := by unfold cut70; rw [h1]; rfl
  have q2 : cut70 s2 = s2 := by unfold cut70; rw [h2]; rfl
  have q3 : cut20 m = 20 := by unfold cut20; rw [h3]; rfl
  unfold Ours30 opV
  rw [q1, q2, q3]
  clear q1 q2 q3
  have g3 : 20 ≤ m := by have := of_decide_eq_true h3; omega
  go_enter Tryz.func71, Tryz.ntmps71
  go_wp2
  go_region_held3 (fun W => W.cell? ⟨w.heap.size, 0, none⟩ = some (.int .i64 k) ∧ W.cell? ⟨w.heap.size, 1, none⟩ = some (.string (s1)) ∧ W.cell? ⟨w.heap.size, 2, none⟩ = some (.string (s2)) ∧ W.cell? ⟨w.heap.size, 3, none⟩ = some (.int .u32 ad) ∧ W.cell? ⟨w.heap.size, 4, none⟩ = some (.slice (some p) 20 c) ∧ W.cell? ⟨w.heap.size, 5, none⟩ = some (.int .i64 n) ∧ W.cell? ⟨w.heap.size, 6, none⟩ = some (.bool b1) ∧ W.cell? ⟨w.heap.size, 7, none⟩ = some (.bool b2) ∧ W.cell? ⟨w.heap.size, 8, none⟩ = some (.int .u32 na) ∧ W.cell? ⟨w.heap.size, 9, none⟩ = some (.int .i64 nb)) (go_keep) (fail)
  all_goals go_wp2
  all_goals go_returns
  all_goals refine ⟨rfl, ?_⟩
  all_goals (repeat' first | exact Below.refl _ _ | (refine Below.drew ?_) | (refine Below.setCell ?_ ?_ _) | (refine Below.alloc ?_ ?_ _) | (simp; done) | (simp; omega))

set_option maxRecDepth 100000 in
set_option maxHeartbeats 4000000 in
theorem ours30_sbb (k : Int) (s1 s2 : ByteArray) (ad : Int) (p : Addr) (m c : Nat) (hmc : m ≤ c) (n : Int) (b1 b2 : Bool) (na nb : Int) (w : World) (h1 : decide ((s1.size : Int) > 70) = false) (h2 : decide ((s2.size : Int) > 70) = true) (h3 : decide ((m : Int) > 20) = true) :
    Calls Tryz.prog 71 #[.agg #[.int .i64 k, .string s1, .string s2, .int .u32 ad, .slice (some p) m c, .int .i64 n, .bool b1, .bool b2, .int .u32 na, .int .i64 nb]] w fun e w' => Ours30 k s1 s2 ad (some p) m c n b1 b2 na nb w e w' := by
  have q1 : cut70 s1 = s1 := by unfold cut70; rw [h1]; rfl
  have q2 : cut70 s2 = s2.extract 0 70 := by unfold cut70; rw [h2]; rfl
  have q3 : cut20 m = 20 := by unfold cut20; rw [h3]; rfl
  unfold Ours30 opV
  rw [q1, q2, q3]
  clear q1 q2 q3
  have g2 : 70 ≤ s2.size := by have := of_decide_eq_true h2; omega
  have g3 : 20 ≤ m := by have := of_decide_eq_true h3; omega
  go_enter Tryz.func71, Tryz.ntmps71
  go_wp2
  go_region_held3 (fun W => W.cell? ⟨w.heap.size, 0, none⟩ = some (.int .i64 k) ∧ W.cell? ⟨w.heap.size, 1, none⟩ = some (.string (s1)) ∧ W.cell? ⟨w.heap.size, 2, none⟩ = some (.string (s2.extract 0 70)) ∧ W.cell? ⟨w.heap.size, 3, none⟩ = some (.int .u32 ad) ∧ W.cell? ⟨w.heap.size, 4, none⟩ = some (.slice (some p) 20 c) ∧ W.cell? ⟨w.heap.size, 5, none⟩ = some (.int .i64 n) ∧ W.cell? ⟨w.heap.size, 6, none⟩ = some (.bool b1) ∧ W.cell? ⟨w.heap.size, 7, none⟩ = some (.bool b2) ∧ W.cell? ⟨w.heap.size, 8, none⟩ = some (.int .u32 na) ∧ W.cell? ⟨w.heap.size, 9, none⟩ = some (.int .i64 nb)) (go_keep) (fail)
  all_goals go_wp2
  all_goals go_returns
  all_goals refine ⟨rfl, ?_⟩
  all_goals (repeat' first | exact Below.refl _ _ | (refine Below.drew ?_) | (refine Below.setCell ?_ ?_ _) | (refine Below.alloc ?_ ?_ _) | (simp; done) | (simp; omega))

end Go.Proofs.YtfmahlmlhcphfaaGreatDoor
