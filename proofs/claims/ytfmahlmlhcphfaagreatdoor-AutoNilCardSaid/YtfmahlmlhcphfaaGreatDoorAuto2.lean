/- The walk of AutoNil. -/
import Derived.Test.YtfmahlmlhcphfaaGreatDoorAuto
import Derived.Test.YtfmahlmlhcphfaaGreatDoorAw24
namespace Go.Proofs.YtfmahlmlhcphfaaGreatDoor
open Go.RowKit Go.G

theorem bcell {W w1 : World} (hb : Below W.heap.size W w1) : (∀ b o, b < W.heap.size → w1.cell? ⟨b, o, none⟩ = W.cell? ⟨b, o, none⟩) ∧ (∀ b o, b < W.heap.size → w1.frozen? ⟨b, o, none⟩ = W.frozen? ⟨b, o, none⟩) :=
  ⟨fun b o h => hb.cell (p := ⟨b, o, none⟩) h, fun b o h => hb.frozen (p := ⟨b, o, none⟩) h⟩

theorem func_not_nil' (d : Nat) (fn : Fn) (a b : Array Value) (w : World) : (Op.equalIn (d + 1) 35 (.func fn a b) .nilFunc).run Tryz.prog w = .ok false w := by
  simp [Op.equalIn, run_underlying Tryz.underlying35]

theorem func_not_nil (fn : Fn) (a b : Array Value) (w : World) : (binOp .neq 35 (.func fn a b) .nilFunc).run Tryz.prog w = .ok (.bool true) w := by
  have h : (Op.equal 35 (.func fn a b) .nilFunc).run Tryz.prog w = .ok false w := func_not_nil' 9999 fn a b w
  simp [binOp, h]

theorem may23 (h n : ByteArray) (w : World) (hh : h.size ≤ maxLen) (hn : n.size ≤ maxLen) :
    Calls Tryz.prog 23 #[.agg #[.string h, .string n]] w fun e w' => e = .returned (.bool (nameOk h && nameOk n)) ∧ Below w.heap.size w w' := by
  cases h1 : nameOk h with
  | false => exact (may23_no h n w hh h1).mono fun e w' ⟨a, b⟩ => ⟨a, b⟩
  | true => exact (may23_yes h n w hh hn h1).mono fun e w' ⟨a, b⟩ => ⟨a, b⟩

theorem globs_keep {w W : World} {gs : List Nat} (hg : ∀ g ∈ gs, GlobAt w.heap g) (hB : Below w.heap.size w W) : ∀ g ∈ gs, GlobAt W.heap g :=
  fun g h => (hg g h).of_eq (hB.block g (hg g h).lt)

set_option maxRecDepth 1000000 in
set_option maxHeartbeats 4000000 in
theorem auto_a (h n : ByteArray) (N : Int) (b : Bool) (w : World) (hg : ∀ g ∈ [0], GlobAt w.heap g) (hh : h.size ≤ maxLen) (hn : n.size ≤ maxLen) (h1 : nameOk n = false) :
    Calls Tryz.prog 5 #[.agg #[.string h, .string n, .int .i64 N, .bool b]] w fun e w' => e = .returned (.bool true) ∧ Below w.heap.size w w' := by
  have hmm := @run_makeMap Tryz.prog
  have hfn := func_not_nil
  have hb2 : (nameOk h && nameOk n) = false := by rw [h1, Bool.and_false]
  go_enter Tryz.func5, Tryz.ntmps5
  go_wp2_with (first | (go_at_call 56; refine (node_no _ _ h1).mono ?_; rintro e w1 ⟨rfl, hB⟩; obtain ⟨hc, hf⟩ := bcell hB; have hz : w.heap.size + 5 < w1.heap.size := by have := hB.size; simp at this; omega) | (go_at_call 21; go_in) | (go_at_call 22; go_in) | (go_at_call 57; go_in) | (go_at_call 58; go_in) | (go_at_call 10; go_in))
  refine (may23 _ _ _ hh hn).mono ?_
  rintro e w2 ⟨rfl, hB2⟩
  obtain ⟨hc2, hf2⟩ := bcell hB2
  have hz2 : w.heap.size + 5 < w2.heap.size := by have := hB2.size; simp at this; omega
  have e1 : w1.cell? ⟨w.heap.size + 1, 1, none⟩ = some (.int .i64 0) := by rw [hc _ _ (by simp)]; simp [go_sem]
  have e2 : w1.cell? ⟨w.heap.size + 1, 2, none⟩ = some (.int .i64 0) := by rw [hc _ _ (by simp)]; simp [go_sem]
  have c1 : w2.cell? ⟨w.heap.size + 1, 1, none⟩ = some (.int .i64 1) := by
    rw [hc2 _ _ (by simp; omega)]; simp [go_sem, e1]
  have c2 : w2.cell? ⟨w.heap.size + 1, 2, none⟩ = some (.int .i64 1) := by
    rw [hc2 _ _ (by simp; omega)]; simp [go_sem, e2]
  have hB1 : Below w.heap.size w w1 := by
    refine Below.trans ?_ (hB.mono (by simp; omega))
    repeat' first | exact Below.refl _ _ | (refine Below.alloc ?_ ?_ _) | (simp; done) | (simp; omega)
  have hBw : Below w.heap.size w w2 := by
    refine Below.trans ?_ (hB2.mono (by simp; omega))
    repeat' first | exact hB1 | (refine Below.setCell ?_ ?_ _) | (simp; done) | (simp; omega)
  clear hc hc2 hf hf2 hB hB2
  go_wp2_with fail
  refine (trueAw24 _ (globs_keep hg hBw)).mono ?_
  rintro e w3 ⟨rfl, hB3⟩
  go_wp2
  go_ret
  exact ⟨rfl, hBw.trans (hB3.mono (by omega))⟩
end Go.Proofs.YtfmahlmlhcphfaaGreatDoor
