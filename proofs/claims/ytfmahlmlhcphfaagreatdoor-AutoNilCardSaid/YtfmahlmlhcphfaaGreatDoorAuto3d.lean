/- The walk of AutoNil: too many. -/
import Derived.Test.YtfmahlmlhcphfaaGreatDoorAuto2
namespace Go.Proofs.YtfmahlmlhcphfaaGreatDoor
open Go.RowKit Go.G

set_option maxRecDepth 1000000 in
set_option maxHeartbeats 4000000 in
theorem auto_d (h n : ByteArray) (N : Int) (b : Bool) (w : World) (hg : ∀ g ∈ [0], GlobAt w.heap g) (hh : h.size ≤ maxLen) (hn : n.size ≤ maxLen) (h1 : nameOk n = true) (h2 : nameOk h = true) (h3 : 4096 < N) :
    Calls Tryz.prog 5 #[.agg #[.string h, .string n, .int .i64 N, .bool b]] w fun e w' => e = .returned (.bool true) ∧ Below w.heap.size w w' := by
  have hmm := @run_makeMap Tryz.prog
  have hfn := func_not_nil
  have hb2 : (nameOk h && nameOk n) = true := by rw [h1, h2]; rfl
  have h4 : decide (N < 1) = false := decide_eq_false (by omega)
  have h5 : decide (N > 4096) = true := decide_eq_true h3
  go_enter Tryz.func5, Tryz.ntmps5
  go_wp2_with (first | (go_at_call 56; refine (node_yes _ _ h1).mono ?_; rintro e w1 ⟨rfl, hB⟩; obtain ⟨hc, hf⟩ := bcell hB; have hz : w.heap.size + 6 < w1.heap.size := by have := hB.size; simp at this; omega) | (go_at_call 21; go_in) | (go_at_call 22; go_in))
  refine (right40 _ _).mono ?_
  rintro e v1 ⟨rfl, hB'⟩
  obtain ⟨hc', hf'⟩ := bcell hB'
  have hz' : w.heap.size + 6 < v1.heap.size := by have := hB'.size; omega
  have a0 : v1.cell? ⟨w.heap.size + 1, 0, none⟩ = some (.slice none 0 0) := by rw [hc' _ _ (by omega), hc _ _ (by simp)]; simp [go_sem]
  have a1 : v1.cell? ⟨w.heap.size + 1, 1, none⟩ = some (.int .i64 0) := by rw [hc' _ _ (by omega), hc _ _ (by simp)]; simp [go_sem]
  have a2 : v1.cell? ⟨w.heap.size + 1, 2, none⟩ = some (.int .i64 0) := by rw [hc' _ _ (by omega), hc _ _ (by simp)]; simp [go_sem]
  have f0 : ∀ o, v1.frozen? ⟨w.heap.size + 1, o, none⟩ = false := fun o => by rw [hf' _ _ (by omega), hf _ _ (by simp)]; simp [go_sem]
  have a9 : v1.cell? ⟨w.heap.size + 1 + 1 + 1 + 1 + 1 + 1, 9, none⟩ = some (.func (.func 10) #[.pointer (some ⟨w.heap.size + 1, 0, none⟩)] #[]) := by rw [hc' _ _ (by omega), hc _ _ (by simp)]; simp [go_sem]
  have b0 : ∀ o, v1.cell? ⟨w.heap.size, o, none⟩ = (#[.string h, .string n, .int .i64 N, .bool b] : Array Value)[o]? := fun o => by rw [hc' _ _ (by omega), hc _ _ (by simp; omega)]; simp [go_sem]
  have b4 : ∀ o, v1.cell? ⟨w.heap.size + 1 + 1 + 1 + 1, o, none⟩ = (#[.string h, .string n, .int .i64 N, .bool b] : Array Value)[o]? := fun o => by rw [hc' _ _ (by omega), hc _ _ (by simp)]; simp [go_sem]
  have hB1 : Below w.heap.size w v1 := by
    refine Below.trans ?_ (hB'.mono (by omega))
    refine Below.trans ?_ (hB.mono (by simp; omega))
    repeat' first | exact Below.refl _ _ | (refine Below.alloc ?_ ?_ _) | (simp; done) | (simp; omega)
  have d1 := b4 2
  have d2 := b0 0
  have d3 := b0 1
  have d4 := b0 2
  simp at d1 d2 d3 d4
  clear hc hf hc' hf' hB hB' b0 b4
  go_wp2_with (first | (go_at_call 57; go_in) | (go_at_call 10; go_in))
  refine (may23 _ _ _ hh hn).mono ?_
  rintro e w2 ⟨rfl, hB2⟩
  obtain ⟨hc2, _⟩ := bcell hB2
  have hz2 : w.heap.size + 6 < w2.heap.size := by have := hB2.size; first | omega | (simp at this; omega)
  have c1 : w2.cell? ⟨w.heap.size + 1, 1, none⟩ = some (.int .i64 1) := by
    rw [hc2 _ _ (by simp; omega)]; simp [go_sem, a1]
  have c2 : w2.cell? ⟨w.heap.size + 1, 2, none⟩ = some (.int .i64 1) := by
    rw [hc2 _ _ (by simp; omega)]; simp [go_sem, a2]
  have c0 : w2.cell? ⟨w.heap.size, 2, none⟩ = some (.int .i64 N) := by
    rw [hc2 _ _ (by simp; omega)]; simp [go_sem, d4]
  have hBw : Below w.heap.size w w2 := by
    refine Below.trans ?_ (hB2.mono (by first | omega | (simp; omega)))
    repeat' first | exact hB1 | (refine Below.setCell ?_ ?_ _) | (simp; done) | (simp; omega)
  clear hc2 hB2 a1 a2 a0 f0 a9
  go_wp2_with fail
  refine (trueAw24 _ (globs_keep hg hBw)).mono ?_
  rintro e w3 ⟨rfl, hB3⟩
  go_wp2
  go_ret
  exact ⟨rfl, hBw.trans (hB3.mono (by omega))⟩
end Go.Proofs.YtfmahlmlhcphfaaGreatDoor
