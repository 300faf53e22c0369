/- The walk of ClientNil: run by G at every whole number. -/
import Derived.Test.YtfmahlmlhcphfaaGreatDoorAw30
namespace Go.Proofs.YtfmahlmlhcphfaaGreatDoor
open Go.G Go.RowKit

def primsC : Nat → Option Prim
  | 29 => some (pTrue [0])
  | _ => none

noncomputable def envC : Env := envOf Tryz.prog primsC

theorem primsC_ok : PrimOk Tryz.prog envC := by
  intro f p hp
  change primsC f = some p at hp
  unfold primsC at hp
  split at hp
  · cases hp
    exact ⟨⟨Tryz.f29, Tryz.func29, by kernel_rfl, by kernel_rfl⟩, fun args h v h' hq ρ w args' K ra => pTrue_ok trueAw30 hq K ra⟩
  · cases hp

theorem run6neg (m : Nat) : isTrue (callFn envC (run envC 100) 6 [.int .i64 (.negSucc m)] (globHeap [0])) = true := by kernel_rfl
theorem run6pos (m : Nat) : isTrue (callFn envC (run envC 100) 6 [.int .i64 (.ofNat (m + 14))] (globHeap [0])) = true := by kernel_rfl
theorem run6all : ((List.range 14).all fun k => isTrue (callFn envC (run envC 100) 6 [.int .i64 (.ofNat k)] (globHeap [0]))) = true := by decide +kernel

theorem run6 (n : Int) : isTrue (callFn envC (run envC 100) 6 [.int .i64 n] (globHeap [0])) = true := by
  cases n with
  | negSucc m => exact run6neg m
  | ofNat m =>
    rcases Nat.lt_or_ge m 14 with h | h
    · exact List.all_eq_true.1 run6all m (List.mem_range.2 h)
    · obtain ⟨k, rfl⟩ : ∃ k, m = k + 14 := ⟨m - 14, by omega⟩
      exact run6pos k

theorem clientNil_walk (n : Int) (w : World) (hg : ∀ g ∈ [0], GlobAt w.heap g) :
    Calls Tryz.prog 6 #[.int .i64 n] w fun e w' => e = .returned (.bool true) ∧ Below w.heap.size w w' := by
  obtain ⟨h', e⟩ := isTrue_ok (run6 n)
  refine Calls.mono (call_sound primsC_ok (envOk _ _) mixed e (rel_glob hg) (.cons (.int _ _) (.nil _))) fun e w' ⟨ρ', v', he, _, X, hv⟩ => ?_
  cases hv
  exact ⟨he, X.below (glob_get [0])⟩
#print axioms clientNil_walk
end Go.Proofs.YtfmahlmlhcphfaaGreatDoor
