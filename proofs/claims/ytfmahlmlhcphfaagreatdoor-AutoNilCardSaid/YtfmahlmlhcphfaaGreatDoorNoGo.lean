/- No function of the program starts a goroutine. -/
import Derived.Test.YtfmahlmlhcphfaaGreatDoorProg
import Derived.KernelRfl
import GoSem.ClaimGoes
namespace Go.Proofs.YtfmahlmlhcphfaaGreatDoor

theorem anyGo : Tryz.prog.funcs.any Func.goes = false := by kernel_rfl

theorem goes_none {P : Program} (h : P.funcs.any Func.goes = false) (f : FuncId) : P.goes f = false := by
  unfold Program.goes
  rw [h, Bool.and_false, Bool.or_false]
  rw [List.any_eq_false]
  intro g _
  cases hg : P.funcs[g]? with
  | none => simp
  | some fn =>
    rw [Array.any_eq_false'] at h
    have := h fn (Array.mem_of_getElem? hg)
    simpa using this

theorem goesBy_none {c : OpenClaim} (hs : c.start = .entering) : false = c.goesBy Tryz.prog := by
  unfold OpenClaim.goesBy Program.goesAt Program.goesFrom
  rw [hs]
  cases Tryz.prog.funcNamed c.func with
  | none => rfl
  | some f => simp [goes_none anyGo f]
end Go.Proofs.YtfmahlmlhcphfaaGreatDoor
