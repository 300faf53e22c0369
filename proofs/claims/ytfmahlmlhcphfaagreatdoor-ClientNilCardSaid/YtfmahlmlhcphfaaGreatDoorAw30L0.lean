/- The calls of one layer as steps. Printed by gen.lean. -/
import Derived.Test.YtfmahlmlhcphfaaGreatDoorAw30L0x0
namespace Go.Proofs.YtfmahlmlhcphfaaGreatDoor
open Go.G

noncomputable def primsAw30_0 : Nat → Option Prim
  | 339 => some (memoPrim envLib 600 339 [mAw30_0_0, mAw30_0_1])
  | f => primsLib f

noncomputable def envAw30_0 : Env := envOf Tryz.prog primsAw30_0

theorem primsAw30_0_ok : PrimOk Tryz.prog envAw30_0 := by
  intro f p hp
  change primsAw30_0 f = some p at hp
  unfold primsAw30_0 at hp
  split at hp
  · cases hp
    exact ⟨⟨Tryz.f339, Tryz.func339, by kernel_rfl, by kernel_rfl⟩, fun args h v h' hq ρ w args' K ra => memoPrim_ok (k := 600) (f := 339) (l := [mAw30_0_0, mAw30_0_1]) primsLib_ok (envOk _ _) mixed (And.intro (memoOk primsLib_ok (envOk _ _) mixed mAw30_0_0_at) ( And.intro (memoOk primsLib_ok (envOk _ _) mixed mAw30_0_1_at) (trivial))) hq K ra⟩
  · exact primsLib_ok _ _ hp

end Go.Proofs.YtfmahlmlhcphfaaGreatDoor
