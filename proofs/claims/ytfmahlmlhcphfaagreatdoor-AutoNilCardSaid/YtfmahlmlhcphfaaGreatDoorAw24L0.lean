/- The calls of one layer as steps. Printed by gen.lean. -/
import Derived.Test.YtfmahlmlhcphfaaGreatDoorAw24L0x0
import Derived.Test.YtfmahlmlhcphfaaGreatDoorAw24L0x1
namespace Go.Proofs.YtfmahlmlhcphfaaGreatDoor
open Go.G

noncomputable def primsAw24_0 : Nat → Option Prim
  | 339 => some (memoPrim envLib 600 339 [mAw24_0_0, mAw24_0_1, mAw24_0_2, mAw24_0_3, mAw24_0_4])
  | f => primsLib f

noncomputable def envAw24_0 : Env := envOf Tryz.prog primsAw24_0

theorem primsAw24_0_ok : PrimOk Tryz.prog envAw24_0 := by
  intro f p hp
  change primsAw24_0 f = some p at hp
  unfold primsAw24_0 at hp
  split at hp
  · cases hp
    exact ⟨⟨Tryz.f339, Tryz.func339, by kernel_rfl, by kernel_rfl⟩, fun args h v h' hq ρ w args' K ra => memoPrim_ok (k := 600) (f := 339) (l := [mAw24_0_0, mAw24_0_1, mAw24_0_2, mAw24_0_3, mAw24_0_4]) primsLib_ok (envOk _ _) mixed (And.intro (memoOk primsLib_ok (envOk _ _) mixed mAw24_0_0_at) ( And.intro (memoOk primsLib_ok (envOk _ _) mixed mAw24_0_1_at) ( And.intro (memoOk primsLib_ok (envOk _ _) mixed mAw24_0_2_at) ( And.intro (memoOk primsLib_ok (envOk _ _) mixed mAw24_0_3_at) ( And.intro (memoOk primsLib_ok (envOk _ _) mixed mAw24_0_4_at) (trivial)))))) hq K ra⟩
  · exact primsLib_ok _ _ hp

end Go.Proofs.YtfmahlmlhcphfaaGreatDoor
