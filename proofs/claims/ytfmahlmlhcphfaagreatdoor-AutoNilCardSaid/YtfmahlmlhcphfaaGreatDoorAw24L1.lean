/- The calls of one layer as steps. Printed by gen.lean. -/
import Derived.Test.YtfmahlmlhcphfaaGreatDoorAw24L1x0
namespace Go.Proofs.YtfmahlmlhcphfaaGreatDoor
open Go.G

noncomputable def primsAw24_1 : Nat → Option Prim
  | 12 => some (memoPrim envAw24_0 600 12 [mAw24_1_0, mAw24_1_1])
  | f => primsAw24_0 f

noncomputable def envAw24_1 : Env := envOf Tryz.prog primsAw24_1

theorem primsAw24_1_ok : PrimOk Tryz.prog envAw24_1 := by
  intro f p hp
  change primsAw24_1 f = some p at hp
  unfold primsAw24_1 at hp
  split at hp
  · cases hp
    exact ⟨⟨Tryz.f12, Tryz.func12, by kernel_rfl, by kernel_rfl⟩, fun args h v h' hq ρ w args' K ra => memoPrim_ok (k := 600) (f := 12) (l := [mAw24_1_0, mAw24_1_1]) primsAw24_0_ok (envOk _ _) mixed (And.intro (memoOk primsAw24_0_ok (envOk _ _) mixed mAw24_1_0_at) ( And.intro (memoOk primsAw24_0_ok (envOk _ _) mixed mAw24_1_1_at) (trivial))) hq K ra⟩
  · exact primsAw24_0_ok _ _ hp

end Go.Proofs.YtfmahlmlhcphfaaGreatDoor
