/- The walk of virgatelaw30.Ours, case by case. Printed by gen71.py. -/
import Derived.Test.YtfmahlmlhcphfaaGreatDoorProg
import Derived.WalkKit
import Derived.WalkSpells
import Derived.WalkLawsBesides
import Derived.Deep.RegionHeld3
import Derived.Handy
import Derived.Test.YtfmahlmlhcphfaaGreatDoorOurs0
import Derived.Test.YtfmahlmlhcphfaaGreatDoorOurs1
import Derived.Test.YtfmahlmlhcphfaaGreatDoorOurs2
import Derived.Test.YtfmahlmlhcphfaaGreatDoorOurs3
namespace Go.Proofs.YtfmahlmlhcphfaaGreatDoor
open Go.RowKit

theorem ours30 (k : Int) (s1 s2 : ByteArray) (ad : Int) (p : Option Addr) (m c : Nat) (hp : (p = none ∧ m = 0) ∨ ∃ a, p = some a) (hmc : m ≤ c) (n : Int) (b1 b2 : Bool) (na nb : Int) (w : World) :
    Calls Tryz.prog 71 #[.agg #[.int .i64 k, .string s1, .string s2, .int .u32 ad, .slice p m c, .int .i64 n, .bool b1, .bool b2, .int .u32 na, .int .i64 nb]] w fun e w' => Ours30 k s1 s2 ad p m c n b1 b2 na nb w e w' := by
  cases h3 : decide ((m : Int) > 20) with
  | true =>
    obtain ⟨a, rfl⟩ : ∃ a, p = some a := by
      rcases hp with ⟨_, rfl⟩ | h
      · simp at h3
      · exact h
    cases h1 : decide ((s1.size : Int) > 70) <;> cases h2 : decide ((s2.size : Int) > 70)
    · exact ours30_ssb k s1 s2 ad a m c hmc n b1 b2 na nb w h1 h2 h3
    · exact ours30_sbb k s1 s2 ad a m c hmc n b1 b2 na nb w h1 h2 h3
    · exact ours30_bsb k s1 s2 ad a m c hmc n b1 b2 na nb w h1 h2 h3
    · exact ours30_bbb k s1 s2 ad a m c hmc n b1 b2 na nb w h1 h2 h3
  | false =>
    cases h1 : decide ((s1.size : Int) > 70) <;> cases h2 : decide ((s2.size : Int) > 70)
    · exact ours30_sss k s1 s2 ad p m c n b1 b2 na nb w h1 h2 h3
    · exact ours30_sbs k s1 s2 ad p m c n b1 b2 na nb w h1 h2 h3
    · exact ours30_bss k s1 s2 ad p m c n b1 b2 na nb w h1 h2 h3
    · exact ours30_bbs k s1 s2 ad p m c n b1 b2 na nb w h1 h2 h3
end Go.Proofs.YtfmahlmlhcphfaaGreatDoor
