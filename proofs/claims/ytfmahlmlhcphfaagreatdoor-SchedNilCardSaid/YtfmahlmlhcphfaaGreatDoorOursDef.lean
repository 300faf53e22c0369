/- The walk of virgatelaw30.Ours, case by case. Printed by gen71.py. -/
import Derived.Test.YtfmahlmlhcphfaaGreatDoorProg
import Derived.WalkKit
import Derived.WalkSpells
import Derived.WalkLawsBesides
import Derived.Deep.RegionHeld3
import Derived.Handy
namespace Go.Proofs.YtfmahlmlhcphfaaGreatDoor
open Go.RowKit
def cut70 (s : ByteArray) : ByteArray := cond (decide ((s.size : Int) > 70)) (s.extract 0 70) s
def cut20 (m : Nat) : Nat := cond (decide ((m : Int) > 20)) 20 m
/-- What is asked, in cells. -/
def opV (k : Int) (s1 s2 : ByteArray) (ad : Int) (p : Option Addr) (m c : Nat) (n : Int) (b1 b2 : Bool) (na nb : Int) : Value :=
  .agg ⟨[.int .i64 k, .string s1, .string s2, .int .u32 ad, .slice p m c, .int .i64 n, .bool b1, .bool b2, .int .u32 na, .int .i64 nb]⟩
def Ours30 (k : Int) (s1 s2 : ByteArray) (ad : Int) (p : Option Addr) (m c : Nat) (n : Int) (b1 b2 : Bool) (na nb : Int) (w : World) (e : Ending) (w' : World) : Prop :=
  e = .returned (.tuple ⟨[opV k (cut70 s1) (cut70 s2) ad p (cut20 m) c n b1 b2 na nb, opV k (cut70 s1) (cut70 s2) ad p (cut20 m) c n b1 b2 na nb]⟩) ∧ Below w.heap.size w w'
end Go.Proofs.YtfmahlmlhcphfaaGreatDoor
