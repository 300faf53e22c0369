/- Calls of a closed run, known at their heaps. Printed by gen.lean. -/
import Derived.Test.YtfmahlmlhcphfaaGreatDoorAw24L0
namespace Go.Proofs.YtfmahlmlhcphfaaGreatDoor
open Go.G

def mAw24_1_0 : Memo := {
  glob := [0]
  args := [(.pointer (some ⟨472, 0, none⟩)), (.agg ⟨[(.int .i64 0), (.int .i64 4), (mS []), (.slice none 0 0)]⟩)]
  n0 := 625
  pre := [(472, .cells 0 [(.int .i64 2), (mS [98, 108, 111, 99, 107, 47]), (mS []), (.int .i64 0), (mS []), (.int .i64 0), (.func (.func 328) ⟨[(.pointer (some ⟨476, 0, none⟩))]⟩ ⟨[]⟩), (.bool true), (.int .i64 3)]),
    (476, .cells 0 [(.pointer (some ⟨472, 0, none⟩)), (mS [104, 49]), (mS [110, 49]), (.int .i64 2), (.bool false), (.slice (some ⟨573, 0, none⟩) 1 9223372036854775808), (.map (some 475)), (.slice none 0 0), (.slice none 0 0), (.func (.func 10) ⟨[(.pointer (some ⟨473, 0, none⟩))]⟩ ⟨[]⟩)]),
    (573, .cells 3 [(.int .u32 167772160), (.int .i64 24), (.bool true)]),
    (475, .map [] 0),
    (473, .cells 0 [(.slice none 0 0), (.int .i64 0), (.int .i64 0)])]
  v := (.bool true)
  n1 := 1331
  post := [(472, .cells 0 [(.int .i64 2), (mS [112, 111, 111, 108, 47]), (mS []), (.int .i64 0), (mS []), (.int .i64 0), (.func (.func 133) ⟨[(.pointer (some ⟨1278, 0, none⟩))]⟩ ⟨[]⟩), (.bool true), (.int .i64 4)]),
    (1278, .cells 0 [(.pointer (some ⟨472, 0, none⟩)), (mS [110, 49]), (.int .u32 167772160), (mS [97, 102, 102, 47, 110, 49, 47, 49, 48, 46, 48, 46, 48, 46, 48, 45, 50, 54]), (.int .i64 5), (.int .i64 0), (mS []), (mS []), (.int .i64 0), (.bool false), (.func (.func 459) ⟨[]⟩ ⟨[(.pointer (some ⟨1263, 0, none⟩)), (.pointer (some ⟨1264, 0, none⟩))]⟩)]),
    (1263, .cells 0 [(.pointer (some ⟨476, 0, none⟩))]),
    (476, .cells 0 [(.pointer (some ⟨472, 0, none⟩)), (mS [104, 49]), (mS [110, 49]), (.int .i64 2), (.bool false), (.slice (some ⟨573, 0, none⟩) 1 9223372036854775808), (.map (some 475)), (.slice (some ⟨1262, 1, none⟩) 3 9223372036854775808), (.slice none 0 0), (.func (.func 10) ⟨[(.pointer (some ⟨473, 0, none⟩))]⟩ ⟨[]⟩)]),
    (573, .cells 3 [(.int .u32 167772160), (.int .i64 24), (.bool true)]),
    (475, .map [] 0),
    (1262, .cells 1 [(.int .u32 167772160), (.int .u32 167772224), (.int .u32 167772288), (.int .u32 167772352)]),
    (473, .cells 0 [(.slice none 0 0), (.int .i64 0), (.int .i64 0)]),
    (1264, .cells 0 [(.int .u32 167772160)])] }

theorem mAw24_1_0_at : mAw24_1_0.at (callFn envAw24_0 (run envAw24_0 600) 12 mAw24_1_0.args mAw24_1_0.heap) = true := by decide +kernel

def mAw24_1_1 : Memo := {
  glob := [0]
  args := [(.pointer (some ⟨472, 0, none⟩)), (.agg ⟨[(.int .i64 6), (.int .i64 0), (mS []), (.slice none 0 0)]⟩)]
  n0 := 1746
  pre := [(472, .cells 0 [(.int .i64 1), (mS [98, 108, 111, 99, 107, 47, 49, 48, 46, 48, 46, 48, 46, 48, 45, 50, 54]), (mS []), (.int .i64 0), (mS []), (.int .i64 0), (.func (.func 444) ⟨[(.pointer (some ⟨1278, 0, none⟩))]⟩ ⟨[]⟩), (.bool true), (.int .i64 8)]),
    (1278, .cells 0 [(.pointer (some ⟨472, 0, none⟩)), (mS [110, 49]), (.int .u32 167772160), (mS [97, 102, 102, 47, 110, 49, 47, 49, 48, 46, 48, 46, 48, 46, 48, 45, 50, 54]), (.int .i64 5), (.int .i64 5), (mS [112, 111, 111, 108, 47, 49, 48, 46, 48, 46, 48, 46, 48, 45, 50, 52]), (mS [80, 10, 0, 0, 0, 24, 1]), (.int .i64 1), (.bool true), (.func (.func 459) ⟨[]⟩ ⟨[(.pointer (some ⟨1263, 0, none⟩)), (.pointer (some ⟨1264, 0, none⟩))]⟩)]),
    (1263, .cells 0 [(.pointer (some ⟨476, 0, none⟩))]),
    (476, .cells 0 [(.pointer (some ⟨472, 0, none⟩)), (mS [104, 49]), (mS [110, 49]), (.int .i64 2), (.bool false), (.slice (some ⟨573, 0, none⟩) 1 9223372036854775808), (.map (some 475)), (.slice (some ⟨1262, 1, none⟩) 3 9223372036854775808), (.slice none 0 0), (.func (.func 10) ⟨[(.pointer (some ⟨473, 0, none⟩))]⟩ ⟨[]⟩)]),
    (573, .cells 3 [(.int .u32 167772160), (.int .i64 24), (.bool true)]),
    (475, .map [] 0),
    (1262, .cells 1 [(.int .u32 167772160), (.int .u32 167772224), (.int .u32 167772288), (.int .u32 167772352)]),
    (473, .cells 0 [(.slice none 0 0), (.int .i64 0), (.int .i64 0)]),
    (1264, .cells 0 [(.int .u32 167772160)])]
  v := (.bool true)
  n1 := 2127
  post := [(472, .cells 0 [(.int .i64 3), (mS [98, 108, 111, 99, 107, 47, 49, 48, 46, 48, 46, 48, 46, 48, 45, 50, 54]), (mS [66, 10, 0, 0, 0, 2, 110, 49, 0, 0, 0, 0, 0, 0, 0, 0, 0, 0, 0, 0, 0, 0, 0, 0, 0, 0, 0, 0, 0, 0, 0, 0, 0, 0, 0, 0, 0, 0, 0, 0, 0, 0, 0, 0, 0, 0, 0, 0, 0, 0, 0, 0, 0, 0, 0, 0, 0, 0, 0, 0, 0, 0, 0, 0, 0, 0, 0, 0, 0, 0, 0, 0, 0, 64, 0, 1, 2, 3, 4, 5, 6, 7, 8, 9, 10, 11, 12, 13, 14, 15, 16, 17, 18, 19, 20, 21, 22, 23, 24, 25, 26, 27, 28, 29, 30, 31, 32, 33, 34, 35, 36, 37, 38, 39, 40, 41, 42, 43, 44, 45, 46, 47, 48, 49, 50, 51, 52, 53, 54, 55, 56, 57, 58, 59, 60, 61, 62, 63]), (.int .i64 0), (mS [97, 102, 102, 47, 110, 49, 47, 49, 48, 46, 48, 46, 48, 46, 48, 45, 50, 54]), (.int .i64 5), (.func (.func 490) ⟨[(.pointer (some ⟨1278, 0, none⟩))]⟩ ⟨[]⟩), (.bool true), (.int .i64 9)]),
    (1278, .cells 0 [(.pointer (some ⟨472, 0, none⟩)), (mS [110, 49]), (.int .u32 167772160), (mS [97, 102, 102, 47, 110, 49, 47, 49, 48, 46, 48, 46, 48, 46, 48, 45, 50, 54]), (.int .i64 5), (.int .i64 5), (mS [112, 111, 111, 108, 47, 49, 48, 46, 48, 46, 48, 46, 48, 45, 50, 52]), (mS [80, 10, 0, 0, 0, 24, 1]), (.int .i64 1), (.bool true), (.func (.func 459) ⟨[]⟩ ⟨[(.pointer (some ⟨1263, 0, none⟩)), (.pointer (some ⟨1264, 0, none⟩))]⟩)]),
    (1263, .cells 0 [(.pointer (some ⟨476, 0, none⟩))]),
    (476, .cells 0 [(.pointer (some ⟨472, 0, none⟩)), (mS [104, 49]), (mS [110, 49]), (.int .i64 2), (.bool false), (.slice (some ⟨573, 0, none⟩) 1 9223372036854775808), (.map (some 475)), (.slice (some ⟨1262, 1, none⟩) 3 9223372036854775808), (.slice none 0 0), (.func (.func 10) ⟨[(.pointer (some ⟨473, 0, none⟩))]⟩ ⟨[]⟩)]),
    (573, .cells 3 [(.int .u32 167772160), (.int .i64 24), (.bool true)]),
    (475, .map [] 0),
    (1262, .cells 1 [(.int .u32 167772160), (.int .u32 167772224), (.int .u32 167772288), (.int .u32 167772352)]),
    (473, .cells 0 [(.slice none 0 0), (.int .i64 0), (.int .i64 0)]),
    (1264, .cells 0 [(.int .u32 167772160)])] }

theorem mAw24_1_1_at : mAw24_1_1.at (callFn envAw24_0 (run envAw24_0 600) 12 mAw24_1_1.args mAw24_1_1.heap) = true := by decide +kernel

end Go.Proofs.YtfmahlmlhcphfaaGreatDoor
