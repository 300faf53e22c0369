/- The library's contracts at this dump, laid by the kit's tools. -/
import Derived.Shelf.Strings.Builder1
import Derived.Shelf.Strings.Builder2
import Derived.Shelf.Strings.OnBuilder
import Derived.Shelf.Small.Wraps
import Derived.Shelf.Strings.Search1
import Derived.Shelf.Strings.Search2
import Derived.Shelf.Strings.Search3
import Derived.Shelf.Strings.Cut
import Derived.Shelf.Strings.Count
import Derived.Shelf.LaysM
import Derived.Shelf.Strings.Shaped
import Derived.Shelf.Strings.Prefix
import Derived.Shelf.Strings.Split
import Derived.Shelf.Strings.Replace
import Derived.Shelf.Strings.SplitShaped
import Derived.Shelf.Unicode.DecodeSlow
import Derived.Ground.SlgmProg
import Derived.Shelf.SortM.Plain
import Derived.Shelf.SortM.SortNone
import Derived.Shelf.SlIter.Nil
import Derived.Ground.GgzProg
import Derived.Test.YtfmahlmlhcphfaaGreatDoorProg
namespace Go.Proofs
open Go.Shelf
def Tryz.lays169_ren : Go.Shelf.Ren := ⟨fun | 169 => 291 | n => n, fun | 70 => 381 | 9 => 9 | 0 => 0 | 72 => 383 | 37 => 232 | 127 => 449 | 3 => 3 | 5 => 5 | n => n, fun | n => n⟩
theorem Tryz.lays169 : Go.Proofs.Lays.n169 Tryz.prog Tryz.lays169_ren := {
  mixed := by kernel_rfl
  f169 := Tryz.func291.trans (congrArg some (by kernel_rfl))
  t0 := Tryz.underlying0
  a0 := Tryz.isAgg0
  z0 := Tryz.sizeOf0
  v0 := Tryz.zeroValue0
  t3 := Tryz.underlying3
  a3 := Tryz.isAgg3
  z3 := Tryz.sizeOf3
  v3 := Tryz.zeroValue3
  t9 := Tryz.underlying9
  a9 := Tryz.isAgg9
  z9 := Tryz.sizeOf9
  v9 := Tryz.zeroValue9
  t37 := Tryz.underlying232
  a37 := Tryz.isAgg232
  z37 := Tryz.sizeOf232
  v37 := Tryz.zeroValue232
  t70 := Tryz.underlying381
  a70 := Tryz.isAgg381
  z70 := Tryz.sizeOf381
  v70 := Tryz.zeroValue381
  t72 := Tryz.underlying383
  a72 := Tryz.isAgg383
  z72 := Tryz.sizeOf383
  v72 := Tryz.zeroValue383
  t127 := Tryz.underlying449
  a127 := Tryz.isAgg449
  z127 := Tryz.sizeOf449
  v127 := Tryz.zeroValue449 }
theorem Tryz.Builder_Extra_169 : Builder.Extra Tryz.prog Tryz.lays169_ren := {
  sizeBuilder := by kernel_rfl
  liesBuilder := by kernel_rfl
  t5 := Tryz.underlying5
  a5 := Tryz.isAgg5
  z5 := Tryz.sizeOf5
  v5 := Tryz.zeroValue5
  infoByte := by kernel_rfl
  cellsByte := by kernel_rfl
  sizeByte := by kernel_rfl
  neB5 := by decide }
open Go.RowKit in
/-- (*strings.Builder).String: "String returns the accumulated string.": OF A BUILDER THAT HOLDS AT LEAST ONE BYTE. ✋ THE MODEL FREEZES THOSE BYTES IN THE BUFFER (unsafe.String): a later write INTO them ends the model's run without an answer; a later append BEHIND them goes on. The statement's order of evaluation is drawn: one draw. (LAID: no walk: one application.) -/
theorem Tryz.Builder_String (B b : Nat) (l : List UInt8) (w : World) (h : Lib.IsBuilder 383 5 B b (Lib.byteCells l) w) (h0 : l ≠ []) :
    Calls Tryz.prog 291 #[.pointer (some ⟨b, 0, none⟩)] w fun e w' => e = .returned (.string ⟨l.toArray⟩) ∧ Below B w w' := Any.Builder_String Tryz.lays169 Tryz.Builder_Extra_169 B b l w h h0
open Go.RowKit in
/-- (*strings.Builder).String OF A BUILDER THAT HOLDS NO BYTE: the empty string. (Its buffer is nil, or a row of which it has taken nothing yet; where that row has NO capacity the model lays one new block for unsafe.SliceData's 'some address'.) One draw. (LAID: no walk: one application.) -/
theorem Tryz.Builder_String_empty (B b : Nat) (w : World) (h : Lib.IsBuilder 383 5 B b [] w) (hBw : B ≤ w.heap.size) :
    Calls Tryz.prog 291 #[.pointer (some ⟨b, 0, none⟩)] w fun e w' => e = .returned (.string ⟨#[]⟩) ∧ Below B w w' := Any.Builder_String_empty Tryz.lays169 Tryz.Builder_Extra_169 B b w h hBw
open Go.RowKit in
/-- (*strings.Builder).String: "String returns the accumulated string.": WHATEVER THE BUILDER HOLDS. (LAID: no walk: one application.) -/
theorem Tryz.Builder_String_any (B b : Nat) (l : List UInt8) (w : World) (h : Lib.IsBuilder 383 5 B b (Lib.byteCells l) w) (hBw : B ≤ w.heap.size) :
    Calls Tryz.prog 291 #[.pointer (some ⟨b, 0, none⟩)] w fun e w' => e = .returned (.string ⟨l.toArray⟩) ∧ Below B w w' := Any.Builder_String_any Tryz.lays169 Tryz.Builder_Extra_169 B b l w h hBw
def Tryz.lays241_ren : Go.Shelf.Ren := ⟨fun | 241 => 374 | 277 => 439 | n => n, fun | 70 => 381 | 3 => 3 | 0 => 0 | 72 => 383 | 37 => 232 | 5 => 5 | n => n, fun | n => n⟩
theorem Tryz.lays241 : Go.Proofs.Lays.n241 Tryz.prog Tryz.lays241_ren := {
  mixed := by kernel_rfl
  f241 := Tryz.func374.trans (congrArg some (by kernel_rfl))
  f277 := Tryz.func439.trans (congrArg some (by kernel_rfl))
  t0 := Tryz.underlying0
  a0 := Tryz.isAgg0
  z0 := Tryz.sizeOf0
  v0 := Tryz.zeroValue0
  t3 := Tryz.underlying3
  a3 := Tryz.isAgg3
  z3 := Tryz.sizeOf3
  v3 := Tryz.zeroValue3
  t37 := Tryz.underlying232
  a37 := Tryz.isAgg232
  z37 := Tryz.sizeOf232
  v37 := Tryz.zeroValue232
  t70 := Tryz.underlying381
  a70 := Tryz.isAgg381
  z70 := Tryz.sizeOf381
  v70 := Tryz.zeroValue381
  t72 := Tryz.underlying383
  a72 := Tryz.isAgg383
  z72 := Tryz.sizeOf383
  v72 := Tryz.zeroValue383 }
theorem Tryz.Builder_Extra_241 : Builder.Extra Tryz.prog Tryz.lays241_ren := {
  sizeBuilder := by kernel_rfl
  liesBuilder := by kernel_rfl
  t5 := Tryz.underlying5
  a5 := Tryz.isAgg5
  z5 := Tryz.sizeOf5
  v5 := Tryz.zeroValue5
  infoByte := by kernel_rfl
  cellsByte := by kernel_rfl
  sizeByte := by kernel_rfl
  neB5 := by decide }
open Go.RowKit in
/-- (*strings.Builder).grow (no doc but "grow copies the buffer to a new, larger buffer so that there are at least n bytes of capacity beyond len(b.buf)."): AT A BUILDER WITHOUT A BUFFER: a new row of whatever bytes for its buffer, none of them its own yet. Three draws. (LAID: no walk: one application.) -/
theorem Tryz.Builder_grow_fresh (B b n : Nat) (w : World) (hB : B ≤ b) (hbk : w.heap[b]? = some (.cells #[.pointer (some ⟨b, 0, none⟩), .slice none 0 0] 383 (0, 0))) (hBw : B ≤ w.heap.size) (hn : n ≤ 281474976710656) :
    Calls Tryz.prog 374 #[.pointer (some ⟨b, 0, none⟩), .int .i64 n] w fun e w' => e = .returned (.tuple #[]) ∧ (Lib.BuilderAt 383 5 B b (.pointer (some ⟨b, 0, none⟩)) [] w' ∧ Below B w w') := Any.Builder_grow_fresh Tryz.lays241 Tryz.Builder_Extra_241 B b n w hB hbk hBw hn
def Tryz.lays165_ren : Go.Shelf.Ren := ⟨fun | 165 => 287 | 240 => 373 | 241 => 374 | 276 => 438 | 277 => 439 | n => n, fun | 70 => 381 | 3 => 3 | 0 => 0 | 4 => 4 | 9 => 9 | 20 => 20 | 72 => 383 | 37 => 232 | 164 => 491 | 5 => 5 | n => n, fun | n => n⟩
theorem Tryz.lays165 : Go.Proofs.Lays.n165 Tryz.prog Tryz.lays165_ren := {
  mixed := by kernel_rfl
  f165 := Tryz.func287.trans (congrArg some (by kernel_rfl))
  f240 := Tryz.func373.trans (congrArg some (by kernel_rfl))
  f241 := Tryz.func374.trans (congrArg some (by kernel_rfl))
  f276 := Tryz.func438.trans (congrArg some (by kernel_rfl))
  f277 := Tryz.func439.trans (congrArg some (by kernel_rfl))
  t0 := Tryz.underlying0
  a0 := Tryz.isAgg0
  z0 := Tryz.sizeOf0
  v0 := Tryz.zeroValue0
  t3 := Tryz.underlying3
  a3 := Tryz.isAgg3
  z3 := Tryz.sizeOf3
  v3 := Tryz.zeroValue3
  t4 := Tryz.underlying4
  a4 := Tryz.isAgg4
  z4 := Tryz.sizeOf4
  v4 := Tryz.zeroValue4
  t9 := Tryz.underlying9
  a9 := Tryz.isAgg9
  z9 := Tryz.sizeOf9
  v9 := Tryz.zeroValue9
  t20 := Tryz.underlying20
  a20 := Tryz.isAgg20
  z20 := Tryz.sizeOf20
  v20 := Tryz.zeroValue20
  t37 := Tryz.underlying232
  a37 := Tryz.isAgg232
  z37 := Tryz.sizeOf232
  v37 := Tryz.zeroValue232
  t70 := Tryz.underlying381
  a70 := Tryz.isAgg381
  z70 := Tryz.sizeOf381
  v70 := Tryz.zeroValue381
  t72 := Tryz.underlying383
  a72 := Tryz.isAgg383
  z72 := Tryz.sizeOf383
  v72 := Tryz.zeroValue383
  t164 := Tryz.underlying491
  a164 := Tryz.isAgg491
  z164 := Tryz.sizeOf491
  v164 := Tryz.zeroValue491 }
theorem Tryz.Builder_Extra_165 : Builder.Extra Tryz.prog Tryz.lays165_ren := {
  sizeBuilder := by kernel_rfl
  liesBuilder := by kernel_rfl
  t5 := Tryz.underlying5
  a5 := Tryz.isAgg5
  z5 := Tryz.sizeOf5
  v5 := Tryz.zeroValue5
  infoByte := by kernel_rfl
  cellsByte := by kernel_rfl
  sizeByte := by kernel_rfl
  neB5 := by decide }
open Go.RowKit in
/-- (*strings.Builder).Grow AT A BUILDER THAT HAS NOT BEEN WRITTEN ('var b strings.Builder; b.Grow(n)'): "Grow grows b's capacity, if necessary, to guarantee space for another n bytes.": it holds no byte behind it as before it. (LAID: no walk: one application.) -/
theorem Tryz.Builder_Grow_fresh (B b n : Nat) (w : World) (hB : B ≤ b) (hbk : w.heap[b]? = some (.cells #[.pointer none, .slice none 0 0] 383 (0, 0))) (hBw : B ≤ w.heap.size) (hn : n ≤ 281474976710656) :
    Calls Tryz.prog 287 #[.pointer (some ⟨b, 0, none⟩), .int .i64 n] w fun e w' => e = .returned (.tuple #[]) ∧ (Lib.BuilderAt 383 5 B b (.pointer (some ⟨b, 0, none⟩)) [] w' ∧ Below B w w') := Any.Builder_Grow_fresh Tryz.lays165 Tryz.Builder_Extra_165 B b n w hB hbk hBw hn
def Tryz.lays156_ren : Go.Shelf.Ren := ⟨fun | 156 => 379 | 165 => 287 | 166 => 289 | 169 => 291 | 240 => 373 | 241 => 374 | 276 => 438 | 277 => 439 | n => n, fun | 31 => 119 | 9 => 9 | 3 => 3 | 4 => 4 | 0 => 0 | 20 => 20 | 72 => 383 | 76 => 386 | 70 => 381 | 37 => 232 | 75 => 385 | 127 => 449 | 164 => 491 | 5 => 5 | 80 => 390 | n => n, fun | n => n⟩
theorem Tryz.lays156 : Go.Proofs.Lays.n156 Tryz.prog Tryz.lays156_ren := {
  mixed := by kernel_rfl
  f156 := Tryz.func379.trans (congrArg some (by kernel_rfl))
  f165 := Tryz.func287.trans (congrArg some (by kernel_rfl))
  f166 := Tryz.func289.trans (congrArg some (by kernel_rfl))
  f169 := Tryz.func291.trans (congrArg some (by kernel_rfl))
  f240 := Tryz.func373.trans (congrArg some (by kernel_rfl))
  f241 := Tryz.func374.trans (congrArg some (by kernel_rfl))
  f276 := Tryz.func438.trans (congrArg some (by kernel_rfl))
  f277 := Tryz.func439.trans (congrArg some (by kernel_rfl))
  t0 := Tryz.underlying0
  a0 := Tryz.isAgg0
  z0 := Tryz.sizeOf0
  v0 := Tryz.zeroValue0
  t3 := Tryz.underlying3
  a3 := Tryz.isAgg3
  z3 := Tryz.sizeOf3
  v3 := Tryz.zeroValue3
  t4 := Tryz.underlying4
  a4 := Tryz.isAgg4
  z4 := Tryz.sizeOf4
  v4 := Tryz.zeroValue4
  t9 := Tryz.underlying9
  a9 := Tryz.isAgg9
  z9 := Tryz.sizeOf9
  v9 := Tryz.zeroValue9
  t20 := Tryz.underlying20
  a20 := Tryz.isAgg20
  z20 := Tryz.sizeOf20
  v20 := Tryz.zeroValue20
  t31 := Tryz.underlying119
  a31 := Tryz.isAgg119
  z31 := Tryz.sizeOf119
  v31 := Tryz.zeroValue119
  t37 := Tryz.underlying232
  a37 := Tryz.isAgg232
  z37 := Tryz.sizeOf232
  v37 := Tryz.zeroValue232
  t70 := Tryz.underlying381
  a70 := Tryz.isAgg381
  z70 := Tryz.sizeOf381
  v70 := Tryz.zeroValue381
  t72 := Tryz.underlying383
  a72 := Tryz.isAgg383
  z72 := Tryz.sizeOf383
  v72 := Tryz.zeroValue383
  t75 := Tryz.underlying385
  a75 := Tryz.isAgg385
  z75 := Tryz.sizeOf385
  v75 := Tryz.zeroValue385
  t76 := Tryz.underlying386
  a76 := Tryz.isAgg386
  z76 := Tryz.sizeOf386
  v76 := Tryz.zeroValue386
  t127 := Tryz.underlying449
  a127 := Tryz.isAgg449
  z127 := Tryz.sizeOf449
  v127 := Tryz.zeroValue449
  t164 := Tryz.underlying491
  a164 := Tryz.isAgg491
  z164 := Tryz.sizeOf491
  v164 := Tryz.zeroValue491 }
theorem Tryz.Builder_Extra_156 : Builder.Extra Tryz.prog Tryz.lays156_ren := {
  sizeBuilder := by kernel_rfl
  liesBuilder := by kernel_rfl
  t5 := Tryz.underlying5
  a5 := Tryz.isAgg5
  z5 := Tryz.sizeOf5
  v5 := Tryz.zeroValue5
  infoByte := by kernel_rfl
  cellsByte := by kernel_rfl
  sizeByte := by kernel_rfl
  neB5 := by decide }
open Go.RowKit in
/-- No element: the empty string; the world is as it was. (Whatever the slice's address and capacity: a nil slice too.) (LAID: no walk: one application.) -/
theorem Tryz.strings_Join_none (a : Option Addr) (c : Nat) (sep : ByteArray) (w : World) :
    Calls Tryz.prog 379 #[.slice a 0 c, .string sep] w fun e w' => e = .returned (.string ⟨#[]⟩) ∧ w' = w := Any.strings_Join_none Tryz.lays156 Tryz.Builder_Extra_156 a c sep w
open Go.RowKit in
/-- strings.Join: "Join concatenates the elements of its first argument to create a single string. The separator string sep is placed between elements in the resulting string.": HOWEVER MANY ELEMENTS. Below the heap's end the world is as it was. (LAID: no walk: one application.) -/
theorem Tryz.strings_Join (bk o c : Nat) (xs : List ByteArray) (sep : ByteArray) (w : World) (hcells : ∀ (j : Nat) x, xs[j]? = some x → w.cell? ⟨bk, o + j, none⟩ = some (.string x)) (hbk : bk < w.heap.size) (hN : xs.length ≤ 140737488355328) (hcap : xs.length ≤ c) (hlen : (Lib.join (xs.map (·.data.toList)) sep.data.toList).length ≤ 140737488355328) :
    Calls Tryz.prog 379 #[.slice (some ⟨bk, o, none⟩) xs.length c, .string sep] w fun e w' => e = .returned (.string ⟨(Lib.join (xs.map (·.data.toList)) sep.data.toList).toArray⟩) ∧ Below w.heap.size w w' := Any.strings_Join Tryz.lays156 Tryz.Builder_Extra_156 bk o c xs sep w hcells hbk hN hcap hlen
def Tryz.lays210_ren : Go.Shelf.Ren := ⟨fun | 210 => 310 | 206 => 324 | n => n, fun | 9 => 9 | 4 => 4 | 3 => 3 | n => n, fun | n => n⟩
theorem Tryz.lays210 : Go.Proofs.Lays.n210 Tryz.prog Tryz.lays210_ren := {
  mixed := by kernel_rfl
  f206 := Tryz.func324.trans (congrArg some (by kernel_rfl))
  f210 := Tryz.func310.trans (congrArg some (by kernel_rfl))
  t3 := Tryz.underlying3
  a3 := Tryz.isAgg3
  z3 := Tryz.sizeOf3
  v3 := Tryz.zeroValue3
  t4 := Tryz.underlying4
  a4 := Tryz.isAgg4
  z4 := Tryz.sizeOf4
  v4 := Tryz.zeroValue4
  t9 := Tryz.underlying9
  a9 := Tryz.isAgg9
  z9 := Tryz.sizeOf9
  v9 := Tryz.zeroValue9 }
open Go.RowKit in
/-- internal/stringslite.CutPrefix (what strings.CutPrefix calls). (LAID: no walk: one application.) -/
theorem Tryz.stringslite_CutPrefix (s p : ByteArray) (w : World) :
    Calls Tryz.prog 310 #[.string s, .string p] w fun e w' => e = .returned (.tuple #[.string ⟨(Lib.trimPrefix s.data.toList p.data.toList).toArray⟩, .bool (Lib.hasPrefix s.data.toList p.data.toList)]) ∧ w' = w := Any.stringslite_CutPrefix Tryz.lays210 s p w
def Tryz.lays103_ren : Go.Shelf.Ren := ⟨fun | 103 => 223 | 210 => 310 | 206 => 324 | n => n, fun | 9 => 9 | 4 => 4 | 24 => 198 | 3 => 3 | n => n, fun | n => n⟩
theorem Tryz.lays103 : Go.Proofs.Lays.n103 Tryz.prog Tryz.lays103_ren := {
  mixed := by kernel_rfl
  f103 := Tryz.func223.trans (congrArg some (by kernel_rfl))
  f206 := Tryz.func324.trans (congrArg some (by kernel_rfl))
  f210 := Tryz.func310.trans (congrArg some (by kernel_rfl))
  t3 := Tryz.underlying3
  a3 := Tryz.isAgg3
  z3 := Tryz.sizeOf3
  v3 := Tryz.zeroValue3
  t4 := Tryz.underlying4
  a4 := Tryz.isAgg4
  z4 := Tryz.sizeOf4
  v4 := Tryz.zeroValue4
  t9 := Tryz.underlying9
  a9 := Tryz.isAgg9
  z9 := Tryz.sizeOf9
  v9 := Tryz.zeroValue9
  t24 := Tryz.underlying198
  a24 := Tryz.isAgg198
  z24 := Tryz.sizeOf198
  v24 := Tryz.zeroValue198 }
open Go.RowKit in
/-- strings.CutPrefix: "CutPrefix returns s without the provided leading prefix string and reports whether it found the prefix. If s doesn't start with prefix, CutPrefix returns s, false. If prefix is the empty string, CutPrefix returns s, true.": IT RETURNS '(Lib.trimPrefix s p, Lib.hasPrefix s p)'; the world is as it was. (LAID: no walk: one application.) -/
theorem Tryz.strings_CutPrefix (s p : ByteArray) (w : World) :
    Calls Tryz.prog 223 #[.string s, .string p] w fun e w' => e = .returned (.tuple #[.string ⟨(Lib.trimPrefix s.data.toList p.data.toList).toArray⟩, .bool (Lib.hasPrefix s.data.toList p.data.toList)]) ∧ w' = w := Any.strings_CutPrefix Tryz.lays103 s p w
def Tryz.lays217_ren : Go.Shelf.Ren := ⟨fun | 217 => 440 | 266 => 486 | n => n, fun | 9 => 9 | 5 => 5 | 3 => 3 | n => n, fun | n => n⟩
theorem Tryz.lays217 : Go.Proofs.Lays.n217 Tryz.prog Tryz.lays217_ren := {
  mixed := by kernel_rfl
  f217 := Tryz.func440.trans (congrArg some (by kernel_rfl))
  f266 := Tryz.func486.trans (congrArg some (by kernel_rfl))
  t3 := Tryz.underlying3
  a3 := Tryz.isAgg3
  z3 := Tryz.sizeOf3
  v3 := Tryz.zeroValue3
  t5 := Tryz.underlying5
  a5 := Tryz.isAgg5
  z5 := Tryz.sizeOf5
  v5 := Tryz.zeroValue5
  t9 := Tryz.underlying9
  a9 := Tryz.isAgg9
  z9 := Tryz.sizeOf9
  v9 := Tryz.zeroValue9 }
open Go.RowKit Go.Lib in
/-- internal/stringslite.IndexByte (what strings.IndexByte calls): IT RETURNS 'Lib.indexByte s c'; the world is as it was. (LAID: no walk: one application.) -/
theorem Tryz.stringslite_IndexByte (s : ByteArray) (c : Int) (w : World) :
    Calls Tryz.prog 440 #[.string s, .int .u8 c] w fun e w' => e = .returned (.int .i64 (Lib.indexByte s.data.toList c.toNat.toUInt8)) ∧ w' = w := Any.stringslite_IndexByte Tryz.lays217 s c w
def Tryz.lays224_ren : Go.Shelf.Ren := ⟨fun | 224 => 442 | n => n, fun | 3 => 3 | n => n, fun | n => n⟩
theorem Tryz.lays224 : Go.Proofs.Lays.n224 Tryz.prog Tryz.lays224_ren := {
  mixed := by kernel_rfl
  f224 := Tryz.func442.trans (congrArg some (by kernel_rfl))
  t3 := Tryz.underlying3
  a3 := Tryz.isAgg3
  z3 := Tryz.sizeOf3
  v3 := Tryz.zeroValue3 }
open Go.RowKit Go.Lib in
/-- internal/bytealg.Cutover: "Cutover reports the number of failures of IndexByte we should tolerate before switching over to Index. n is the number of bytes processed so far.": on amd64: (n + 16) / 8. (LAID: no walk: one application.) -/
theorem Tryz.bytealg_Cutover (n : Int) (h0 : 0 ≤ n) (h1 : n < 4611686018427387904) (w : World) :
    Calls Tryz.prog 442 #[.int .i64 n] w fun e w' => e = .returned (.int .i64 ((n + 16) / 8)) ∧ w' = w := Any.bytealg_Cutover Tryz.lays224 n h0 h1 w
def Tryz.lays314_ren : Go.Shelf.Ren := ⟨fun | 314 => 487 | n => n, fun | 9 => 9 | 51 => 24 | 3 => 3 | 4 => 4 | 5 => 5 | 46 => 416 | n => n, fun | n => n⟩
theorem Tryz.lays314 : Go.Proofs.Lays.n314 Tryz.prog Tryz.lays314_ren := {
  mixed := by kernel_rfl
  f314 := Tryz.func487.trans (congrArg some (by kernel_rfl))
  t3 := Tryz.underlying3
  a3 := Tryz.isAgg3
  z3 := Tryz.sizeOf3
  v3 := Tryz.zeroValue3
  t4 := Tryz.underlying4
  a4 := Tryz.isAgg4
  z4 := Tryz.sizeOf4
  v4 := Tryz.zeroValue4
  t5 := Tryz.underlying5
  a5 := Tryz.isAgg5
  z5 := Tryz.sizeOf5
  v5 := Tryz.zeroValue5
  t9 := Tryz.underlying9
  a9 := Tryz.isAgg9
  z9 := Tryz.sizeOf9
  v9 := Tryz.zeroValue9
  t46 := Tryz.underlying416
  a46 := Tryz.isAgg416
  z46 := Tryz.sizeOf416
  v46 := Tryz.zeroValue416
  t51 := Tryz.underlying24
  a51 := Tryz.isAgg24
  z51 := Tryz.sizeOf24
  v51 := Tryz.zeroValue24 }
open Go.RowKit Go.Lib in
/-- hashStr: "returns the hash and the appropriate multiplicative factor for use in Rabin-Karp algorithm": THE HASH OF ALL OF sep, AND 16777619 ^ len(sep), both in uint32. (LAID: no walk: one application.) -/
theorem Tryz.bytealg_hashStr (sep : ByteArray) (hs : sep.size < 4294967281) (w : World) :
    Calls Tryz.prog 487 #[.string sep] w fun e w' => e = .returned (.tuple #[.int .u32 (RK.H sep.data.toList % 4294967296), .int .u32 (16777619 ^ sep.size % 4294967296)]) ∧ w' = w := Any.bytealg_hashStr Tryz.lays314 sep hs w
def Tryz.lays267_ren : Go.Shelf.Ren := ⟨fun | 267 => 443 | 314 => 487 | n => n, fun | 9 => 9 | 3 => 3 | 146 => 523 | 51 => 24 | 4 => 4 | 5 => 5 | 46 => 416 | n => n, fun | n => n⟩
theorem Tryz.lays267 : Go.Proofs.Lays.n267 Tryz.prog Tryz.lays267_ren := {
  mixed := by kernel_rfl
  f267 := Tryz.func443.trans (congrArg some (by kernel_rfl))
  f314 := Tryz.func487.trans (congrArg some (by kernel_rfl))
  t3 := Tryz.underlying3
  a3 := Tryz.isAgg3
  z3 := Tryz.sizeOf3
  v3 := Tryz.zeroValue3
  t4 := Tryz.underlying4
  a4 := Tryz.isAgg4
  z4 := Tryz.sizeOf4
  v4 := Tryz.zeroValue4
  t5 := Tryz.underlying5
  a5 := Tryz.isAgg5
  z5 := Tryz.sizeOf5
  v5 := Tryz.zeroValue5
  t9 := Tryz.underlying9
  a9 := Tryz.isAgg9
  z9 := Tryz.sizeOf9
  v9 := Tryz.zeroValue9
  t46 := Tryz.underlying416
  a46 := Tryz.isAgg416
  z46 := Tryz.sizeOf416
  v46 := Tryz.zeroValue416
  t51 := Tryz.underlying24
  a51 := Tryz.isAgg24
  z51 := Tryz.sizeOf24
  v51 := Tryz.zeroValue24
  t146 := Tryz.underlying523
  a146 := Tryz.isAgg523
  z146 := Tryz.sizeOf523
  v146 := Tryz.zeroValue523 }
open Go.RowKit Go.Lib in
theorem Tryz.bytealg_IndexRabinKarp (s sep : ByteArray) (h1 : 1 ≤ sep.size) (h2 : sep.size ≤ s.size) (hs : s.size < 4294967281) (w : World) :
    Calls Tryz.prog 443 #[.string s, .string sep] w fun e w' => e = .returned (.int .i64 (Lib.index s.data.toList sep.data.toList)) ∧ w' = w := Any.bytealg_IndexRabinKarp Tryz.lays267 s sep h1 h2 hs w
def Tryz.lays219_ren : Go.Shelf.Ren := ⟨fun | 219 => 375 | 217 => 440 | 225 => 441 | 224 => 442 | 267 => 443 | 266 => 486 | 314 => 487 | n => n, fun | 9 => 9 | 3 => 3 | 4 => 4 | 5 => 5 | 46 => 416 | 146 => 523 | 51 => 24 | n => n, fun | 1 => 0 | n => n⟩
theorem Tryz.lays219 : Go.Proofs.Lays.n219 Tryz.prog Tryz.lays219_ren := {
  mixed := by kernel_rfl
  f217 := Tryz.func440.trans (congrArg some (by kernel_rfl))
  f219 := Tryz.func375.trans (congrArg some (by kernel_rfl))
  f224 := Tryz.func442.trans (congrArg some (by kernel_rfl))
  f225 := Tryz.func441.trans (congrArg some (by kernel_rfl))
  f266 := Tryz.func486.trans (congrArg some (by kernel_rfl))
  f267 := Tryz.func443.trans (congrArg some (by kernel_rfl))
  f314 := Tryz.func487.trans (congrArg some (by kernel_rfl))
  t3 := Tryz.underlying3
  a3 := Tryz.isAgg3
  z3 := Tryz.sizeOf3
  v3 := Tryz.zeroValue3
  t4 := Tryz.underlying4
  a4 := Tryz.isAgg4
  z4 := Tryz.sizeOf4
  v4 := Tryz.zeroValue4
  t5 := Tryz.underlying5
  a5 := Tryz.isAgg5
  z5 := Tryz.sizeOf5
  v5 := Tryz.zeroValue5
  t9 := Tryz.underlying9
  a9 := Tryz.isAgg9
  z9 := Tryz.sizeOf9
  v9 := Tryz.zeroValue9
  t46 := Tryz.underlying416
  a46 := Tryz.isAgg416
  z46 := Tryz.sizeOf416
  v46 := Tryz.zeroValue416
  t51 := Tryz.underlying24
  a51 := Tryz.isAgg24
  z51 := Tryz.sizeOf24
  v51 := Tryz.zeroValue24
  t146 := Tryz.underlying523
  a146 := Tryz.isAgg523
  z146 := Tryz.sizeOf523
  v146 := Tryz.zeroValue523
  g1 := by kernel_rfl }
open Go.RowKit Go.Lib in
/-- internal/stringslite.Index (what strings.Index calls) AT A substr OF ONE BYTE c: IT RETURNS 'Lib.indexByte s c'; the world is as it was. (LAID: no walk: one application.) -/
theorem Tryz.stringslite_Index_one (s : ByteArray) (c : UInt8) (w : World) :
    Calls Tryz.prog 375 #[.string s, .string ⟨#[c]⟩] w fun e w' => e = .returned (.int .i64 (Lib.indexByte s.data.toList c)) ∧ w' = w := Any.stringslite_Index_one Tryz.lays219 s c w
open Go.RowKit Go.Lib in
/-- internal/stringslite.Index (what strings.Index calls) AT A substr OF WHATEVER LENGTH: IT RETURNS 'Lib.index s substr'; the world is as it was. 'm': what internal/bytealg.MaxLen holds: whatever. (LAID: no walk: one application.) -/
theorem Tryz.stringslite_Index (s sub : ByteArray) (m : Int) (w : World) (hs : s.size < 4294967281) (hm : w.cell? ⟨0, 0, none⟩ = some (.int .i64 m)) :
    Calls Tryz.prog 375 #[.string s, .string sub] w fun e w' => e = .returned (.int .i64 (Lib.index s.data.toList sub.data.toList)) ∧ w' = w := Any.stringslite_Index Tryz.lays219 s sub m w hs hm
def Tryz.lays143_ren : Go.Shelf.Ren := ⟨fun | 143 => 288 | 219 => 375 | 217 => 440 | 225 => 441 | 224 => 442 | 267 => 443 | 266 => 486 | 314 => 487 | n => n, fun | 9 => 9 | 3 => 3 | 4 => 4 | 5 => 5 | 46 => 416 | 146 => 523 | 51 => 24 | n => n, fun | 1 => 0 | n => n⟩
theorem Tryz.lays143 : Go.Proofs.Lays.n143 Tryz.prog Tryz.lays143_ren := {
  mixed := by kernel_rfl
  f143 := Tryz.func288.trans (congrArg some (by kernel_rfl))
  f217 := Tryz.func440.trans (congrArg some (by kernel_rfl))
  f219 := Tryz.func375.trans (congrArg some (by kernel_rfl))
  f224 := Tryz.func442.trans (congrArg some (by kernel_rfl))
  f225 := Tryz.func441.trans (congrArg some (by kernel_rfl))
  f266 := Tryz.func486.trans (congrArg some (by kernel_rfl))
  f267 := Tryz.func443.trans (congrArg some (by kernel_rfl))
  f314 := Tryz.func487.trans (congrArg some (by kernel_rfl))
  t3 := Tryz.underlying3
  a3 := Tryz.isAgg3
  z3 := Tryz.sizeOf3
  v3 := Tryz.zeroValue3
  t4 := Tryz.underlying4
  a4 := Tryz.isAgg4
  z4 := Tryz.sizeOf4
  v4 := Tryz.zeroValue4
  t5 := Tryz.underlying5
  a5 := Tryz.isAgg5
  z5 := Tryz.sizeOf5
  v5 := Tryz.zeroValue5
  t9 := Tryz.underlying9
  a9 := Tryz.isAgg9
  z9 := Tryz.sizeOf9
  v9 := Tryz.zeroValue9
  t46 := Tryz.underlying416
  a46 := Tryz.isAgg416
  z46 := Tryz.sizeOf416
  v46 := Tryz.zeroValue416
  t51 := Tryz.underlying24
  a51 := Tryz.isAgg24
  z51 := Tryz.sizeOf24
  v51 := Tryz.zeroValue24
  t146 := Tryz.underlying523
  a146 := Tryz.isAgg523
  z146 := Tryz.sizeOf523
  v146 := Tryz.zeroValue523
  g1 := by kernel_rfl }
open Go.RowKit Go.Lib in
/-- strings.Index: "Index returns the index of the first instance of substr in s, or -1 if substr is not present in s.": AT A substr OF ONE BYTE c: IT RETURNS 'Lib.indexByte s c'; the world is as it was. (LAID: no walk: one application.) -/
theorem Tryz.strings_Index_one (s : ByteArray) (c : UInt8) (w : World) :
    Calls Tryz.prog 288 #[.string s, .string ⟨#[c]⟩] w fun e w' => e = .returned (.int .i64 (Lib.indexByte s.data.toList c)) ∧ w' = w := Any.strings_Index_one Tryz.lays143 s c w
open Go.RowKit Go.Lib in
/-- strings.Index: "Index returns the index of the first instance of substr in s, or -1 if substr is not present in s.": IT RETURNS 'Lib.index s substr'; the world is as it was. (LAID: no walk: one application.) -/
theorem Tryz.strings_Index (s sub : ByteArray) (m : Int) (w : World) (hs : s.size < 4294967281) (hm : w.cell? ⟨0, 0, none⟩ = some (.int .i64 m)) :
    Calls Tryz.prog 288 #[.string s, .string sub] w fun e w' => e = .returned (.int .i64 (Lib.index s.data.toList sub.data.toList)) ∧ w' = w := Any.strings_Index Tryz.lays143 s sub m w hs hm
def Tryz.lays220_ren : Go.Shelf.Ren := ⟨fun | 220 => 311 | 219 => 375 | 217 => 440 | 225 => 441 | 224 => 442 | 267 => 443 | 266 => 486 | 314 => 487 | n => n, fun | 9 => 9 | 4 => 4 | 3 => 3 | 5 => 5 | 46 => 416 | 146 => 523 | 51 => 24 | n => n, fun | 1 => 0 | n => n⟩
theorem Tryz.lays220 : Go.Proofs.Lays.n220 Tryz.prog Tryz.lays220_ren := {
  mixed := by kernel_rfl
  f217 := Tryz.func440.trans (congrArg some (by kernel_rfl))
  f219 := Tryz.func375.trans (congrArg some (by kernel_rfl))
  f220 := Tryz.func311.trans (congrArg some (by kernel_rfl))
  f224 := Tryz.func442.trans (congrArg some (by kernel_rfl))
  f225 := Tryz.func441.trans (congrArg some (by kernel_rfl))
  f266 := Tryz.func486.trans (congrArg some (by kernel_rfl))
  f267 := Tryz.func443.trans (congrArg some (by kernel_rfl))
  f314 := Tryz.func487.trans (congrArg some (by kernel_rfl))
  t3 := Tryz.underlying3
  a3 := Tryz.isAgg3
  z3 := Tryz.sizeOf3
  v3 := Tryz.zeroValue3
  t4 := Tryz.underlying4
  a4 := Tryz.isAgg4
  z4 := Tryz.sizeOf4
  v4 := Tryz.zeroValue4
  t5 := Tryz.underlying5
  a5 := Tryz.isAgg5
  z5 := Tryz.sizeOf5
  v5 := Tryz.zeroValue5
  t9 := Tryz.underlying9
  a9 := Tryz.isAgg9
  z9 := Tryz.sizeOf9
  v9 := Tryz.zeroValue9
  t46 := Tryz.underlying416
  a46 := Tryz.isAgg416
  z46 := Tryz.sizeOf416
  v46 := Tryz.zeroValue416
  t51 := Tryz.underlying24
  a51 := Tryz.isAgg24
  z51 := Tryz.sizeOf24
  v51 := Tryz.zeroValue24
  t146 := Tryz.underlying523
  a146 := Tryz.isAgg523
  z146 := Tryz.sizeOf523
  v146 := Tryz.zeroValue523
  g1 := by kernel_rfl }
open Go.RowKit Go.Lib in
/-- internal/stringslite.Cut (what strings.Cut calls): IT RETURNS 'Lib.cut s sep'; the world is as it was but for the count of draws. (LAID: no walk: one application.) -/
theorem Tryz.stringslite_Cut (s sep : ByteArray) (m : Int) (w : World) (hs : s.size < 4294967281) (hm : w.cell? ⟨0, 0, none⟩ = some (.int .i64 m)) :
    Calls Tryz.prog 311 #[.string s, .string sep] w fun e w' => e = .returned (.tuple #[.string ⟨(Lib.cut s.data.toList sep.data.toList).1.toArray⟩, .string ⟨(Lib.cut s.data.toList sep.data.toList).2.1.toArray⟩, .bool (Lib.cut s.data.toList sep.data.toList).2.2]) ∧ ∃ n, w' = w.drewN n := Any.stringslite_Cut Tryz.lays220 s sep m w hs hm
def Tryz.lays145_ren : Go.Shelf.Ren := ⟨fun | 145 => 224 | 220 => 311 | 219 => 375 | 217 => 440 | 225 => 441 | 224 => 442 | 267 => 443 | 266 => 486 | 314 => 487 | n => n, fun | 9 => 9 | 4 => 4 | 59 => 319 | 3 => 3 | 5 => 5 | 46 => 416 | 146 => 523 | 51 => 24 | n => n, fun | 1 => 0 | n => n⟩
theorem Tryz.lays145 : Go.Proofs.Lays.n145 Tryz.prog Tryz.lays145_ren := {
  mixed := by kernel_rfl
  f145 := Tryz.func224.trans (congrArg some (by kernel_rfl))
  f217 := Tryz.func440.trans (congrArg some (by kernel_rfl))
  f219 := Tryz.func375.trans (congrArg some (by kernel_rfl))
  f220 := Tryz.func311.trans (congrArg some (by kernel_rfl))
  f224 := Tryz.func442.trans (congrArg some (by kernel_rfl))
  f225 := Tryz.func441.trans (congrArg some (by kernel_rfl))
  f266 := Tryz.func486.trans (congrArg some (by kernel_rfl))
  f267 := Tryz.func443.trans (congrArg some (by kernel_rfl))
  f314 := Tryz.func487.trans (congrArg some (by kernel_rfl))
  t3 := Tryz.underlying3
  a3 := Tryz.isAgg3
  z3 := Tryz.sizeOf3
  v3 := Tryz.zeroValue3
  t4 := Tryz.underlying4
  a4 := Tryz.isAgg4
  z4 := Tryz.sizeOf4
  v4 := Tryz.zeroValue4
  t5 := Tryz.underlying5
  a5 := Tryz.isAgg5
  z5 := Tryz.sizeOf5
  v5 := Tryz.zeroValue5
  t9 := Tryz.underlying9
  a9 := Tryz.isAgg9
  z9 := Tryz.sizeOf9
  v9 := Tryz.zeroValue9
  t46 := Tryz.underlying416
  a46 := Tryz.isAgg416
  z46 := Tryz.sizeOf416
  v46 := Tryz.zeroValue416
  t51 := Tryz.underlying24
  a51 := Tryz.isAgg24
  z51 := Tryz.sizeOf24
  v51 := Tryz.zeroValue24
  t59 := Tryz.underlying319
  a59 := Tryz.isAgg319
  z59 := Tryz.sizeOf319
  v59 := Tryz.zeroValue319
  t146 := Tryz.underlying523
  a146 := Tryz.isAgg523
  z146 := Tryz.sizeOf523
  v146 := Tryz.zeroValue523
  g1 := by kernel_rfl }
open Go.RowKit Go.Lib in
/-- strings.Cut: "Cut slices s around the first instance of sep, returning the text before and after sep. The found result reports whether sep appears in s. If sep does not appear in s, cut returns s, "", false.": IT RETURNS 'Lib.cut s sep'; the world is as it was but for the count of draws. (LAID: no walk: one application.) -/
theorem Tryz.strings_Cut (s sep : ByteArray) (m : Int) (w : World) (hs : s.size < 4294967281) (hm : w.cell? ⟨0, 0, none⟩ = some (.int .i64 m)) :
    Calls Tryz.prog 224 #[.string s, .string sep] w fun e w' => e = .returned (.tuple #[.string ⟨(Lib.cut s.data.toList sep.data.toList).1.toArray⟩, .string ⟨(Lib.cut s.data.toList sep.data.toList).2.1.toArray⟩, .bool (Lib.cut s.data.toList sep.data.toList).2.2]) ∧ ∃ n, w' = w.drewN n := Any.strings_Cut Tryz.lays145 s sep m w hs hm
def Tryz.lays138_ren : Go.Shelf.Ren := ⟨fun | 138 => 286 | 195 => 371 | 218 => 372 | 143 => 288 | 219 => 375 | 217 => 440 | 225 => 441 | 224 => 442 | 267 => 443 | 266 => 486 | 314 => 487 | n => n, fun | 9 => 9 | 3 => 3 | 4 => 4 | 5 => 5 | 0 => 0 | 46 => 416 | 146 => 523 | 51 => 24 | n => n, fun | 1 => 0 | n => n⟩
theorem Tryz.lays138 : Go.Proofs.Lays.n138 Tryz.prog Tryz.lays138_ren := {
  mixed := by kernel_rfl
  f138 := Tryz.func286.trans (congrArg some (by kernel_rfl))
  f143 := Tryz.func288.trans (congrArg some (by kernel_rfl))
  f195 := Tryz.func371.trans (congrArg some (by kernel_rfl))
  f217 := Tryz.func440.trans (congrArg some (by kernel_rfl))
  f218 := Tryz.func372.trans (congrArg some (by kernel_rfl))
  f219 := Tryz.func375.trans (congrArg some (by kernel_rfl))
  f224 := Tryz.func442.trans (congrArg some (by kernel_rfl))
  f225 := Tryz.func441.trans (congrArg some (by kernel_rfl))
  f266 := Tryz.func486.trans (congrArg some (by kernel_rfl))
  f267 := Tryz.func443.trans (congrArg some (by kernel_rfl))
  f314 := Tryz.func487.trans (congrArg some (by kernel_rfl))
  t0 := Tryz.underlying0
  a0 := Tryz.isAgg0
  z0 := Tryz.sizeOf0
  v0 := Tryz.zeroValue0
  t3 := Tryz.underlying3
  a3 := Tryz.isAgg3
  z3 := Tryz.sizeOf3
  v3 := Tryz.zeroValue3
  t4 := Tryz.underlying4
  a4 := Tryz.isAgg4
  z4 := Tryz.sizeOf4
  v4 := Tryz.zeroValue4
  t5 := Tryz.underlying5
  a5 := Tryz.isAgg5
  z5 := Tryz.sizeOf5
  v5 := Tryz.zeroValue5
  t9 := Tryz.underlying9
  a9 := Tryz.isAgg9
  z9 := Tryz.sizeOf9
  v9 := Tryz.zeroValue9
  t46 := Tryz.underlying416
  a46 := Tryz.isAgg416
  z46 := Tryz.sizeOf416
  v46 := Tryz.zeroValue416
  t51 := Tryz.underlying24
  a51 := Tryz.isAgg24
  z51 := Tryz.sizeOf24
  v51 := Tryz.zeroValue24
  t146 := Tryz.underlying523
  a146 := Tryz.isAgg523
  z146 := Tryz.sizeOf523
  v146 := Tryz.zeroValue523
  g1 := by kernel_rfl }
open Go.RowKit Go.Lib in
/-- strings.Count AT A substr OF ONE BYTE ('hp'): "Count counts the number of non-overlapping instances of substr in s.": IT RETURNS 'Lib.countByte s (that byte)'; the world is as it was. ✋ NO CONTRACT HERE YET at an empty substr (utf8.RuneCountInString) or at a longer one (a loop over strings.Index). (LAID: no walk: one application.) -/
theorem Tryz.strings_Count_one (s : ByteArray) (c : UInt8) (w : World) :
    Calls Tryz.prog 286 #[.string s, .string ⟨#[c]⟩] w fun e w' => e = .returned (.int .i64 (Lib.countByte s.data.toList c)) ∧ w' = w := Any.strings_Count_one Tryz.lays138 s c w
open Go.RowKit Go.Lib in
/-- strings.Count AT A substr OF TWO BYTES OR MORE: "Count counts the number of non-overlapping instances of substr in s.": IT RETURNS 'Lib.count s substr'; the world is as it was. (LAID: no walk: one application.) -/
theorem Tryz.strings_Count (s sub : ByteArray) (m : Int) (w : World) (hs : s.size < 4294967281) (hm : w.cell? ⟨0, 0, none⟩ = some (.int .i64 m)) (h2 : 2 ≤ sub.size) :
    Calls Tryz.prog 286 #[.string s, .string sub] w fun e w' => e = .returned (.int .i64 (Lib.countB s sub)) ∧ w' = w := Any.strings_Count Tryz.lays138 s sub m w hs hm h2
def Tryz.laysM219_ren : Go.Shelf.Ren := ⟨fun | 219 => 375 | 217 => 440 | 225 => 441 | 224 => 442 | 267 => 443 | 266 => 486 | 314 => 487 | n => n, fun | 9 => 9 | 3 => 3 | 4 => 4 | 5 => 5 | 46 => 416 | 146 => 523 | 51 => 24 | n => n, fun | 1 => 0 | n => n⟩
theorem Tryz.laysM219 : Go.Proofs.LaysM.n219 Tryz.prog Tryz.laysM219_ren := {
  mixed := by kernel_rfl
  f217 := Tryz.func440.trans (congrArg some (by kernel_rfl))
  f219 := Tryz.func375.trans (congrArg some (by kernel_rfl))
  f224 := Tryz.func442.trans (congrArg some (by kernel_rfl))
  f225 := Tryz.func441.trans (congrArg some (by kernel_rfl))
  f266 := Tryz.func486.trans (congrArg some (by kernel_rfl))
  f267 := Tryz.func443.trans (congrArg some (by kernel_rfl))
  f314 := Tryz.func487.trans (congrArg some (by kernel_rfl))
  t3 := Tryz.underlying3
  a3 := Tryz.isAgg3
  z3 := Tryz.sizeOf3
  v3 := Tryz.zeroValue3
  t4 := Tryz.underlying4
  a4 := Tryz.isAgg4
  z4 := Tryz.sizeOf4
  v4 := Tryz.zeroValue4
  t5 := Tryz.underlying5
  a5 := Tryz.isAgg5
  z5 := Tryz.sizeOf5
  v5 := Tryz.zeroValue5
  t9 := Tryz.underlying9
  a9 := Tryz.isAgg9
  z9 := Tryz.sizeOf9
  v9 := Tryz.zeroValue9
  t46 := Tryz.underlying416
  a46 := Tryz.isAgg416
  z46 := Tryz.sizeOf416
  v46 := Tryz.zeroValue416
  t51 := Tryz.underlying24
  a51 := Tryz.isAgg24
  z51 := Tryz.sizeOf24
  v51 := Tryz.zeroValue24
  t146 := Tryz.underlying523
  a146 := Tryz.isAgg523
  z146 := Tryz.sizeOf523
  v146 := Tryz.zeroValue523
  g1 := by kernel_rfl
  i3 := by kernel_rfl
  i4 := by kernel_rfl
  i5 := by kernel_rfl
  i9 := by kernel_rfl
  i46 := by kernel_rfl
  i51 := by kernel_rfl
  i146 := by kernel_rfl
  m1 := by kernel_rfl
  s1_3 := fun w h => Go.Proofs.cell_of_shapedOpen_int (zero := #[.int .i64 0]) (t := 3) h (of_decide_eq_true (by kernel_rfl)) (by kernel_rfl) rfl (by kernel_rfl) (by kernel_rfl) Tryz.underlying3 }
open Go.RowKit Go.Lib in
theorem Tryz.stringslite_Index_shaped (s sub : ByteArray) (w : World) (h : w.ShapedOpen Tryz.prog) (hs : s.size < 4294967281) :
    Calls Tryz.prog 375 #[.string s, .string sub] w fun e w' => e = .returned (.int .i64 (Lib.index s.data.toList sub.data.toList)) ∧ w' = w := Any.stringslite_Index_shaped Tryz.laysM219 s sub w h hs
def Tryz.laysM143_ren : Go.Shelf.Ren := ⟨fun | 143 => 288 | 219 => 375 | 217 => 440 | 225 => 441 | 224 => 442 | 267 => 443 | 266 => 486 | 314 => 487 | n => n, fun | 9 => 9 | 3 => 3 | 4 => 4 | 5 => 5 | 46 => 416 | 146 => 523 | 51 => 24 | n => n, fun | 1 => 0 | n => n⟩
theorem Tryz.laysM143 : Go.Proofs.LaysM.n143 Tryz.prog Tryz.laysM143_ren := {
  mixed := by kernel_rfl
  f143 := Tryz.func288.trans (congrArg some (by kernel_rfl))
  f217 := Tryz.func440.trans (congrArg some (by kernel_rfl))
  f219 := Tryz.func375.trans (congrArg some (by kernel_rfl))
  f224 := Tryz.func442.trans (congrArg some (by kernel_rfl))
  f225 := Tryz.func441.trans (congrArg some (by kernel_rfl))
  f266 := Tryz.func486.trans (congrArg some (by kernel_rfl))
  f267 := Tryz.func443.trans (congrArg some (by kernel_rfl))
  f314 := Tryz.func487.trans (congrArg some (by kernel_rfl))
  t3 := Tryz.underlying3
  a3 := Tryz.isAgg3
  z3 := Tryz.sizeOf3
  v3 := Tryz.zeroValue3
  t4 := Tryz.underlying4
  a4 := Tryz.isAgg4
  z4 := Tryz.sizeOf4
  v4 := Tryz.zeroValue4
  t5 := Tryz.underlying5
  a5 := Tryz.isAgg5
  z5 := Tryz.sizeOf5
  v5 := Tryz.zeroValue5
  t9 := Tryz.underlying9
  a9 := Tryz.isAgg9
  z9 := Tryz.sizeOf9
  v9 := Tryz.zeroValue9
  t46 := Tryz.underlying416
  a46 := Tryz.isAgg416
  z46 := Tryz.sizeOf416
  v46 := Tryz.zeroValue416
  t51 := Tryz.underlying24
  a51 := Tryz.isAgg24
  z51 := Tryz.sizeOf24
  v51 := Tryz.zeroValue24
  t146 := Tryz.underlying523
  a146 := Tryz.isAgg523
  z146 := Tryz.sizeOf523
  v146 := Tryz.zeroValue523
  g1 := by kernel_rfl
  i3 := by kernel_rfl
  i4 := by kernel_rfl
  i5 := by kernel_rfl
  i9 := by kernel_rfl
  i46 := by kernel_rfl
  i51 := by kernel_rfl
  i146 := by kernel_rfl
  m1 := by kernel_rfl
  s1_3 := fun w h => Go.Proofs.cell_of_shapedOpen_int (zero := #[.int .i64 0]) (t := 3) h (of_decide_eq_true (by kernel_rfl)) (by kernel_rfl) rfl (by kernel_rfl) (by kernel_rfl) Tryz.underlying3 }
open Go.RowKit Go.Lib in
theorem Tryz.strings_Index_shaped (s sub : ByteArray) (w : World) (h : w.ShapedOpen Tryz.prog) (hs : s.size < 4294967281) :
    Calls Tryz.prog 288 #[.string s, .string sub] w fun e w' => e = .returned (.int .i64 (Lib.index s.data.toList sub.data.toList)) ∧ w' = w := Any.strings_Index_shaped Tryz.laysM143 s sub w h hs
def Tryz.laysM220_ren : Go.Shelf.Ren := ⟨fun | 220 => 311 | 219 => 375 | 217 => 440 | 225 => 441 | 224 => 442 | 267 => 443 | 266 => 486 | 314 => 487 | n => n, fun | 9 => 9 | 4 => 4 | 3 => 3 | 5 => 5 | 46 => 416 | 146 => 523 | 51 => 24 | n => n, fun | 1 => 0 | n => n⟩
theorem Tryz.laysM220 : Go.Proofs.LaysM.n220 Tryz.prog Tryz.laysM220_ren := {
  mixed := by kernel_rfl
  f217 := Tryz.func440.trans (congrArg some (by kernel_rfl))
  f219 := Tryz.func375.trans (congrArg some (by kernel_rfl))
  f220 := Tryz.func311.trans (congrArg some (by kernel_rfl))
  f224 := Tryz.func442.trans (congrArg some (by kernel_rfl))
  f225 := Tryz.func441.trans (congrArg some (by kernel_rfl))
  f266 := Tryz.func486.trans (congrArg some (by kernel_rfl))
  f267 := Tryz.func443.trans (congrArg some (by kernel_rfl))
  f314 := Tryz.func487.trans (congrArg some (by kernel_rfl))
  t3 := Tryz.underlying3
  a3 := Tryz.isAgg3
  z3 := Tryz.sizeOf3
  v3 := Tryz.zeroValue3
  t4 := Tryz.underlying4
  a4 := Tryz.isAgg4
  z4 := Tryz.sizeOf4
  v4 := Tryz.zeroValue4
  t5 := Tryz.underlying5
  a5 := Tryz.isAgg5
  z5 := Tryz.sizeOf5
  v5 := Tryz.zeroValue5
  t9 := Tryz.underlying9
  a9 := Tryz.isAgg9
  z9 := Tryz.sizeOf9
  v9 := Tryz.zeroValue9
  t46 := Tryz.underlying416
  a46 := Tryz.isAgg416
  z46 := Tryz.sizeOf416
  v46 := Tryz.zeroValue416
  t51 := Tryz.underlying24
  a51 := Tryz.isAgg24
  z51 := Tryz.sizeOf24
  v51 := Tryz.zeroValue24
  t146 := Tryz.underlying523
  a146 := Tryz.isAgg523
  z146 := Tryz.sizeOf523
  v146 := Tryz.zeroValue523
  g1 := by kernel_rfl
  i3 := by kernel_rfl
  i4 := by kernel_rfl
  i5 := by kernel_rfl
  i9 := by kernel_rfl
  i46 := by kernel_rfl
  i51 := by kernel_rfl
  i146 := by kernel_rfl
  m1 := by kernel_rfl
  s1_3 := fun w h => Go.Proofs.cell_of_shapedOpen_int (zero := #[.int .i64 0]) (t := 3) h (of_decide_eq_true (by kernel_rfl)) (by kernel_rfl) rfl (by kernel_rfl) (by kernel_rfl) Tryz.underlying3 }
open Go.RowKit Go.Lib in
theorem Tryz.stringslite_Cut_shaped (s sep : ByteArray) (w : World) (h : w.ShapedOpen Tryz.prog) (hs : s.size < 4294967281) :
    Calls Tryz.prog 311 #[.string s, .string sep] w fun e w' => e = .returned (.tuple #[.string ⟨(Lib.cut s.data.toList sep.data.toList).1.toArray⟩, .string ⟨(Lib.cut s.data.toList sep.data.toList).2.1.toArray⟩, .bool (Lib.cut s.data.toList sep.data.toList).2.2]) ∧ ∃ n, w' = w.drewN n := Any.stringslite_Cut_shaped Tryz.laysM220 s sep w h hs
def Tryz.laysM145_ren : Go.Shelf.Ren := ⟨fun | 145 => 224 | 220 => 311 | 219 => 375 | 217 => 440 | 225 => 441 | 224 => 442 | 267 => 443 | 266 => 486 | 314 => 487 | n => n, fun | 9 => 9 | 4 => 4 | 59 => 319 | 3 => 3 | 5 => 5 | 46 => 416 | 146 => 523 | 51 => 24 | n => n, fun | 1 => 0 | n => n⟩
theorem Tryz.laysM145 : Go.Proofs.LaysM.n145 Tryz.prog Tryz.laysM145_ren := {
  mixed := by kernel_rfl
  f145 := Tryz.func224.trans (congrArg some (by kernel_rfl))
  f217 := Tryz.func440.trans (congrArg some (by kernel_rfl))
  f219 := Tryz.func375.trans (congrArg some (by kernel_rfl))
  f220 := Tryz.func311.trans (congrArg some (by kernel_rfl))
  f224 := Tryz.func442.trans (congrArg some (by kernel_rfl))
  f225 := Tryz.func441.trans (congrArg some (by kernel_rfl))
  f266 := Tryz.func486.trans (congrArg some (by kernel_rfl))
  f267 := Tryz.func443.trans (congrArg some (by kernel_rfl))
  f314 := Tryz.func487.trans (congrArg some (by kernel_rfl))
  t3 := Tryz.underlying3
  a3 := Tryz.isAgg3
  z3 := Tryz.sizeOf3
  v3 := Tryz.zeroValue3
  t4 := Tryz.underlying4
  a4 := Tryz.isAgg4
  z4 := Tryz.sizeOf4
  v4 := Tryz.zeroValue4
  t5 := Tryz.underlying5
  a5 := Tryz.isAgg5
  z5 := Tryz.sizeOf5
  v5 := Tryz.zeroValue5
  t9 := Tryz.underlying9
  a9 := Tryz.isAgg9
  z9 := Tryz.sizeOf9
  v9 := Tryz.zeroValue9
  t46 := Tryz.underlying416
  a46 := Tryz.isAgg416
  z46 := Tryz.sizeOf416
  v46 := Tryz.zeroValue416
  t51 := Tryz.underlying24
  a51 := Tryz.isAgg24
  z51 := Tryz.sizeOf24
  v51 := Tryz.zeroValue24
  t59 := Tryz.underlying319
  a59 := Tryz.isAgg319
  z59 := Tryz.sizeOf319
  v59 := Tryz.zeroValue319
  t146 := Tryz.underlying523
  a146 := Tryz.isAgg523
  z146 := Tryz.sizeOf523
  v146 := Tryz.zeroValue523
  g1 := by kernel_rfl
  i3 := by kernel_rfl
  i4 := by kernel_rfl
  i5 := by kernel_rfl
  i9 := by kernel_rfl
  i46 := by kernel_rfl
  i51 := by kernel_rfl
  i59 := by kernel_rfl
  i146 := by kernel_rfl
  m1 := by kernel_rfl
  s1_3 := fun w h => Go.Proofs.cell_of_shapedOpen_int (zero := #[.int .i64 0]) (t := 3) h (of_decide_eq_true (by kernel_rfl)) (by kernel_rfl) rfl (by kernel_rfl) (by kernel_rfl) Tryz.underlying3 }
open Go.RowKit Go.Lib in
theorem Tryz.strings_Cut_shaped (s sep : ByteArray) (w : World) (h : w.ShapedOpen Tryz.prog) (hs : s.size < 4294967281) :
    Calls Tryz.prog 224 #[.string s, .string sep] w fun e w' => e = .returned (.tuple #[.string ⟨(Lib.cut s.data.toList sep.data.toList).1.toArray⟩, .string ⟨(Lib.cut s.data.toList sep.data.toList).2.1.toArray⟩, .bool (Lib.cut s.data.toList sep.data.toList).2.2]) ∧ ∃ n, w' = w.drewN n := Any.strings_Cut_shaped Tryz.laysM145 s sep w h hs
def Tryz.laysM138_ren : Go.Shelf.Ren := ⟨fun | 138 => 286 | 195 => 371 | 218 => 372 | 143 => 288 | 219 => 375 | 217 => 440 | 225 => 441 | 224 => 442 | 267 => 443 | 266 => 486 | 314 => 487 | n => n, fun | 9 => 9 | 3 => 3 | 4 => 4 | 5 => 5 | 0 => 0 | 46 => 416 | 146 => 523 | 51 => 24 | n => n, fun | 1 => 0 | n => n⟩
theorem Tryz.laysM138 : Go.Proofs.LaysM.n138 Tryz.prog Tryz.laysM138_ren := {
  mixed := by kernel_rfl
  f138 := Tryz.func286.trans (congrArg some (by kernel_rfl))
  f143 := Tryz.func288.trans (congrArg some (by kernel_rfl))
  f195 := Tryz.func371.trans (congrArg some (by kernel_rfl))
  f217 := Tryz.func440.trans (congrArg some (by kernel_rfl))
  f218 := Tryz.func372.trans (congrArg some (by kernel_rfl))
  f219 := Tryz.func375.trans (congrArg some (by kernel_rfl))
  f224 := Tryz.func442.trans (congrArg some (by kernel_rfl))
  f225 := Tryz.func441.trans (congrArg some (by kernel_rfl))
  f266 := Tryz.func486.trans (congrArg some (by kernel_rfl))
  f267 := Tryz.func443.trans (congrArg some (by kernel_rfl))
  f314 := Tryz.func487.trans (congrArg some (by kernel_rfl))
  t0 := Tryz.underlying0
  a0 := Tryz.isAgg0
  z0 := Tryz.sizeOf0
  v0 := Tryz.zeroValue0
  t3 := Tryz.underlying3
  a3 := Tryz.isAgg3
  z3 := Tryz.sizeOf3
  v3 := Tryz.zeroValue3
  t4 := Tryz.underlying4
  a4 := Tryz.isAgg4
  z4 := Tryz.sizeOf4
  v4 := Tryz.zeroValue4
  t5 := Tryz.underlying5
  a5 := Tryz.isAgg5
  z5 := Tryz.sizeOf5
  v5 := Tryz.zeroValue5
  t9 := Tryz.underlying9
  a9 := Tryz.isAgg9
  z9 := Tryz.sizeOf9
  v9 := Tryz.zeroValue9
  t46 := Tryz.underlying416
  a46 := Tryz.isAgg416
  z46 := Tryz.sizeOf416
  v46 := Tryz.zeroValue416
  t51 := Tryz.underlying24
  a51 := Tryz.isAgg24
  z51 := Tryz.sizeOf24
  v51 := Tryz.zeroValue24
  t146 := Tryz.underlying523
  a146 := Tryz.isAgg523
  z146 := Tryz.sizeOf523
  v146 := Tryz.zeroValue523
  g1 := by kernel_rfl
  i0 := by kernel_rfl
  i3 := by kernel_rfl
  i4 := by kernel_rfl
  i5 := by kernel_rfl
  i9 := by kernel_rfl
  i46 := by kernel_rfl
  i51 := by kernel_rfl
  i146 := by kernel_rfl
  m1 := by kernel_rfl
  s1_3 := fun w h => Go.Proofs.cell_of_shapedOpen_int (zero := #[.int .i64 0]) (t := 3) h (of_decide_eq_true (by kernel_rfl)) (by kernel_rfl) rfl (by kernel_rfl) (by kernel_rfl) Tryz.underlying3 }
open Go.RowKit Go.Lib in
theorem Tryz.strings_Count_shaped (s sub : ByteArray) (w : World) (h : w.ShapedOpen Tryz.prog) (hs : s.size < 4294967281) (h2 : 2 ≤ sub.size) :
    Calls Tryz.prog 286 #[.string s, .string sub] w fun e w' => e = .returned (.int .i64 (Lib.countB s sub)) ∧ w' = w := Any.strings_Count_shaped Tryz.laysM138 s sub w h hs h2
def Tryz.lays206_ren : Go.Shelf.Ren := ⟨fun | 206 => 324 | n => n, fun | 9 => 9 | 4 => 4 | 3 => 3 | n => n, fun | n => n⟩
theorem Tryz.lays206 : Go.Proofs.Lays.n206 Tryz.prog Tryz.lays206_ren := {
  mixed := by kernel_rfl
  f206 := Tryz.func324.trans (congrArg some (by kernel_rfl))
  t3 := Tryz.underlying3
  a3 := Tryz.isAgg3
  z3 := Tryz.sizeOf3
  v3 := Tryz.zeroValue3
  t4 := Tryz.underlying4
  a4 := Tryz.isAgg4
  z4 := Tryz.sizeOf4
  v4 := Tryz.zeroValue4
  t9 := Tryz.underlying9
  a9 := Tryz.isAgg9
  z9 := Tryz.sizeOf9
  v9 := Tryz.zeroValue9 }
open Go.RowKit Go.Lib in
/-- internal/stringslite.HasPrefix (what strings.HasPrefix calls). (LAID: no walk: one application.) -/
theorem Tryz.stringslite_HasPrefix (s p : ByteArray) (w : World) :
    Calls Tryz.prog 324 #[.string s, .string p] w fun e w' => e = .returned (.bool (Lib.hasPrefix s.data.toList p.data.toList)) ∧ w' = w := Any.stringslite_HasPrefix Tryz.lays206 s p w
def Tryz.lays99_ren : Go.Shelf.Ren := ⟨fun | 99 => 240 | 206 => 324 | n => n, fun | 9 => 9 | 4 => 4 | 3 => 3 | n => n, fun | n => n⟩
theorem Tryz.lays99 : Go.Proofs.Lays.n99 Tryz.prog Tryz.lays99_ren := {
  mixed := by kernel_rfl
  f99 := Tryz.func240.trans (congrArg some (by kernel_rfl))
  f206 := Tryz.func324.trans (congrArg some (by kernel_rfl))
  t3 := Tryz.underlying3
  a3 := Tryz.isAgg3
  z3 := Tryz.sizeOf3
  v3 := Tryz.zeroValue3
  t4 := Tryz.underlying4
  a4 := Tryz.isAgg4
  z4 := Tryz.sizeOf4
  v4 := Tryz.zeroValue4
  t9 := Tryz.underlying9
  a9 := Tryz.isAgg9
  z9 := Tryz.sizeOf9
  v9 := Tryz.zeroValue9 }
open Go.RowKit Go.Lib in
/-- strings.HasPrefix: "HasPrefix reports whether the string s begins with prefix.": IT RETURNS 'Lib.hasPrefix s prefix'; the world is as it was. (LAID: no walk: one application.) -/
theorem Tryz.strings_HasPrefix (s p : ByteArray) (w : World) :
    Calls Tryz.prog 240 #[.string s, .string p] w fun e w' => e = .returned (.bool (Lib.hasPrefix s.data.toList p.data.toList)) ∧ w' = w := Any.strings_HasPrefix Tryz.lays99 s p w
open Go.RowKit Go.Lib in
/-- strings.Count at whatever sep that is not empty: the two roads under one statement. (LAID: no walk: one application.) -/
theorem Tryz.strings_Count_any (s sep : ByteArray) (m : Int) (w : World) (hs : s.size < 4294967281) (hm : w.cell? ⟨0, 0, none⟩ = some (.int .i64 m)) (h1 : 1 ≤ sep.size) :
    Calls Tryz.prog 286 #[.string s, .string sep] w fun e w' => e = .returned (.int .i64 (Lib.countB s sep)) ∧ w' = w := Any.strings_Count_any Tryz.lays138 s sep m w hs hm h1
def Tryz.lays221_ren : Go.Shelf.Ren := ⟨fun | 221 => 528 | 268 => 537 | 138 => 286 | 143 => 288 | 195 => 371 | 197 => 290 | 218 => 372 | 219 => 375 | 260 => 376 | 217 => 440 | 225 => 441 | 224 => 442 | 267 => 443 | 266 => 486 | 314 => 487 | n => n, fun | 9 => 9 | 3 => 3 | 31 => 119 | 4 => 4 | 0 => 0 | 105 => 388 | 21 => 21 | 5 => 5 | 46 => 416 | 119 => 493 | 139 => 496 | 138 => 495 | 146 => 523 | 51 => 24 | n => n, fun | 1 => 0 | 3 => 1 | 4 => 2 | n => n⟩
theorem Tryz.lays221 : Go.Proofs.Lays.n221 Tryz.prog Tryz.lays221_ren := {
  mixed := by kernel_rfl
  f138 := Tryz.func286.trans (congrArg some (by kernel_rfl))
  f143 := Tryz.func288.trans (congrArg some (by kernel_rfl))
  f195 := Tryz.func371.trans (congrArg some (by kernel_rfl))
  f197 := Tryz.func290.trans (congrArg some (by kernel_rfl))
  f217 := Tryz.func440.trans (congrArg some (by kernel_rfl))
  f218 := Tryz.func372.trans (congrArg some (by kernel_rfl))
  f219 := Tryz.func375.trans (congrArg some (by kernel_rfl))
  f221 := Tryz.func528.trans (congrArg some (by kernel_rfl))
  f224 := Tryz.func442.trans (congrArg some (by kernel_rfl))
  f225 := Tryz.func441.trans (congrArg some (by kernel_rfl))
  f260 := Tryz.func376.trans (congrArg some (by kernel_rfl))
  f266 := Tryz.func486.trans (congrArg some (by kernel_rfl))
  f267 := Tryz.func443.trans (congrArg some (by kernel_rfl))
  f268 := Tryz.func537.trans (congrArg some (by kernel_rfl))
  f314 := Tryz.func487.trans (congrArg some (by kernel_rfl))
  t0 := Tryz.underlying0
  a0 := Tryz.isAgg0
  z0 := Tryz.sizeOf0
  v0 := Tryz.zeroValue0
  t3 := Tryz.underlying3
  a3 := Tryz.isAgg3
  z3 := Tryz.sizeOf3
  v3 := Tryz.zeroValue3
  t4 := Tryz.underlying4
  a4 := Tryz.isAgg4
  z4 := Tryz.sizeOf4
  v4 := Tryz.zeroValue4
  t5 := Tryz.underlying5
  a5 := Tryz.isAgg5
  z5 := Tryz.sizeOf5
  v5 := Tryz.zeroValue5
  t9 := Tryz.underlying9
  a9 := Tryz.isAgg9
  z9 := Tryz.sizeOf9
  v9 := Tryz.zeroValue9
  t21 := Tryz.underlying21
  a21 := Tryz.isAgg21
  z21 := Tryz.sizeOf21
  v21 := Tryz.zeroValue21
  t31 := Tryz.underlying119
  a31 := Tryz.isAgg119
  z31 := Tryz.sizeOf119
  v31 := Tryz.zeroValue119
  t46 := Tryz.underlying416
  a46 := Tryz.isAgg416
  z46 := Tryz.sizeOf416
  v46 := Tryz.zeroValue416
  t51 := Tryz.underlying24
  a51 := Tryz.isAgg24
  z51 := Tryz.sizeOf24
  v51 := Tryz.zeroValue24
  t105 := Tryz.underlying388
  a105 := Tryz.isAgg388
  z105 := Tryz.sizeOf388
  v105 := Tryz.zeroValue388
  t119 := Tryz.underlying493
  a119 := Tryz.isAgg493
  z119 := Tryz.sizeOf493
  t138 := Tryz.underlying495
  a138 := Tryz.isAgg495
  z138 := Tryz.sizeOf495
  v138 := Tryz.zeroValue495
  t139 := Tryz.underlying496
  a139 := Tryz.isAgg496
  z139 := Tryz.sizeOf496
  v139 := Tryz.zeroValue496
  t146 := Tryz.underlying523
  a146 := Tryz.isAgg523
  z146 := Tryz.sizeOf523
  v146 := Tryz.zeroValue523
  g1 := by kernel_rfl
  g3 := by kernel_rfl
  g4 := by kernel_rfl }
open Go.RowKit Go.Lib in
theorem Tryz.strings_genSplit (s sep : ByteArray) (sv : Nat) (n : Int) (N : Nat) (m : Int) (w : World) (hs : s.size < 4294967281) (hm : w.cell? ⟨0, 0, none⟩ = some (.int .i64 m)) (h1 : 1 ≤ sep.size) (hsv : sv ≤ sep.size) (hn0 : n ≠ 0) (hn63 : n ≤ 9223372036854775807) (hN : (N : Int) = min (if n < 0 then (Lib.countB s sep : Int) + 1 else n) ((s.size : Int) + 1)) :
    Calls Tryz.prog 528 #[.string s, .string sep, .int .i64 sv, .int .i64 n] w fun e w' =>
      e = .returned (.slice (some ⟨w.heap.size, 0, none⟩) (Lib.splitB sep sv (N - 1) s).length N) ∧ w' = w.alloc (.cells (Lib.cellsOf (Lib.splitB sep sv (N - 1) s) N) 9) := Any.strings_genSplit Tryz.lays221 (by kernel_rfl) s sep sv n N m w hs hm h1 hsv hn0 hn63 hN
def Tryz.lays146_ren : Go.Shelf.Ren := ⟨fun | 146 => 500 | 221 => 528 | 268 => 537 | 138 => 286 | 143 => 288 | 195 => 371 | 197 => 290 | 218 => 372 | 219 => 375 | 260 => 376 | 217 => 440 | 225 => 441 | 224 => 442 | 267 => 443 | 266 => 486 | 314 => 487 | n => n, fun | 9 => 9 | 31 => 119 | 3 => 3 | 4 => 4 | 0 => 0 | 105 => 388 | 21 => 21 | 5 => 5 | 46 => 416 | 119 => 493 | 139 => 496 | 138 => 495 | 146 => 523 | 51 => 24 | n => n, fun | 1 => 0 | 3 => 1 | 4 => 2 | n => n⟩
theorem Tryz.lays146 : Go.Proofs.Lays.n146 Tryz.prog Tryz.lays146_ren := {
  mixed := by kernel_rfl
  f138 := Tryz.func286.trans (congrArg some (by kernel_rfl))
  f143 := Tryz.func288.trans (congrArg some (by kernel_rfl))
  f146 := Tryz.func500.trans (congrArg some (by kernel_rfl))
  f195 := Tryz.func371.trans (congrArg some (by kernel_rfl))
  f197 := Tryz.func290.trans (congrArg some (by kernel_rfl))
  f217 := Tryz.func440.trans (congrArg some (by kernel_rfl))
  f218 := Tryz.func372.trans (congrArg some (by kernel_rfl))
  f219 := Tryz.func375.trans (congrArg some (by kernel_rfl))
  f221 := Tryz.func528.trans (congrArg some (by kernel_rfl))
  f224 := Tryz.func442.trans (congrArg some (by kernel_rfl))
  f225 := Tryz.func441.trans (congrArg some (by kernel_rfl))
  f260 := Tryz.func376.trans (congrArg some (by kernel_rfl))
  f266 := Tryz.func486.trans (congrArg some (by kernel_rfl))
  f267 := Tryz.func443.trans (congrArg some (by kernel_rfl))
  f268 := Tryz.func537.trans (congrArg some (by kernel_rfl))
  f314 := Tryz.func487.trans (congrArg some (by kernel_rfl))
  t0 := Tryz.underlying0
  a0 := Tryz.isAgg0
  z0 := Tryz.sizeOf0
  v0 := Tryz.zeroValue0
  t3 := Tryz.underlying3
  a3 := Tryz.isAgg3
  z3 := Tryz.sizeOf3
  v3 := Tryz.zeroValue3
  t4 := Tryz.underlying4
  a4 := Tryz.isAgg4
  z4 := Tryz.sizeOf4
  v4 := Tryz.zeroValue4
  t5 := Tryz.underlying5
  a5 := Tryz.isAgg5
  z5 := Tryz.sizeOf5
  v5 := Tryz.zeroValue5
  t9 := Tryz.underlying9
  a9 := Tryz.isAgg9
  z9 := Tryz.sizeOf9
  v9 := Tryz.zeroValue9
  t21 := Tryz.underlying21
  a21 := Tryz.isAgg21
  z21 := Tryz.sizeOf21
  v21 := Tryz.zeroValue21
  t31 := Tryz.underlying119
  a31 := Tryz.isAgg119
  z31 := Tryz.sizeOf119
  v31 := Tryz.zeroValue119
  t46 := Tryz.underlying416
  a46 := Tryz.isAgg416
  z46 := Tryz.sizeOf416
  v46 := Tryz.zeroValue416
  t51 := Tryz.underlying24
  a51 := Tryz.isAgg24
  z51 := Tryz.sizeOf24
  v51 := Tryz.zeroValue24
  t105 := Tryz.underlying388
  a105 := Tryz.isAgg388
  z105 := Tryz.sizeOf388
  v105 := Tryz.zeroValue388
  t119 := Tryz.underlying493
  a119 := Tryz.isAgg493
  z119 := Tryz.sizeOf493
  t138 := Tryz.underlying495
  a138 := Tryz.isAgg495
  z138 := Tryz.sizeOf495
  v138 := Tryz.zeroValue495
  t139 := Tryz.underlying496
  a139 := Tryz.isAgg496
  z139 := Tryz.sizeOf496
  v139 := Tryz.zeroValue496
  t146 := Tryz.underlying523
  a146 := Tryz.isAgg523
  z146 := Tryz.sizeOf523
  v146 := Tryz.zeroValue523
  g1 := by kernel_rfl
  g3 := by kernel_rfl
  g4 := by kernel_rfl }
open Go.RowKit Go.Lib in
/-- strings.Split. (LAID: no walk: one application.) -/
theorem Tryz.strings_Split (s sep : ByteArray) (m : Int) (w : World) (hs : s.size < 4294967281) (hm : w.cell? ⟨0, 0, none⟩ = some (.int .i64 m)) (h1 : 1 ≤ sep.size) :
    Calls Tryz.prog 500 #[.string s, .string sep] w fun e w' =>
      e = .returned (.slice (some ⟨w.heap.size, 0, none⟩) (Lib.countB s sep + 1) (Lib.countB s sep + 1)) ∧ w' = w.alloc (.cells ((Lib.splitB sep 0 (Lib.countB s sep) s).map Value.string).toArray 9) := Any.strings_Split Tryz.lays146 (by kernel_rfl) s sep m w hs hm h1
def Tryz.lays154_ren : Go.Shelf.Ren := ⟨fun | 154 => 209 | 138 => 286 | 165 => 287 | 143 => 288 | 166 => 289 | 197 => 290 | 169 => 291 | 195 => 371 | 218 => 372 | 240 => 373 | 241 => 374 | 219 => 375 | 260 => 376 | 276 => 438 | 277 => 439 | 217 => 440 | 225 => 441 | 224 => 442 | 267 => 443 | 266 => 486 | 314 => 487 | n => n, fun | 9 => 9 | 3 => 3 | 4 => 4 | 72 => 383 | 0 => 0 | 76 => 386 | 105 => 388 | 21 => 21 | 5 => 5 | 70 => 381 | 20 => 20 | 37 => 232 | 75 => 385 | 127 => 449 | 164 => 491 | 46 => 416 | 119 => 493 | 139 => 496 | 138 => 495 | 146 => 523 | 51 => 24 | 80 => 390 | n => n, fun | 1 => 0 | 3 => 1 | 4 => 2 | n => n⟩
theorem Tryz.lays154 : Go.Proofs.Lays.n154 Tryz.prog Tryz.lays154_ren := {
  mixed := by kernel_rfl
  f138 := Tryz.func286.trans (congrArg some (by kernel_rfl))
  f143 := Tryz.func288.trans (congrArg some (by kernel_rfl))
  f154 := Tryz.func209.trans (congrArg some (by kernel_rfl))
  f165 := Tryz.func287.trans (congrArg some (by kernel_rfl))
  f166 := Tryz.func289.trans (congrArg some (by kernel_rfl))
  f169 := Tryz.func291.trans (congrArg some (by kernel_rfl))
  f195 := Tryz.func371.trans (congrArg some (by kernel_rfl))
  f197 := Tryz.func290.trans (congrArg some (by kernel_rfl))
  f217 := Tryz.func440.trans (congrArg some (by kernel_rfl))
  f218 := Tryz.func372.trans (congrArg some (by kernel_rfl))
  f219 := Tryz.func375.trans (congrArg some (by kernel_rfl))
  f224 := Tryz.func442.trans (congrArg some (by kernel_rfl))
  f225 := Tryz.func441.trans (congrArg some (by kernel_rfl))
  f240 := Tryz.func373.trans (congrArg some (by kernel_rfl))
  f241 := Tryz.func374.trans (congrArg some (by kernel_rfl))
  f260 := Tryz.func376.trans (congrArg some (by kernel_rfl))
  f266 := Tryz.func486.trans (congrArg some (by kernel_rfl))
  f267 := Tryz.func443.trans (congrArg some (by kernel_rfl))
  f276 := Tryz.func438.trans (congrArg some (by kernel_rfl))
  f277 := Tryz.func439.trans (congrArg some (by kernel_rfl))
  f314 := Tryz.func487.trans (congrArg some (by kernel_rfl))
  t0 := Tryz.underlying0
  a0 := Tryz.isAgg0
  z0 := Tryz.sizeOf0
  v0 := Tryz.zeroValue0
  t3 := Tryz.underlying3
  a3 := Tryz.isAgg3
  z3 := Tryz.sizeOf3
  v3 := Tryz.zeroValue3
  t4 := Tryz.underlying4
  a4 := Tryz.isAgg4
  z4 := Tryz.sizeOf4
  v4 := Tryz.zeroValue4
  t5 := Tryz.underlying5
  a5 := Tryz.isAgg5
  z5 := Tryz.sizeOf5
  v5 := Tryz.zeroValue5
  t9 := Tryz.underlying9
  a9 := Tryz.isAgg9
  z9 := Tryz.sizeOf9
  v9 := Tryz.zeroValue9
  t20 := Tryz.underlying20
  a20 := Tryz.isAgg20
  z20 := Tryz.sizeOf20
  v20 := Tryz.zeroValue20
  t21 := Tryz.underlying21
  a21 := Tryz.isAgg21
  z21 := Tryz.sizeOf21
  v21 := Tryz.zeroValue21
  t37 := Tryz.underlying232
  a37 := Tryz.isAgg232
  z37 := Tryz.sizeOf232
  v37 := Tryz.zeroValue232
  t46 := Tryz.underlying416
  a46 := Tryz.isAgg416
  z46 := Tryz.sizeOf416
  v46 := Tryz.zeroValue416
  t51 := Tryz.underlying24
  a51 := Tryz.isAgg24
  z51 := Tryz.sizeOf24
  v51 := Tryz.zeroValue24
  t70 := Tryz.underlying381
  a70 := Tryz.isAgg381
  z70 := Tryz.sizeOf381
  v70 := Tryz.zeroValue381
  t72 := Tryz.underlying383
  a72 := Tryz.isAgg383
  z72 := Tryz.sizeOf383
  v72 := Tryz.zeroValue383
  t75 := Tryz.underlying385
  a75 := Tryz.isAgg385
  z75 := Tryz.sizeOf385
  v75 := Tryz.zeroValue385
  t76 := Tryz.underlying386
  a76 := Tryz.isAgg386
  z76 := Tryz.sizeOf386
  v76 := Tryz.zeroValue386
  t105 := Tryz.underlying388
  a105 := Tryz.isAgg388
  z105 := Tryz.sizeOf388
  v105 := Tryz.zeroValue388
  t119 := Tryz.underlying493
  a119 := Tryz.isAgg493
  z119 := Tryz.sizeOf493
  t127 := Tryz.underlying449
  a127 := Tryz.isAgg449
  z127 := Tryz.sizeOf449
  v127 := Tryz.zeroValue449
  t138 := Tryz.underlying495
  a138 := Tryz.isAgg495
  z138 := Tryz.sizeOf495
  v138 := Tryz.zeroValue495
  t139 := Tryz.underlying496
  a139 := Tryz.isAgg496
  z139 := Tryz.sizeOf496
  v139 := Tryz.zeroValue496
  t146 := Tryz.underlying523
  a146 := Tryz.isAgg523
  z146 := Tryz.sizeOf523
  v146 := Tryz.zeroValue523
  t164 := Tryz.underlying491
  a164 := Tryz.isAgg491
  z164 := Tryz.sizeOf491
  v164 := Tryz.zeroValue491
  g1 := by kernel_rfl
  g3 := by kernel_rfl
  g4 := by kernel_rfl }
theorem Tryz.Builder_Extra_154 : Builder.Extra Tryz.prog Tryz.lays154_ren := {
  sizeBuilder := by kernel_rfl
  liesBuilder := by kernel_rfl
  t5 := Tryz.underlying5
  a5 := Tryz.isAgg5
  z5 := Tryz.sizeOf5
  v5 := Tryz.zeroValue5
  infoByte := by kernel_rfl
  cellsByte := by kernel_rfl
  sizeByte := by kernel_rfl
  neB5 := by decide }
open Go.RowKit Go.Lib in
/-- WHERE SOMETHING IS REPLACED: old is not new, n is not 0, there is an instance. (LAID: no walk: one application.) -/
theorem Tryz.strings_Replace_some (s old new : ByteArray) (n : Int) (m : Int) (w : World) (hs : s.size < 4294967281) (hm : w.cell? ⟨0, 0, none⟩ = some (.int .i64 m)) (h1 : 1 ≤ old.size) (hne : old ≠ new) (hn0 : n ≠ 0) (hc0 : Lib.countB s old ≠ 0) (hlen : s.size + Lib.countB s old * new.size ≤ 140737488355328) :
    Calls Tryz.prog 209 #[.string s, .string old, .string new, .int .i64 n] w fun e w' =>
      e = .returned (.string ⟨(Lib.replaceK old.data.toList new.data.toList (Lib.replaceNum s.data.toList old.data.toList n) s.data.toList).toArray⟩) ∧ Below w.heap.size w w' := Any.strings_Replace_some Tryz.lays154 Tryz.Builder_Extra_154 s old new n m w hs hm h1 hne hn0 hc0 hlen
open Go.RowKit Go.Lib in
/-- 'if old == new || n == 0 { return s }'. (LAID: no walk: one application.) -/
theorem Tryz.strings_Replace_none (s old new : ByteArray) (n : Int) (w : World) (h : old = new ∨ n = 0) :
    Calls Tryz.prog 209 #[.string s, .string old, .string new, .int .i64 n] w fun e w' => e = .returned (.string s) ∧ w' = w := Any.strings_Replace_none Tryz.lays154 s old new n w h
open Go.RowKit Go.Lib in
/-- 'if m := Count(s, old); m == 0 { return s }'. (LAID: no walk: one application.) -/
theorem Tryz.strings_Replace_absent (s old new : ByteArray) (n : Int) (m : Int) (w : World) (hs : s.size < 4294967281) (hm : w.cell? ⟨0, 0, none⟩ = some (.int .i64 m)) (h1 : 1 ≤ old.size) (hne : old ≠ new) (hn0 : n ≠ 0) (hc0 : Lib.countB s old = 0) :
    Calls Tryz.prog 209 #[.string s, .string old, .string new, .int .i64 n] w fun e w' => e = .returned (.string s) ∧ w' = w := Any.strings_Replace_absent Tryz.lays154 s old new n m w hs hm h1 hne hn0 hc0
open Go.RowKit Go.Lib in
/-- strings.Replace: "Replace returns a copy of the string s with the first n non-overlapping instances of old replaced by new. .. If n < 0, there is no limit on the number of replacements.": AT AN old THAT IS NOT EMPTY: IT RETURNS 'Lib.replace s old new n'. Below the heap's end the world is as it was. IT ASKS, as strings.Index's contract: 'len(s) < 4294967281', 'hm'; and that what comes out has room: 'len(s) + Count(s, old) * len(new) ≤ 2^47'. (LAID: no walk: one application.) -/
theorem Tryz.strings_Replace (s old new : ByteArray) (n : Int) (m : Int) (w : World) (hs : s.size < 4294967281) (hm : w.cell? ⟨0, 0, none⟩ = some (.int .i64 m)) (h1 : 1 ≤ old.size) (hlen : s.size + Lib.countB s old * new.size ≤ 140737488355328) :
    Calls Tryz.prog 209 #[.string s, .string old, .string new, .int .i64 n] w fun e w' =>
      e = .returned (.string ⟨(Lib.replace s.data.toList old.data.toList new.data.toList n).toArray⟩) ∧ Below w.heap.size w w' := Any.strings_Replace Tryz.lays154 Tryz.Builder_Extra_154 s old new n m w hs hm h1 hlen
def Tryz.laysM146_ren : Go.Shelf.Ren := ⟨fun | 146 => 500 | 221 => 528 | 268 => 537 | 138 => 286 | 143 => 288 | 195 => 371 | 197 => 290 | 218 => 372 | 219 => 375 | 260 => 376 | 217 => 440 | 225 => 441 | 224 => 442 | 267 => 443 | 266 => 486 | 314 => 487 | n => n, fun | 9 => 9 | 31 => 119 | 3 => 3 | 4 => 4 | 0 => 0 | 105 => 388 | 21 => 21 | 5 => 5 | 46 => 416 | 119 => 493 | 139 => 496 | 138 => 495 | 146 => 523 | 51 => 24 | n => n, fun | 1 => 0 | 3 => 1 | 4 => 2 | n => n⟩
theorem Tryz.laysM146 : Go.Proofs.LaysM.n146 Tryz.prog Tryz.laysM146_ren := {
  mixed := by kernel_rfl
  f138 := Tryz.func286.trans (congrArg some (by kernel_rfl))
  f143 := Tryz.func288.trans (congrArg some (by kernel_rfl))
  f146 := Tryz.func500.trans (congrArg some (by kernel_rfl))
  f195 := Tryz.func371.trans (congrArg some (by kernel_rfl))
  f197 := Tryz.func290.trans (congrArg some (by kernel_rfl))
  f217 := Tryz.func440.trans (congrArg some (by kernel_rfl))
  f218 := Tryz.func372.trans (congrArg some (by kernel_rfl))
  f219 := Tryz.func375.trans (congrArg some (by kernel_rfl))
  f221 := Tryz.func528.trans (congrArg some (by kernel_rfl))
  f224 := Tryz.func442.trans (congrArg some (by kernel_rfl))
  f225 := Tryz.func441.trans (congrArg some (by kernel_rfl))
  f260 := Tryz.func376.trans (congrArg some (by kernel_rfl))
  f266 := Tryz.func486.trans (congrArg some (by kernel_rfl))
  f267 := Tryz.func443.trans (congrArg some (by kernel_rfl))
  f268 := Tryz.func537.trans (congrArg some (by kernel_rfl))
  f314 := Tryz.func487.trans (congrArg some (by kernel_rfl))
  t0 := Tryz.underlying0
  a0 := Tryz.isAgg0
  z0 := Tryz.sizeOf0
  v0 := Tryz.zeroValue0
  t3 := Tryz.underlying3
  a3 := Tryz.isAgg3
  z3 := Tryz.sizeOf3
  v3 := Tryz.zeroValue3
  t4 := Tryz.underlying4
  a4 := Tryz.isAgg4
  z4 := Tryz.sizeOf4
  v4 := Tryz.zeroValue4
  t5 := Tryz.underlying5
  a5 := Tryz.isAgg5
  z5 := Tryz.sizeOf5
  v5 := Tryz.zeroValue5
  t9 := Tryz.underlying9
  a9 := Tryz.isAgg9
  z9 := Tryz.sizeOf9
  v9 := Tryz.zeroValue9
  t21 := Tryz.underlying21
  a21 := Tryz.isAgg21
  z21 := Tryz.sizeOf21
  v21 := Tryz.zeroValue21
  t31 := Tryz.underlying119
  a31 := Tryz.isAgg119
  z31 := Tryz.sizeOf119
  v31 := Tryz.zeroValue119
  t46 := Tryz.underlying416
  a46 := Tryz.isAgg416
  z46 := Tryz.sizeOf416
  v46 := Tryz.zeroValue416
  t51 := Tryz.underlying24
  a51 := Tryz.isAgg24
  z51 := Tryz.sizeOf24
  v51 := Tryz.zeroValue24
  t105 := Tryz.underlying388
  a105 := Tryz.isAgg388
  z105 := Tryz.sizeOf388
  v105 := Tryz.zeroValue388
  t119 := Tryz.underlying493
  a119 := Tryz.isAgg493
  z119 := Tryz.sizeOf493
  t138 := Tryz.underlying495
  a138 := Tryz.isAgg495
  z138 := Tryz.sizeOf495
  v138 := Tryz.zeroValue495
  t139 := Tryz.underlying496
  a139 := Tryz.isAgg496
  z139 := Tryz.sizeOf496
  v139 := Tryz.zeroValue496
  t146 := Tryz.underlying523
  a146 := Tryz.isAgg523
  z146 := Tryz.sizeOf523
  v146 := Tryz.zeroValue523
  g1 := by kernel_rfl
  g3 := by kernel_rfl
  g4 := by kernel_rfl
  i0 := by kernel_rfl
  i3 := by kernel_rfl
  i4 := by kernel_rfl
  i5 := by kernel_rfl
  i9 := by kernel_rfl
  i21 := by kernel_rfl
  i31 := by kernel_rfl
  i46 := by kernel_rfl
  i51 := by kernel_rfl
  i105 := by kernel_rfl
  i138 := by kernel_rfl
  i139 := by kernel_rfl
  i146 := by kernel_rfl
  m1 := by kernel_rfl
  s1_3 := fun w h => Go.Proofs.cell_of_shapedOpen_int (zero := #[.int .i64 0]) (t := 3) h (of_decide_eq_true (by kernel_rfl)) (by kernel_rfl) rfl (by kernel_rfl) (by kernel_rfl) Tryz.underlying3
  m3 := by kernel_rfl
  m4 := by kernel_rfl }
open Go.RowKit Go.Lib in
/-- strings.Split, sep not empty. (LAID: no walk: one application.) -/
theorem Tryz.strings_Split_shaped (s sep : ByteArray) (w : World) (h : w.ShapedOpen Tryz.prog) (hs : s.size < 4294967281) (h1 : 1 ≤ sep.size) :
    Calls Tryz.prog 500 #[.string s, .string sep] w fun e w' =>
      e = .returned (.slice (some ⟨w.heap.size, 0, none⟩) (Lib.countB s sep + 1) (Lib.countB s sep + 1)) ∧ w' = w.alloc (.cells ((Lib.splitB sep 0 (Lib.countB s sep) s).map Value.string).toArray 9) := Any.strings_Split_shaped Tryz.laysM146 s sep w h hs h1
def Tryz.laysM154_ren : Go.Shelf.Ren := ⟨fun | 154 => 209 | 138 => 286 | 165 => 287 | 143 => 288 | 166 => 289 | 197 => 290 | 169 => 291 | 195 => 371 | 218 => 372 | 240 => 373 | 241 => 374 | 219 => 375 | 260 => 376 | 276 => 438 | 277 => 439 | 217 => 440 | 225 => 441 | 224 => 442 | 267 => 443 | 266 => 486 | 314 => 487 | n => n, fun | 9 => 9 | 3 => 3 | 4 => 4 | 72 => 383 | 0 => 0 | 76 => 386 | 105 => 388 | 21 => 21 | 5 => 5 | 70 => 381 | 20 => 20 | 37 => 232 | 75 => 385 | 127 => 449 | 164 => 491 | 46 => 416 | 119 => 493 | 139 => 496 | 138 => 495 | 146 => 523 | 51 => 24 | 80 => 390 | n => n, fun | 1 => 0 | 3 => 1 | 4 => 2 | n => n⟩
theorem Tryz.laysM154 : Go.Proofs.LaysM.n154 Tryz.prog Tryz.laysM154_ren := {
  mixed := by kernel_rfl
  f138 := Tryz.func286.trans (congrArg some (by kernel_rfl))
  f143 := Tryz.func288.trans (congrArg some (by kernel_rfl))
  f154 := Tryz.func209.trans (congrArg some (by kernel_rfl))
  f165 := Tryz.func287.trans (congrArg some (by kernel_rfl))
  f166 := Tryz.func289.trans (congrArg some (by kernel_rfl))
  f169 := Tryz.func291.trans (congrArg some (by kernel_rfl))
  f195 := Tryz.func371.trans (congrArg some (by kernel_rfl))
  f197 := Tryz.func290.trans (congrArg some (by kernel_rfl))
  f217 := Tryz.func440.trans (congrArg some (by kernel_rfl))
  f218 := Tryz.func372.trans (congrArg some (by kernel_rfl))
  f219 := Tryz.func375.trans (congrArg some (by kernel_rfl))
  f224 := Tryz.func442.trans (congrArg some (by kernel_rfl))
  f225 := Tryz.func441.trans (congrArg some (by kernel_rfl))
  f240 := Tryz.func373.trans (congrArg some (by kernel_rfl))
  f241 := Tryz.func374.trans (congrArg some (by kernel_rfl))
  f260 := Tryz.func376.trans (congrArg some (by kernel_rfl))
  f266 := Tryz.func486.trans (congrArg some (by kernel_rfl))
  f267 := Tryz.func443.trans (congrArg some (by kernel_rfl))
  f276 := Tryz.func438.trans (congrArg some (by kernel_rfl))
  f277 := Tryz.func439.trans (congrArg some (by kernel_rfl))
  f314 := Tryz.func487.trans (congrArg some (by kernel_rfl))
  t0 := Tryz.underlying0
  a0 := Tryz.isAgg0
  z0 := Tryz.sizeOf0
  v0 := Tryz.zeroValue0
  t3 := Tryz.underlying3
  a3 := Tryz.isAgg3
  z3 := Tryz.sizeOf3
  v3 := Tryz.zeroValue3
  t4 := Tryz.underlying4
  a4 := Tryz.isAgg4
  z4 := Tryz.sizeOf4
  v4 := Tryz.zeroValue4
  t5 := Tryz.underlying5
  a5 := Tryz.isAgg5
  z5 := Tryz.sizeOf5
  v5 := Tryz.zeroValue5
  t9 := Tryz.underlying9
  a9 := Tryz.isAgg9
  z9 := Tryz.sizeOf9
  v9 := Tryz.zeroValue9
  t20 := Tryz.underlying20
  a20 := Tryz.isAgg20
  z20 := Tryz.sizeOf20
  v20 := Tryz.zeroValue20
  t21 := Tryz.underlying21
  a21 := Tryz.isAgg21
  z21 := Tryz.sizeOf21
  v21 := Tryz.zeroValue21
  t37 := Tryz.underlying232
  a37 := Tryz.isAgg232
  z37 := Tryz.sizeOf232
  v37 := Tryz.zeroValue232
  t46 := Tryz.underlying416
  a46 := Tryz.isAgg416
  z46 := Tryz.sizeOf416
  v46 := Tryz.zeroValue416
  t51 := Tryz.underlying24
  a51 := Tryz.isAgg24
  z51 := Tryz.sizeOf24
  v51 := Tryz.zeroValue24
  t70 := Tryz.underlying381
  a70 := Tryz.isAgg381
  z70 := Tryz.sizeOf381
  v70 := Tryz.zeroValue381
  t72 := Tryz.underlying383
  a72 := Tryz.isAgg383
  z72 := Tryz.sizeOf383
  v72 := Tryz.zeroValue383
  t75 := Tryz.underlying385
  a75 := Tryz.isAgg385
  z75 := Tryz.sizeOf385
  v75 := Tryz.zeroValue385
  t76 := Tryz.underlying386
  a76 := Tryz.isAgg386
  z76 := Tryz.sizeOf386
  v76 := Tryz.zeroValue386
  t105 := Tryz.underlying388
  a105 := Tryz.isAgg388
  z105 := Tryz.sizeOf388
  v105 := Tryz.zeroValue388
  t119 := Tryz.underlying493
  a119 := Tryz.isAgg493
  z119 := Tryz.sizeOf493
  t127 := Tryz.underlying449
  a127 := Tryz.isAgg449
  z127 := Tryz.sizeOf449
  v127 := Tryz.zeroValue449
  t138 := Tryz.underlying495
  a138 := Tryz.isAgg495
  z138 := Tryz.sizeOf495
  v138 := Tryz.zeroValue495
  t139 := Tryz.underlying496
  a139 := Tryz.isAgg496
  z139 := Tryz.sizeOf496
  v139 := Tryz.zeroValue496
  t146 := Tryz.underlying523
  a146 := Tryz.isAgg523
  z146 := Tryz.sizeOf523
  v146 := Tryz.zeroValue523
  t164 := Tryz.underlying491
  a164 := Tryz.isAgg491
  z164 := Tryz.sizeOf491
  v164 := Tryz.zeroValue491
  g1 := by kernel_rfl
  g3 := by kernel_rfl
  g4 := by kernel_rfl
  t80 := Tryz.underlying390
  a80 := Tryz.isAgg390
  z80 := Tryz.sizeOf390
  v80 := Tryz.zeroValue390
  i0 := by kernel_rfl
  i3 := by kernel_rfl
  i4 := by kernel_rfl
  i5 := by kernel_rfl
  i9 := by kernel_rfl
  i20 := by kernel_rfl
  i21 := by kernel_rfl
  i37 := by kernel_rfl
  i46 := by kernel_rfl
  i51 := by kernel_rfl
  i70 := by kernel_rfl
  i72 := by kernel_rfl
  i75 := by kernel_rfl
  i76 := by kernel_rfl
  i80 := by kernel_rfl
  i105 := by kernel_rfl
  i127 := by kernel_rfl
  i138 := by kernel_rfl
  i139 := by kernel_rfl
  i146 := by kernel_rfl
  i164 := by kernel_rfl
  m1 := by kernel_rfl
  s1_3 := fun w h => Go.Proofs.cell_of_shapedOpen_int (zero := #[.int .i64 0]) (t := 3) h (of_decide_eq_true (by kernel_rfl)) (by kernel_rfl) rfl (by kernel_rfl) (by kernel_rfl) Tryz.underlying3
  m3 := by kernel_rfl
  m4 := by kernel_rfl }
theorem Tryz.Builder_Extra_M154 : Builder.Extra Tryz.prog Tryz.laysM154_ren := {
  sizeBuilder := by kernel_rfl
  liesBuilder := by kernel_rfl
  t5 := Tryz.underlying5
  a5 := Tryz.isAgg5
  z5 := Tryz.sizeOf5
  v5 := Tryz.zeroValue5
  infoByte := by kernel_rfl
  cellsByte := by kernel_rfl
  sizeByte := by kernel_rfl
  neB5 := by decide }
open Go.RowKit Go.Lib in
/-- strings.Replace, old not empty. (LAID: no walk: one application.) -/
theorem Tryz.strings_Replace_shaped (s old new : ByteArray) (n : Int) (w : World) (h : w.ShapedOpen Tryz.prog) (hs : s.size < 4294967281) (h1 : 1 ≤ old.size) (hlen : s.size + Lib.countB s old * new.size ≤ 140737488355328) :
    Calls Tryz.prog 209 #[.string s, .string old, .string new, .int .i64 n] w fun e w' =>
      e = .returned (.string ⟨(Lib.replace s.data.toList old.data.toList new.data.toList n).toArray⟩) ∧ Below w.heap.size w w' := Any.strings_Replace_shaped Tryz.laysM154 Tryz.Builder_Extra_M154 s old new n w h hs h1 hlen
def Tryz.lays260_ren : Go.Shelf.Ren := ⟨fun | 260 => 376 | n => n, fun | 9 => 9 | 21 => 21 | 3 => 3 | 4 => 4 | 5 => 5 | 119 => 493 | 0 => 0 | 46 => 416 | 139 => 496 | 138 => 495 | n => n, fun | 3 => 1 | 4 => 2 | n => n⟩
theorem Tryz.lays260 : Go.Proofs.Lays.n260 Tryz.prog Tryz.lays260_ren := {
  mixed := by kernel_rfl
  f260 := Tryz.func376.trans (congrArg some (by kernel_rfl))
  t0 := Tryz.underlying0
  a0 := Tryz.isAgg0
  z0 := Tryz.sizeOf0
  v0 := Tryz.zeroValue0
  t3 := Tryz.underlying3
  a3 := Tryz.isAgg3
  z3 := Tryz.sizeOf3
  v3 := Tryz.zeroValue3
  t4 := Tryz.underlying4
  a4 := Tryz.isAgg4
  z4 := Tryz.sizeOf4
  v4 := Tryz.zeroValue4
  t5 := Tryz.underlying5
  a5 := Tryz.isAgg5
  z5 := Tryz.sizeOf5
  v5 := Tryz.zeroValue5
  t9 := Tryz.underlying9
  a9 := Tryz.isAgg9
  z9 := Tryz.sizeOf9
  v9 := Tryz.zeroValue9
  t21 := Tryz.underlying21
  a21 := Tryz.isAgg21
  z21 := Tryz.sizeOf21
  v21 := Tryz.zeroValue21
  t46 := Tryz.underlying416
  a46 := Tryz.isAgg416
  z46 := Tryz.sizeOf416
  v46 := Tryz.zeroValue416
  t119 := Tryz.underlying493
  a119 := Tryz.isAgg493
  z119 := Tryz.sizeOf493
  t138 := Tryz.underlying495
  a138 := Tryz.isAgg495
  z138 := Tryz.sizeOf495
  v138 := Tryz.zeroValue495
  t139 := Tryz.underlying496
  a139 := Tryz.isAgg496
  z139 := Tryz.sizeOf496
  v139 := Tryz.zeroValue496
  g3 := by kernel_rfl
  g4 := by kernel_rfl }
open Go.RowKit Go.Lib in
theorem Tryz.utf8_decodeRuneInStringSlow (s : ByteArray) (w : World) (hT : Lib.Utf8Tabs 1 2 w) :
    Calls Tryz.prog 376 #[.string s] w fun e w' => e = .returned (.tuple #[.int .i32 (Lib.decodeGo s).1, .int .i64 (Lib.decodeGo s).2]) ∧ Below w.heap.size w w' := Any.utf8_decodeRuneInStringSlow Tryz.lays260 s w hT
def Tryz.laysSlM6_f279_ren : Go.Shelf.Ren := ⟨fun | 6 => 279 | 8 => 332 | 9 => 364 | 19 => 408 | 20 => 409 | 21 => 428 | 22 => 429 | 23 => 430 | 24 => 431 | 25 => 432 | 26 => 433 | 27 => 434 | 28 => 435 | 29 => 436 | 36 => 482 | 31 => 461 | 32 => 462 | 37 => 483 | 38 => 484 | 39 => 485 | 41 => 521 | n => n, fun | 27 => 119 | 29 => 9 | 3 => 3 | 32 => 416 | 26 => 119 | 0 => 0 | 44 => 24 | 46 => 234 | 4 => 4 | 36 => 465 | 35 => 464 | 41 => 246 | 5 => 5 | 9 => 9 | 53 => 506 | 57 => 510 | 63 => 539 | 64 => 540 | n => n, fun | n => n⟩
theorem Tryz.laysSlM6_f279 : Go.Proofs.SlLaysM.n6 Tryz.prog Tryz.laysSlM6_f279_ren := {
  mixed := by kernel_rfl
  f6 := ⟨Tryz.f279.name, by decide, Tryz.func279.trans (congrArg some (by kernel_rfl))⟩
  f8 := Tryz.func332.trans (congrArg some (by kernel_rfl))
  f9 := ⟨Tryz.f364.name, by decide, Tryz.func364.trans (congrArg some (by kernel_rfl))⟩
  f19 := Tryz.func408.trans (congrArg some (by kernel_rfl))
  f20 := Tryz.func409.trans (congrArg some (by kernel_rfl))
  f21 := ⟨Tryz.f428.name, by decide, Tryz.func428.trans (congrArg some (by kernel_rfl))⟩
  f22 := ⟨Tryz.f429.name, by decide, Tryz.func429.trans (congrArg some (by kernel_rfl))⟩
  f23 := ⟨Tryz.f430.name, by decide, Tryz.func430.trans (congrArg some (by kernel_rfl))⟩
  f24 := ⟨Tryz.f431.name, by decide, Tryz.func431.trans (congrArg some (by kernel_rfl))⟩
  f25 := ⟨Tryz.f432.name, by decide, Tryz.func432.trans (congrArg some (by kernel_rfl))⟩
  f26 := ⟨Tryz.f433.name, by decide, Tryz.func433.trans (congrArg some (by kernel_rfl))⟩
  f27 := ⟨Tryz.f434.name, by decide, Tryz.func434.trans (congrArg some (by kernel_rfl))⟩
  f28 := ⟨Tryz.f435.name, by decide, Tryz.func435.trans (congrArg some (by kernel_rfl))⟩
  f29 := ⟨Tryz.f436.name, by decide, Tryz.func436.trans (congrArg some (by kernel_rfl))⟩
  f31 := Tryz.func461.trans (congrArg some (by kernel_rfl))
  f32 := Tryz.func462.trans (congrArg some (by kernel_rfl))
  f36 := ⟨Tryz.f482.name, by decide, Tryz.func482.trans (congrArg some (by kernel_rfl))⟩
  f37 := ⟨Tryz.f483.name, by decide, Tryz.func483.trans (congrArg some (by kernel_rfl))⟩
  f38 := ⟨Tryz.f484.name, by decide, Tryz.func484.trans (congrArg some (by kernel_rfl))⟩
  f39 := ⟨Tryz.f485.name, by decide, Tryz.func485.trans (congrArg some (by kernel_rfl))⟩
  f41 := ⟨Tryz.f521.name, by decide, Tryz.func521.trans (congrArg some (by kernel_rfl))⟩
  t0 := Tryz.underlying0
  a0 := Tryz.isAgg0
  z0 := Tryz.sizeOf0
  v0 := Tryz.zeroValue0
  t3 := Tryz.underlying3
  a3 := Tryz.isAgg3
  z3 := Tryz.sizeOf3
  v3 := Tryz.zeroValue3
  t4 := Tryz.underlying4
  a4 := Tryz.isAgg4
  z4 := Tryz.sizeOf4
  v4 := Tryz.zeroValue4
  t5 := Tryz.underlying5
  a5 := Tryz.isAgg5
  z5 := Tryz.sizeOf5
  v5 := Tryz.zeroValue5
  t9 := Tryz.underlying9
  a9 := Tryz.isAgg9
  z9 := Tryz.sizeOf9
  v9 := Tryz.zeroValue9
  t26 := Tryz.underlying119
  a26 := Tryz.isAgg119
  z26 := Tryz.sizeOf119
  v26 := Tryz.zeroValue119
  t27 := Tryz.underlying119
  a27 := Tryz.isAgg119
  z27 := Tryz.sizeOf119
  v27 := Tryz.zeroValue119
  t29 := Tryz.underlying9
  a29 := Tryz.isAgg9
  z29 := Tryz.sizeOf9
  v29 := Tryz.zeroValue9
  t32 := Tryz.underlying416
  a32 := Tryz.isAgg416
  z32 := Tryz.sizeOf416
  v32 := Tryz.zeroValue416
  t35 := Tryz.underlying464
  a35 := Tryz.isAgg464
  z35 := Tryz.sizeOf464
  v35 := Tryz.zeroValue464
  t36 := Tryz.underlying465
  a36 := Tryz.isAgg465
  z36 := Tryz.sizeOf465
  v36 := Tryz.zeroValue465
  t41 := Tryz.underlying246
  a41 := Tryz.isAgg246
  z41 := Tryz.sizeOf246
  v41 := Tryz.zeroValue246
  t44 := Tryz.underlying24
  a44 := Tryz.isAgg24
  z44 := Tryz.sizeOf24
  v44 := Tryz.zeroValue24
  t46 := Tryz.underlying234
  a46 := Tryz.isAgg234
  z46 := Tryz.sizeOf234
  v46 := Tryz.zeroValue234
  t53 := Tryz.underlying506
  a53 := Tryz.isAgg506
  z53 := Tryz.sizeOf506
  v53 := Tryz.zeroValue506
  t57 := Tryz.underlying510
  a57 := Tryz.isAgg510
  z57 := Tryz.sizeOf510
  v57 := Tryz.zeroValue510
  t63 := Tryz.underlying539
  a63 := Tryz.isAgg539
  z63 := Tryz.sizeOf539
  v63 := Tryz.zeroValue539
  t64 := Tryz.underlying540
  a64 := Tryz.isAgg540
  z64 := Tryz.sizeOf540
  v64 := Tryz.zeroValue540 }
open Go.Sort Go.RowKit in
theorem Tryz.slices_Sort_string (blk off cap : Nat) (ss : List (List UInt8)) (w : World) (hH : Holds encStr w blk off ss.toArray) (hblk : blk < w.heap.size) (hsz : ss.length < 4611686018427387904) :
    Calls Tryz.prog 279 #[.slice (some ⟨blk, off, none⟩) ss.length cap] w fun e w' =>
      e = .returned (.tuple #[]) ∧ ∃ n os, w' = grow (putRow encStr (Sort.ahead w n) blk off (ss.mergeSort fun x y => decide (x ≤ y)).toArray) os := AnyM.slices_Sort_string Tryz.laysSlM6_f279 blk off cap ss w hH hblk hsz
open Go.RowKit Go.Sort in
/-- .. and plain. (LAID AT THE INSTANCE 'slices.Sort[[]string,string]': no walk: one application.) -/
theorem Tryz.slices_Sort_string_none (p : Option Addr) (cap : Nat) (w : World) :
    Calls Tryz.prog 279 #[.slice p 0 cap] w fun e w' => e = .returned (.tuple #[]) ∧ w' = w := AnyM.slices_Sort_string_none Tryz.laysSlM6_f279 p cap w
def Tryz.keys239_ren : Go.Shelf.Ren := ⟨fun | 7 => 239 | 10 => 323 | n => n, fun | 23 => 194 | 26 => 9 | 3 => 44 | 28 => 337 | 0 => 0 | 27 => 336 | 33 => 108 | 4 => 4 | n => n, fun | n => n⟩
theorem Tryz.keys239 : Go.Proofs.SlLaysZ.n7 Tryz.prog Tryz.keys239_ren := {
  mixed := by kernel_rfl
  f7 := ⟨Tryz.f239.name, by decide, Tryz.func239.trans (congrArg some (by kernel_rfl))⟩
  f10 := ⟨Tryz.f323.name, by decide, Tryz.func323.trans (congrArg some (by kernel_rfl))⟩
  t0 := Tryz.underlying0
  a0 := Tryz.isAgg0
  z0 := Tryz.sizeOf0
  v0 := Tryz.zeroValue0
  t4 := Tryz.underlying4
  a4 := Tryz.isAgg4
  z4 := Tryz.sizeOf4
  v4 := Tryz.zeroValue4
  t23 := Tryz.underlying194
  a23 := Tryz.isAgg194
  z23 := Tryz.sizeOf194
  v23 := Tryz.zeroValue194
  t26 := Tryz.underlying9
  a26 := Tryz.isAgg9
  z26 := Tryz.sizeOf9
  v26 := Tryz.zeroValue9
  t27 := Tryz.underlying336
  a27 := Tryz.isAgg336
  z27 := Tryz.sizeOf336
  v27 := Tryz.zeroValue336
  t28 := Tryz.underlying337
  a28 := Tryz.isAgg337
  z28 := Tryz.sizeOf337
  v28 := Tryz.zeroValue337
  t33 := Tryz.underlying108
  a33 := Tryz.isAgg108
  z33 := Tryz.sizeOf108
  v33 := Tryz.zeroValue108 }
def Tryz.keys454_ren : Go.Shelf.Ren := ⟨fun | 7 => 454 | 10 => 503 | n => n, fun | 23 => 123 | 26 => 9 | 3 => 393 | 28 => 337 | 0 => 0 | 27 => 336 | 33 => 108 | 4 => 4 | n => n, fun | n => n⟩
theorem Tryz.keys454 : Go.Proofs.SlLaysZ.n7 Tryz.prog Tryz.keys454_ren := {
  mixed := by kernel_rfl
  f7 := ⟨Tryz.f454.name, by decide, Tryz.func454.trans (congrArg some (by kernel_rfl))⟩
  f10 := ⟨Tryz.f503.name, by decide, Tryz.func503.trans (congrArg some (by kernel_rfl))⟩
  t0 := Tryz.underlying0
  a0 := Tryz.isAgg0
  z0 := Tryz.sizeOf0
  v0 := Tryz.zeroValue0
  t4 := Tryz.underlying4
  a4 := Tryz.isAgg4
  z4 := Tryz.sizeOf4
  v4 := Tryz.zeroValue4
  t23 := Tryz.underlying123
  a23 := Tryz.isAgg123
  z23 := Tryz.sizeOf123
  v23 := Tryz.zeroValue123
  t26 := Tryz.underlying9
  a26 := Tryz.isAgg9
  z26 := Tryz.sizeOf9
  v26 := Tryz.zeroValue9
  t27 := Tryz.underlying336
  a27 := Tryz.isAgg336
  z27 := Tryz.sizeOf336
  v27 := Tryz.zeroValue336
  t28 := Tryz.underlying337
  a28 := Tryz.isAgg337
  z28 := Tryz.sizeOf337
  v28 := Tryz.zeroValue337
  t33 := Tryz.underlying108
  a33 := Tryz.isAgg108
  z33 := Tryz.sizeOf108
  v33 := Tryz.zeroValue108 }
def Tryz.keys471_ren : Go.Shelf.Ren := ⟨fun | 7 => 471 | 10 => 512 | n => n, fun | 23 => 348 | 26 => 9 | 3 => 3 | 28 => 337 | 0 => 0 | 27 => 336 | 33 => 108 | 4 => 4 | n => n, fun | n => n⟩
theorem Tryz.keys471 : Go.Proofs.SlLaysZ.n7 Tryz.prog Tryz.keys471_ren := {
  mixed := by kernel_rfl
  f7 := ⟨Tryz.f471.name, by decide, Tryz.func471.trans (congrArg some (by kernel_rfl))⟩
  f10 := ⟨Tryz.f512.name, by decide, Tryz.func512.trans (congrArg some (by kernel_rfl))⟩
  t0 := Tryz.underlying0
  a0 := Tryz.isAgg0
  z0 := Tryz.sizeOf0
  v0 := Tryz.zeroValue0
  t4 := Tryz.underlying4
  a4 := Tryz.isAgg4
  z4 := Tryz.sizeOf4
  v4 := Tryz.zeroValue4
  t23 := Tryz.underlying348
  a23 := Tryz.isAgg348
  z23 := Tryz.sizeOf348
  v23 := Tryz.zeroValue348
  t26 := Tryz.underlying9
  a26 := Tryz.isAgg9
  z26 := Tryz.sizeOf9
  v26 := Tryz.zeroValue9
  t27 := Tryz.underlying336
  a27 := Tryz.isAgg336
  z27 := Tryz.sizeOf336
  v27 := Tryz.zeroValue336
  t28 := Tryz.underlying337
  a28 := Tryz.isAgg337
  z28 := Tryz.sizeOf337
  v28 := Tryz.zeroValue337
  t33 := Tryz.underlying108
  a33 := Tryz.isAgg108
  z33 := Tryz.sizeOf108
  v33 := Tryz.zeroValue108 }
def Tryz.sorted238_ren : Go.Shelf.Ren := ⟨fun | 6 => 238 | 8 => 322 | 9 => 279 | 11 => 392 | 13 => 332 | 12 => 364 | 23 => 408 | 24 => 409 | 14 => 428 | 15 => 429 | 16 => 430 | 17 => 431 | 18 => 432 | 19 => 433 | 20 => 434 | 21 => 435 | 22 => 436 | 25 => 482 | 26 => 461 | 27 => 462 | 28 => 483 | 29 => 484 | 30 => 485 | 31 => 521 | n => n, fun | 26 => 9 | 28 => 337 | 24 => 119 | 0 => 0 | 3 => 3 | 37 => 416 | 48 => 24 | 50 => 234 | 4 => 4 | 40 => 465 | 39 => 464 | 45 => 246 | 5 => 5 | 9 => 9 | 51 => 506 | 55 => 510 | 57 => 539 | 58 => 540 | 33 => 108 | n => n, fun | n => n⟩
theorem Tryz.sorted238 : Go.Proofs.SlLaysZ.n6 Tryz.prog Tryz.sorted238_ren := {
  mixed := by kernel_rfl
  f6 := ⟨Tryz.f238.name, by decide, Tryz.func238.trans (congrArg some (by kernel_rfl))⟩
  f8 := ⟨Tryz.f322.name, by decide, Tryz.func322.trans (congrArg some (by kernel_rfl))⟩
  f11 := ⟨Tryz.f392.name, by decide, Tryz.func392.trans (congrArg some (by kernel_rfl))⟩
  t0 := Tryz.underlying0
  a0 := Tryz.isAgg0
  z0 := Tryz.sizeOf0
  v0 := Tryz.zeroValue0
  t24 := Tryz.underlying119
  a24 := Tryz.isAgg119
  z24 := Tryz.sizeOf119
  v24 := Tryz.zeroValue119
  t26 := Tryz.underlying9
  a26 := Tryz.isAgg9
  z26 := Tryz.sizeOf9
  v26 := Tryz.zeroValue9
  t28 := Tryz.underlying337
  a28 := Tryz.isAgg337
  z28 := Tryz.sizeOf337
  v28 := Tryz.zeroValue337
  i26 := by kernel_rfl }
end Go.Proofs
