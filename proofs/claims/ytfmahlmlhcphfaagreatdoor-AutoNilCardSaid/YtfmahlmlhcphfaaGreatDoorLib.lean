/- The library's functions as steps of G, at this dump. -/
import Derived.Test.YtfmahlmlhcphfaaGreatDoorShelf
import Derived.Test.YtfmahlmlhcphfaaGreatDoorG3
namespace Go.Proofs
open Go.RowKit Go.Maps Go.Sort Go.Shelf

theorem Tryz.sorts238 (m : Nat) : AnyZ.SortsIn Tryz.prog Tryz.sorted238_ren Fence.wide m :=
  ⟨fun blk off cap ss W hH hblk hsz => callsIn_wide.2 (AnyM.slices_Sort_string Tryz.laysSlM6_f279 blk off cap ss W hH hblk hsz),
   fun p cap W => callsIn_wide.2 (AnyM.slices_Sort_string_none Tryz.laysSlM6_f279 p cap W)⟩

set_option maxHeartbeats 1000000 in
theorem Tryz.sortedSome323 (Bm b nn : Nat) (D0 : DataW Unit) (R : Value → Option (DataW Unit × List MemPlace)) (w : World) (hBm : Bm < w.heap.size) (hc : w.cell? ⟨Bm, 0, none⟩ = some (.map (some b))) (hown : w.ownsMap Tryz.prog 9 R b nn D0) (hmax : Maps.size D0 ≤ maxLen) (hbytes : Maps.size D0 * 16 ≤ 140737488355328) :
    CallsIn Fence.wide 5 Tryz.prog 238 #[.func (.func 323) #[] #[.pointer (some ⟨Bm, 0, none⟩)]] w fun e w' => ∃ (v : Value) (ss : List (List UInt8)), e = .returned v ∧ ss.Perm (strKeys D0) ∧
      w'.ownsRow w.heap.size 9 1 v ss.length ((ss.mergeSort (fun x y => decide (x ≤ y))).map encStr) ∧ (v = .slice none 0 0 ↔ ss = []) ∧ Below w.heap.size w w' := by
  have hseq : SeqGives Fence.wide 2 Tryz.prog 323 #[.pointer (some ⟨Bm, 0, none⟩)] encStr (fun ss => ss.Perm (strKeys D0)) (Maps.size D0) w :=
    AnyZ.keys_gives (ρ := Tryz.keys239_ren) { Tryz.keys239 with } Fence.wide _ trivial rfl (by omega) Bm b nn D0 w hBm hc hown
  exact AnyZ.sorted_in Tryz.sorted238 Fence.wide 5 trivial trivial trivial trivial rfl (by omega) (Tryz.sorts238 _) (enters_of Tryz.func279 (by kernel_rfl) rfl) 323 #[.pointer (some ⟨Bm, 0, none⟩)] trivial (enters_of Tryz.func323 (by kernel_rfl) rfl) _ _ hmax hbytes _ hseq

set_option maxHeartbeats 1000000 in
theorem Tryz.sortedNone323 (Bm : Nat) (w : World) (hBm : Bm < w.heap.size) (hc : w.cell? ⟨Bm, 0, none⟩ = some (.map none)) :
    CallsIn Fence.wide 5 Tryz.prog 238 #[.func (.func 323) #[] #[.pointer (some ⟨Bm, 0, none⟩)]] w fun e w' => ∃ (v : Value) (ss : List (List UInt8)), e = .returned v ∧ ss = [] ∧
      w'.ownsRow w.heap.size 9 1 v ss.length ((ss.mergeSort (fun x y => decide (x ≤ y))).map encStr) ∧ (v = .slice none 0 0 ↔ ss = []) ∧ Below w.heap.size w w' := by
  have hseq : SeqGives Fence.wide 2 Tryz.prog 323 #[.pointer (some ⟨Bm, 0, none⟩)] encStr (fun ss : List (List UInt8) => ss = []) 0 w :=
    AnyZ.keys_gives_nil (ρ := Tryz.keys239_ren) { Tryz.keys239 with } Fence.wide _ trivial rfl Bm w hBm hc
  exact AnyZ.sorted_in Tryz.sorted238 Fence.wide 5 trivial trivial trivial trivial rfl (by omega) (Tryz.sorts238 _) (enters_of Tryz.func279 (by kernel_rfl) rfl) 323 #[.pointer (some ⟨Bm, 0, none⟩)] trivial (enters_of Tryz.func323 (by kernel_rfl) rfl) _ 0 (Nat.zero_le _) (by omega) _ hseq

theorem Tryz.sortedAt323 : Go.G.SortedAt Tryz.prog 238 323 where
  some_ := fun Bm b nn D0 R w hBm hc hown hmax hbytes => callsIn_wide.1 (Tryz.sortedSome323 Bm b nn D0 R w hBm hc hown hmax hbytes)
  none_ := fun Bm w hBm hc => (callsIn_wide.1 (Tryz.sortedNone323 Bm w hBm hc)).mono fun e w' ⟨v, ss, he, hs, _, hn, hB⟩ => ⟨by rw [he, hn.2 hs], hB⟩

set_option maxHeartbeats 1000000 in
theorem Tryz.sortedSome503 (Bm b nn : Nat) (D0 : DataW Unit) (R : Value → Option (DataW Unit × List MemPlace)) (w : World) (hBm : Bm < w.heap.size) (hc : w.cell? ⟨Bm, 0, none⟩ = some (.map (some b))) (hown : w.ownsMap Tryz.prog 9 R b nn D0) (hmax : Maps.size D0 ≤ maxLen) (hbytes : Maps.size D0 * 16 ≤ 140737488355328) :
    CallsIn Fence.wide 5 Tryz.prog 238 #[.func (.func 503) #[] #[.pointer (some ⟨Bm, 0, none⟩)]] w fun e w' => ∃ (v : Value) (ss : List (List UInt8)), e = .returned v ∧ ss.Perm (strKeys D0) ∧
      w'.ownsRow w.heap.size 9 1 v ss.length ((ss.mergeSort (fun x y => decide (x ≤ y))).map encStr) ∧ (v = .slice none 0 0 ↔ ss = []) ∧ Below w.heap.size w w' := by
  have hseq : SeqGives Fence.wide 2 Tryz.prog 503 #[.pointer (some ⟨Bm, 0, none⟩)] encStr (fun ss => ss.Perm (strKeys D0)) (Maps.size D0) w :=
    AnyZ.keys_gives (ρ := Tryz.keys454_ren) { Tryz.keys454 with } Fence.wide _ trivial rfl (by omega) Bm b nn D0 w hBm hc hown
  exact AnyZ.sorted_in Tryz.sorted238 Fence.wide 5 trivial trivial trivial trivial rfl (by omega) (Tryz.sorts238 _) (enters_of Tryz.func279 (by kernel_rfl) rfl) 503 #[.pointer (some ⟨Bm, 0, none⟩)] trivial (enters_of Tryz.func503 (by kernel_rfl) rfl) _ _ hmax hbytes _ hseq

set_option maxHeartbeats 1000000 in
theorem Tryz.sortedNone503 (Bm : Nat) (w : World) (hBm : Bm < w.heap.size) (hc : w.cell? ⟨Bm, 0, none⟩ = some (.map none)) :
    CallsIn Fence.wide 5 Tryz.prog 238 #[.func (.func 503) #[] #[.pointer (some ⟨Bm, 0, none⟩)]] w fun e w' => ∃ (v : Value) (ss : List (List UInt8)), e = .returned v ∧ ss = [] ∧
      w'.ownsRow w.heap.size 9 1 v ss.length ((ss.mergeSort (fun x y => decide (x ≤ y))).map encStr) ∧ (v = .slice none 0 0 ↔ ss = []) ∧ Below w.heap.size w w' := by
  have hseq : SeqGives Fence.wide 2 Tryz.prog 503 #[.pointer (some ⟨Bm, 0, none⟩)] encStr (fun ss : List (List UInt8) => ss = []) 0 w :=
    AnyZ.keys_gives_nil (ρ := Tryz.keys454_ren) { Tryz.keys454 with } Fence.wide _ trivial rfl Bm w hBm hc
  exact AnyZ.sorted_in Tryz.sorted238 Fence.wide 5 trivial trivial trivial trivial rfl (by omega) (Tryz.sorts238 _) (enters_of Tryz.func279 (by kernel_rfl) rfl) 503 #[.pointer (some ⟨Bm, 0, none⟩)] trivial (enters_of Tryz.func503 (by kernel_rfl) rfl) _ 0 (Nat.zero_le _) (by omega) _ hseq

theorem Tryz.sortedAt503 : Go.G.SortedAt Tryz.prog 238 503 where
  some_ := fun Bm b nn D0 R w hBm hc hown hmax hbytes => callsIn_wide.1 (Tryz.sortedSome503 Bm b nn D0 R w hBm hc hown hmax hbytes)
  none_ := fun Bm w hBm hc => (callsIn_wide.1 (Tryz.sortedNone503 Bm w hBm hc)).mono fun e w' ⟨v, ss, he, hs, _, hn, hB⟩ => ⟨by rw [he, hn.2 hs], hB⟩

set_option maxHeartbeats 1000000 in
theorem Tryz.sortedSome512 (Bm b nn : Nat) (D0 : DataW Unit) (R : Value → Option (DataW Unit × List MemPlace)) (w : World) (hBm : Bm < w.heap.size) (hc : w.cell? ⟨Bm, 0, none⟩ = some (.map (some b))) (hown : w.ownsMap Tryz.prog 9 R b nn D0) (hmax : Maps.size D0 ≤ maxLen) (hbytes : Maps.size D0 * 16 ≤ 140737488355328) :
    CallsIn Fence.wide 5 Tryz.prog 238 #[.func (.func 512) #[] #[.pointer (some ⟨Bm, 0, none⟩)]] w fun e w' => ∃ (v : Value) (ss : List (List UInt8)), e = .returned v ∧ ss.Perm (strKeys D0) ∧
      w'.ownsRow w.heap.size 9 1 v ss.length ((ss.mergeSort (fun x y => decide (x ≤ y))).map encStr) ∧ (v = .slice none 0 0 ↔ ss = []) ∧ Below w.heap.size w w' := by
  have hseq : SeqGives Fence.wide 2 Tryz.prog 512 #[.pointer (some ⟨Bm, 0, none⟩)] encStr (fun ss => ss.Perm (strKeys D0)) (Maps.size D0) w :=
    AnyZ.keys_gives (ρ := Tryz.keys471_ren) { Tryz.keys471 with } Fence.wide _ trivial rfl (by omega) Bm b nn D0 w hBm hc hown
  exact AnyZ.sorted_in Tryz.sorted238 Fence.wide 5 trivial trivial trivial trivial rfl (by omega) (Tryz.sorts238 _) (enters_of Tryz.func279 (by kernel_rfl) rfl) 512 #[.pointer (some ⟨Bm, 0, none⟩)] trivial (enters_of Tryz.func512 (by kernel_rfl) rfl) _ _ hmax hbytes _ hseq

set_option maxHeartbeats 1000000 in
theorem Tryz.sortedNone512 (Bm : Nat) (w : World) (hBm : Bm < w.heap.size) (hc : w.cell? ⟨Bm, 0, none⟩ = some (.map none)) :
    CallsIn Fence.wide 5 Tryz.prog 238 #[.func (.func 512) #[] #[.pointer (some ⟨Bm, 0, none⟩)]] w fun e w' => ∃ (v : Value) (ss : List (List UInt8)), e = .returned v ∧ ss = [] ∧
      w'.ownsRow w.heap.size 9 1 v ss.length ((ss.mergeSort (fun x y => decide (x ≤ y))).map encStr) ∧ (v = .slice none 0 0 ↔ ss = []) ∧ Below w.heap.size w w' := by
  have hseq : SeqGives Fence.wide 2 Tryz.prog 512 #[.pointer (some ⟨Bm, 0, none⟩)] encStr (fun ss : List (List UInt8) => ss = []) 0 w :=
    AnyZ.keys_gives_nil (ρ := Tryz.keys471_ren) { Tryz.keys471 with } Fence.wide _ trivial rfl Bm w hBm hc
  exact AnyZ.sorted_in Tryz.sorted238 Fence.wide 5 trivial trivial trivial trivial rfl (by omega) (Tryz.sorts238 _) (enters_of Tryz.func279 (by kernel_rfl) rfl) 512 #[.pointer (some ⟨Bm, 0, none⟩)] trivial (enters_of Tryz.func512 (by kernel_rfl) rfl) _ 0 (Nat.zero_le _) (by omega) _ hseq

theorem Tryz.sortedAt512 : Go.G.SortedAt Tryz.prog 238 512 where
  some_ := fun Bm b nn D0 R w hBm hc hown hmax hbytes => callsIn_wide.1 (Tryz.sortedSome512 Bm b nn D0 R w hBm hc hown hmax hbytes)
  none_ := fun Bm w hBm hc => (callsIn_wide.1 (Tryz.sortedNone512 Bm w hBm hc)).mono fun e w' ⟨v, ss, he, hs, _, hn, hB⟩ => ⟨by rw [he, hn.2 hs], hB⟩

theorem Tryz.joinAt : Go.G.JoinAt Tryz.prog 379 where
  none_ := fun a c sep w => Tryz.strings_Join_none a c sep w
  some_ := fun bk o c xs sep w h1 h2 h3 h4 h5 => Tryz.strings_Join bk o c xs sep w h1 h2 h3 h4 h5

theorem Tryz.replaceAt : Go.G.ReplaceAt Tryz.prog 209 0 := fun s old new n m w hs hm h1 h2 => Tryz.strings_Replace s old new n m w hs hm h1 h2
theorem Tryz.count1At : Go.G.Count1At Tryz.prog 286 := fun s c w => Tryz.strings_Count_one s c w
theorem Tryz.index1At : Go.G.Index1At Tryz.prog 288 := fun s c w => Tryz.strings_Index_one s c w
theorem Tryz.index1At' : Go.G.Index1At Tryz.prog 375 := fun s c w => Tryz.stringslite_Index_one s c w
end Go.Proofs
namespace Go.Proofs.YtfmahlmlhcphfaaGreatDoor
open Go.G

theorem mixed : Tryz.prog.follows .mixedOrders = true := by kernel_rfl

def primsLib : Nat → Option Prim
  | 238 => some (pSortedL [323, 503, 512])
  | 379 => some pJoin
  | 209 => some (pReplace 0)
  | 286 => some pCount1
  | 288 => some pIndex1
  | 375 => some pIndex1
  | _ => none

noncomputable def envLib : Env := envOf Tryz.prog primsLib

theorem primsLib_ok : PrimOk Tryz.prog envLib := by
  intro f p hp
  change primsLib f = some p at hp
  unfold primsLib at hp
  split at hp
  · cases hp
    exact ⟨⟨Tryz.f238, Tryz.func238, by kernel_rfl, by kernel_rfl⟩, fun args h v h' hq ρ w args' K ra => sortedL_ok (fs := [323, 503, 512]) (by
      intro f hf
      simp only [List.mem_cons, List.not_mem_nil, or_false] at hf
      rcases hf with rfl | rfl | rfl
      · exact Tryz.sortedAt323
      · exact Tryz.sortedAt503
      · exact Tryz.sortedAt512) Tryz.underlying9 hq K ra⟩
  · cases hp
    exact ⟨⟨Tryz.f379, Tryz.func379, by kernel_rfl, by kernel_rfl⟩, fun args h v h' hq ρ w args' K ra => join_ok Tryz.joinAt hq K ra⟩
  · cases hp
    exact ⟨⟨Tryz.f209, Tryz.func209, by kernel_rfl, by kernel_rfl⟩, fun args h v h' hq ρ w args' K ra => replace_ok Tryz.replaceAt hq K ra⟩
  · cases hp
    exact ⟨⟨Tryz.f286, Tryz.func286, by kernel_rfl, by kernel_rfl⟩, fun args h v h' hq ρ w args' K ra => count1_ok Tryz.count1At hq K ra⟩
  · cases hp
    exact ⟨⟨Tryz.f288, Tryz.func288, by kernel_rfl, by kernel_rfl⟩, fun args h v h' hq ρ w args' K ra => index1_ok Tryz.index1At hq K ra⟩
  · cases hp
    exact ⟨⟨Tryz.f375, Tryz.func375, by kernel_rfl, by kernel_rfl⟩, fun args h v h' hq ρ w args' K ra => index1_ok Tryz.index1At' hq K ra⟩
  · cases hp
end Go.Proofs.YtfmahlmlhcphfaaGreatDoor
