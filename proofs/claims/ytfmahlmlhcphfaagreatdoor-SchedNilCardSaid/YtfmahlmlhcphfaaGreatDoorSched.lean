/- The walk of SchedNil: run by G over a general event. -/
import Derived.Test.YtfmahlmlhcphfaaGreatDoorAw31
import Derived.Test.YtfmahlmlhcphfaaGreatDoorOurs
namespace Go.Proofs.YtfmahlmlhcphfaaGreatDoor
open Go.G Go.RowKit

def pOurs : Prim := fun args h =>
  match args with
  | [.agg ⟨[.int .i64 k, .string s1, .string s2, .int .u32 ad, .slice p m c, .int .i64 n, .bool b1, .bool b2, .int .u32 na, .int .i64 nb]⟩] =>
    .ok (.tuple ⟨[opV k (cut70 s1) (cut70 s2) ad p (cut20 m) c n b1 b2 na nb, opV k (cut70 s1) (cut70 s2) ad p (cut20 m) c n b1 b2 na nb]⟩, h)
  | _ => .no "ours"

theorem cut20_le (m : Nat) : cut20 m ≤ m := by
  unfold cut20
  cases h : decide ((m : Int) > 20) with
  | true => have := of_decide_eq_true h; simp only [cond_true]; omega
  | false => exact Nat.le_refl _

theorem slice_shape {ρ : Ren} {p : Option Addr} {m c : Nat} {v : Value} (h : VRel ρ (.slice p m c) v) :
    ∃ p' c', v = .slice p' m c' ∧ ((p' = none ∧ m = 0) ∨ ∃ a, p' = some a) ∧ m ≤ c' ∧ ∀ m', m' ≤ m → VRel ρ (.slice p m' c) (.slice p' m' c') := by
  cases h with
  | sliceNil => exact ⟨none, 0, rfl, .inl ⟨rfl, rfl⟩, Nat.le_refl _, fun m' h => by cases Nat.le_zero.1 h; exact .sliceNil⟩
  | slice h hc hn ha => exact ⟨_, _, rfl, .inr ⟨_, rfl⟩, hn, fun m' h' => .slice h hc (Nat.le_trans h' hn) ha⟩
  | flex h hc hn ha => exact ⟨_, _, rfl, .inr ⟨_, rfl⟩, hn, fun m' h' => .flex h hc (Nat.le_trans h' hn) ha⟩

theorem opV_rel {ρ : Ren} (k : Int) (s1 s2 : ByteArray) (ad : Int) {p p' : Option Addr} {m c c' : Nat} (h : VRel ρ (.slice p m c) (.slice p' m c')) (n : Int) (b1 b2 : Bool) (na nb : Int) :
    VRel ρ (opV k s1 s2 ad p m c n b1 b2 na nb) (opV k s1 s2 ad p' m c' n b1 b2 na nb) := by
  have L : LRel ρ [.int .i64 k, .string s1, .string s2, .int .u32 ad, .slice p m c, .int .i64 n, .bool b1, .bool b2, .int .u32 na, .int .i64 nb] [.int .i64 k, .string s1, .string s2, .int .u32 ad, .slice p' m c', .int .i64 n, .bool b1, .bool b2, .int .u32 na, .int .i64 nb] :=
    .cons (.int _ _) (.cons (.string _) (.cons (.string _) (.cons (.int _ _) (.cons h (.cons (.int _ _) (.cons (.bool _) (.cons (.bool _) (.cons (.int _ _) (.cons (.int _ _) (.nil ρ))))))))))
  exact .agg L.1 L.2

theorem pOurs_ok {ρ : Ren} {args args' : List Value} {h h' : Heap} {v : Value} (hq : pOurs args h = .ok (v, h')) {w : World} (K : Rel ρ h w.heap) (ra : LRel ρ args args') : Contract Tryz.prog 71 args' w ρ h v h' := by
  unfold pOurs at hq
  split at hq
  case h_2 => cases hq
  rename_i k s1 s2 ad p m c n b1 b2 na nb
  cases hq
  obtain ⟨a', l, rfl, rv, rl⟩ := ra.cons_inv
  cases rl.nil_inv
  cases rv with
  | @agg _ xs' hl hx =>
  have r : LRel ρ _ xs' := ⟨hl, hx⟩
  obtain ⟨_, _, rfl, r0, r⟩ := r.cons_inv
  obtain ⟨_, _, rfl, r1, r⟩ := r.cons_inv
  obtain ⟨_, _, rfl, r2, r⟩ := r.cons_inv
  obtain ⟨_, _, rfl, r3, r⟩ := r.cons_inv
  obtain ⟨_, _, rfl, r4, r⟩ := r.cons_inv
  obtain ⟨_, _, rfl, r5, r⟩ := r.cons_inv
  obtain ⟨_, _, rfl, r6, r⟩ := r.cons_inv
  obtain ⟨_, _, rfl, r7, r⟩ := r.cons_inv
  obtain ⟨_, _, rfl, r8, r⟩ := r.cons_inv
  obtain ⟨_, _, rfl, r9, r⟩ := r.cons_inv
  cases r.nil_inv
  cases r0; cases r1; cases r2; cases r3; cases r5; cases r6; cases r7; cases r8; cases r9
  obtain ⟨p', c', rfl, hp, hmc, hre⟩ := slice_shape r4
  refine Calls.mono (ours30 k s1 s2 ad p' m c' hp hmc n b1 b2 na nb w) fun e w' ⟨he, hB⟩ => ?_
  obtain ⟨k1, k2⟩ := K.below hB
  refine ⟨ρ, _, he, k1, k2, ?_⟩
  have hs := opV_rel k (cut70 s1) (cut70 s2) ad (hre _ (cut20_le m)) n b1 b2 na nb
  exact .tuple_of (.cons hs (.cons hs (.nil ρ)))

def primsS : Nat → Option Prim
  | 39 => some (pTrue [])
  | 71 => some pOurs
  | _ => none

noncomputable def envS : Env := envOf Tryz.prog primsS

theorem primsS_ok : PrimOk Tryz.prog envS := by
  intro f p hp
  change primsS f = some p at hp
  unfold primsS at hp
  split at hp
  · cases hp
    exact ⟨⟨Tryz.f39, Tryz.func39, by kernel_rfl, by kernel_rfl⟩, fun args h v h' hq ρ w args' K ra => pTrue_ok trueAw31 hq K ra⟩
  · cases hp
    exact ⟨⟨Tryz.f71, Tryz.func71, by kernel_rfl, by kernel_rfl⟩, fun args h v h' hq ρ w args' K ra => pOurs_ok hq K ra⟩
  · cases hp

/-- An event, in cells. -/
def evV (kd cl k : Int) (s1 s2 : ByteArray) (ad : Int) (p : Option Addr) (m c : Nat) (n : Int) (b1 b2 : Bool) (na nb : Int) (N : Int) (kp : Option Addr) (km kc : Nat) : Value :=
  .agg ⟨[.int .i64 kd, .int .i64 cl, .int .i64 k, .string s1, .string s2, .int .u32 ad, .slice p m c, .int .i64 n, .bool b1, .bool b2, .int .u32 na, .int .i64 nb, .int .i64 N, .slice kp km kc]⟩

def twoHeap : Heap := { t := .leaf, next := 2 }

theorem run7 (kd cl k : Int) (s1 s2 : ByteArray) (ad : Int) (p : Option Addr) (m c : Nat) (n : Int) (b1 b2 : Bool) (na nb : Int) (N : Int) (kp : Option Addr) (km kc : Nat) :
    isTrue (callFn envS (run envS 100) 7 [evV kd cl k s1 s2 ad p m c n b1 b2 na nb N kp km kc] twoHeap) = true := by kernel_rfl

/-- A slice that lies in memory. -/
def SliceIn (w : World) (p : Option Addr) (m c : Nat) : Prop :=
  (p = none ∧ m = 0 ∧ c = 0) ∨ ∃ b off, p = some ⟨b, off, none⟩ ∧ b < w.heap.size ∧ m ≤ c ∧ c < flexCap

def locOf (p : Option Addr) : Option Go.G.Loc := p.map fun a => (⟨a.block, a.off, 0, 0⟩ : Go.G.Loc)

def twoRen (p q : Option Addr) : Ren := fun i => match i with | 0 => locOf p | 1 => locOf q | _ => none

def idOf (i : Nat) (p : Option Addr) : Option Addr := p.map fun _ => ⟨i, 0, none⟩

theorem slice_in {w : World} {p : Option Addr} {m c : Nat} (h : SliceIn w p m c) {ρ : Ren} {i : Nat} (hi : ρ i = locOf p) : VRel ρ (.slice (idOf i p) m c) (.slice p m c) := by
  rcases h with ⟨rfl, rfl, rfl⟩ | ⟨b, off, rfl, _, h2, h3⟩
  · exact .sliceNil
  · exact .slice (L := ⟨b, off, 0, 0⟩) (off := 0) hi h3 h2 (.inl rfl)

theorem slice_low {w : World} {p : Option Addr} {m c : Nat} (h : SliceIn w p m c) {L : Go.G.Loc} (hL : locOf p = some L) : L.b < w.heap.size := by
  rcases h with ⟨rfl, rfl, rfl⟩ | ⟨b, off, rfl, h1, _⟩
  · cases hL
  · cases hL; exact h1

theorem schedNil_walk (kd cl k : Int) (s1 s2 : ByteArray) (ad : Int) (p : Option Addr) (m c : Nat) (n : Int) (b1 b2 : Bool) (na nb : Int) (N : Int) (kp : Option Addr) (km kc : Nat) (w : World) (h1 : SliceIn w p m c) (h2 : SliceIn w kp km kc) :
    Calls Tryz.prog 7 #[evV kd cl k s1 s2 ad p m c n b1 b2 na nb N kp km kc] w fun e w' => e = .returned (.bool true) ∧ Below w.heap.size w w' := by
  obtain ⟨h', e⟩ := isTrue_ok (run7 kd cl k s1 s2 ad (idOf 0 p) m c n b1 b2 na nb N (idOf 1 kp) km kc)
  have hg : ∀ i, twoHeap.get i = none := fun _ => rfl
  have K : Rel (twoRen p kp) twoHeap w.heap :=
    ⟨fun i b hi => (by rw [hg] at hi; cases hi), fun i j b c L M hi => (by rw [hg] at hi; cases hi), fun i L hL => (by
      match i, hL with
      | 0, _ => exact (by decide : 0 < 2)
      | 1, _ => exact (by decide : 1 < 2)
      | i + 2, hL => cases hL), fun i L hL => (by
      match i, hL with
      | 0, hL => exact slice_low h1 hL
      | 1, hL => exact slice_low h2 hL
      | i + 2, hL => cases hL), fun k hk => (by cases hk)⟩
  have hr : VRel (twoRen p kp) (evV kd cl k s1 s2 ad (idOf 0 p) m c n b1 b2 na nb N (idOf 1 kp) km kc) (evV kd cl k s1 s2 ad p m c n b1 b2 na nb N kp km kc) := by
    have v1 := slice_in h1 (ρ := twoRen p kp) (i := 0) rfl
    have v2 := slice_in h2 (ρ := twoRen p kp) (i := 1) rfl
    have L : LRel (twoRen p kp) [.int .i64 kd, .int .i64 cl, .int .i64 k, .string s1, .string s2, .int .u32 ad, .slice (idOf 0 p) m c, .int .i64 n, .bool b1, .bool b2, .int .u32 na, .int .i64 nb, .int .i64 N, .slice (idOf 1 kp) km kc]
        [.int .i64 kd, .int .i64 cl, .int .i64 k, .string s1, .string s2, .int .u32 ad, .slice p m c, .int .i64 n, .bool b1, .bool b2, .int .u32 na, .int .i64 nb, .int .i64 N, .slice kp km kc] :=
      .cons (.int _ _) (.cons (.int _ _) (.cons (.int _ _) (.cons (.string _) (.cons (.string _) (.cons (.int _ _) (.cons v1 (.cons (.int _ _) (.cons (.bool _) (.cons (.bool _) (.cons (.int _ _) (.cons (.int _ _) (.cons (.int _ _) (.cons v2 (.nil _))))))))))))))
    exact .agg L.1 L.2
  refine Calls.mono (call_sound primsS_ok (envOk _ _) mixed e K (.cons hr (.nil _))) fun e w' ⟨ρ', v', he, _, X, hv⟩ => ?_
  cases hv
  exact ⟨he, X.below hg⟩
#print axioms schedNil_walk
end Go.Proofs.YtfmahlmlhcphfaaGreatDoor
