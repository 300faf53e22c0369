/- G, an evaluator of loaded code, and its soundness against the model, part 3. -/
import Derived.Test.YtfmahlmlhcphfaaGreatDoorG2
import Derived.Sort.KeysCollected
import Derived.ProofKit
import Derived.Lib.Replace
import Derived.Lib.Join
import Derived.Lib.Bytealg
/- G against the model: a region that draws its order. The state between two operations. -/
namespace Go.G

structure Cx where
  P : Program
  env : Env
  rc : Rec
  ops : Array Oper
  ms : List Nat
  base : Nat
  s0 : Tmps
  it : List Item
  hs : List Heap
  ρ0 : Ren
  h0 : Heap
  w0 : World
  sz : Nat
  df : List Deferred

structure Cx.Ok (c : Cx) : Prop where
  E : EnvOk c.P c.env
  hP : PrimOk c.P c.env
  hR : RecOk c.P c.rc
  plan : Plan c.env c.ops.toList c.ms
  mask : Masks c.ops.toList c.ms
  len : c.it.length = c.ops.size
  hlen : c.hs.length = c.it.countP Item.loud + 1
  fact : ∀ i x, c.it[i]? = some x → Fact c.env c.rc c.ops.toList c.ms c.base c.s0 c.it c.hs i x
  check : ∀ i x, c.it[i]? = some x → again c.env c.ops.toList c.ms x.o i = false ∨ itemOk c.env c.base c.it c.ms c.hs x i = true
  dst : ∀ o ∈ c.ops.toList, dstIn c.sz o.dst = true
  g0 : ∀ k : Nat, k ∈ c.h0.glob → k < c.w0.heap.size

structure Cx.Inv (c : Cx) (L : Nat → Bool) (ρ : Ren) (a : Act) (w : World) (k : Nat) (H : Heap) : Prop where
  closed : ∀ i, L i = true → ∀ p, (c.ms.getD i 0).testBit p = true → L p = true
  loud : ∀ i x, c.it[i]? = some x → x.loud = true → (L i = true ↔ x.q < k)
  tmpsL : ∀ i x d, c.it[i]? = some x → L i = true → x.o.dst = some d → ∃ v', a.tmps[d]? = some v' ∧ VRel ρ x.v v'
  tmps0 : ∀ t, (∀ i x, c.it[i]? = some x → L i = true → x.o.dst ≠ some t) → ∀ v, c.s0.get t = some v → ∃ v', a.tmps[t]? = some v' ∧ VRel ρ v v'
  hk : c.hs[k]? = some H
  rel : Rel ρ H w.heap
  next : c.base + c.ops.size ≤ H.next
  flt : ∀ p x b, c.it[p]? = some x → L p = true → x.b = some b → Pend c.ms c.it p k →
    ∃ M ob, ρ (c.base + p) = some M ∧ w.heap[M.b]? = some ob ∧ BlkRel ρ M b ob ∧ ¬LiveB ρ H M.b ∧ c.w0.heap.size ≤ M.b
  apart : ∀ p q x y b d M N, c.it[p]? = some x → c.it[q]? = some y → L p = true → L q = true → x.b = some b → y.b = some d → ρ (c.base + p) = some M → ρ (c.base + q) = some N → M.b = N.b → p = q
  fresh : ∀ p, p < c.ops.size → L p = false → ρ (c.base + p) = none
  sub : c.ρ0.sub ρ
  size : c.w0.heap.size ≤ w.heap.size
  keep : ∀ b, b < c.w0.heap.size → ¬LiveB c.ρ0 c.h0 b → w.heap[b]? = c.w0.heap[b]? ∧ ¬LiveB ρ H b
  os : w.os = c.w0.os
  tape : w.tape = c.w0.tape
  output : w.output = c.w0.output
  old : ∀ i, i < c.base → ρ i = c.ρ0 i
  gl : H.glob = c.h0.glob
  sz : a.tmps.size = c.sz
  df : a.defers = c.df

theorem after_get : ∀ (l : List Item) (s : Tmps) (t : Nat) (v : Value), (after s l).get t = some v →
    (∃ (i : Nat) (x : Item), l[i]? = some x ∧ x.o.dst = some t ∧ x.v = v) ∨ ((∀ (i : Nat) (x : Item), l[i]? = some x → x.o.dst ≠ some t) ∧ s.get t = some v)
  | [], s, t, v, h => .inr ⟨fun i x hi => by simp at hi, h⟩
  | y :: l, s, t, v, h => by
    rcases after_get l (putDst s y.o.dst y.v) t v h with ⟨i, x, h1, h2⟩ | ⟨h1, h2⟩
    · exact .inl ⟨i + 1, x, h1, h2⟩
    · by_cases hd : y.o.dst = some t
      · left
        rw [hd] at h2
        simp only [putDst, Tree.get_put, if_pos] at h2
        cases h2
        exact ⟨0, y, rfl, hd, rfl⟩
      · right
        refine ⟨fun i x hi => ?_, ?_⟩
        · cases i with
          | zero => cases hi; exact hd
          | succ i => exact h1 i x hi
        · cases hy : y.o.dst with
          | none => rw [hy] at h2; exact h2
          | some d =>
            rw [hy] at h2 hd
            simp only [putDst, Tree.get_put] at h2
            rw [if_neg (fun e => hd (by rw [e]))] at h2
            exact h2

theorem take_get {l : List Item} {j i : Nat} {x : Item} (h : (l.take j)[i]? = some x) : i < j ∧ l[i]? = some x := by
  rw [List.getElem?_take] at h
  split at h
  · exact ⟨by assumption, h⟩
  · cases h

theorem count_mono {l : List Item} {i j : Nat} (h : i ≤ j) : (l.take i).countP Item.loud ≤ (l.take j).countP Item.loud :=
  (List.take_sublist_take_left h).countP_le

theorem count_succ {l : List Item} {i : Nat} {x : Item} (h : l[i]? = some x) (hx : x.loud = true) : (l.take (i + 1)).countP Item.loud = (l.take i).countP Item.loud + 1 := by
  rw [List.take_add_one, h, List.countP_append]
  simp [hx]

theorem count_hit {l : List Item} : ∀ (j k : Nat), k < (l.take j).countP Item.loud → ∃ p x, p < j ∧ l[p]? = some x ∧ x.loud = true ∧ (l.take p).countP Item.loud = k
  | 0, k, h => by simp at h
  | j + 1, k, h => by
    rw [List.take_add_one, List.countP_append] at h
    rcases Nat.lt_or_ge k ((l.take j).countP Item.loud) with h1 | h1
    · obtain ⟨p, x, h2, h3⟩ := count_hit j k h1
      exact ⟨p, x, by omega, h3⟩
    · cases hj : l[j]? with
      | none => rw [hj] at h; simp at h; omega
      | some x =>
        rw [hj] at h
        simp only [Option.toList_some, List.countP_singleton] at h
        split at h
        · rename_i hx
          exact ⟨j, x, Nat.lt_succ_self _, hj, hx, by omega⟩
        · omega

theorem adopt_next (base : Nat) : ∀ (l : List (Nat × Blk)) (h : Heap), (adopt base l h).next = h.next
  | [], h => rfl
  | (i, b) :: l, h => by simp only [adopt]; rw [adopt_next base l]; rfl

theorem adopt_glob (base : Nat) : ∀ (l : List (Nat × Blk)) (h : Heap), (adopt base l h).glob = h.glob
  | [], h => rfl
  | (i, b) :: l, h => by simp only [adopt]; rw [adopt_glob base l]; rfl

theorem adopt_get (base : Nat) {i : Nat} {c : Blk} : ∀ {l : List (Nat × Blk)} {h : Heap}, (adopt base l h).get i = some c → (∃ p, (p, c) ∈ l ∧ base + p = i) ∨ h.get i = some c
  | [], h, e => .inr e
  | (j, b) :: l, h, e => by
    simp only [adopt] at e
    rcases adopt_get base e with ⟨p, h1, h2⟩ | h1
    · exact .inl ⟨p, List.mem_cons_of_mem _ h1, h2⟩
    · rw [Heap.get_put] at h1
      split at h1
      · rename_i e'
        cases h1
        exact .inl ⟨j, List.mem_cons_self .., e'.symm⟩
      · exact .inr h1

section
variable {c : Cx} {L : Nat → Bool} {ρ : Ren} {a : Act} {w : World} {k : Nat} {H : Heap}

theorem Cx.Inv.adopted (C : c.Ok) (I : c.Inv L ρ a w k H) {back : List (Nat × Blk)} (hb : ∀ p b, (p, b) ∈ back → L p = true ∧ (∃ y, c.it[p]? = some y ∧ y.b = some b) ∧ Pend c.ms c.it p k) :
    Rel ρ (adopt c.base back H) w.heap ∧ ∀ b, LiveB ρ (adopt c.base back H) b → LiveB ρ H b ∨ ∃ p d M, (p, d) ∈ back ∧ ρ (c.base + p) = some M ∧ M.b = b := by
  have live' : ∀ b, LiveB ρ (adopt c.base back H) b → LiveB ρ H b ∨ ∃ p d M, (p, d) ∈ back ∧ ρ (c.base + p) = some M ∧ M.b = b := by
    rintro b ⟨i, d, M, hi, hM, e⟩
    rcases adopt_get c.base hi with ⟨p, h1, rfl⟩ | h1
    · exact .inr ⟨p, d, M, h1, hM, e⟩
    · exact .inl ⟨i, d, M, h1, hM, e⟩
  refine ⟨⟨fun i b hi => ?_, fun i j b d M N hi hj hM hN e => ?_, fun i M hM => ?_, I.rel.low, fun g hg => ?_⟩, live'⟩
  · rcases adopt_get c.base hi with ⟨p, h1, rfl⟩ | h1
    · obtain ⟨l1, ⟨y, y1, y2⟩, l3⟩ := hb p b h1
      obtain ⟨M, ob, m1, m2, m3, _⟩ := I.flt p y b y1 l1 y2 l3
      exact ⟨M, ob, m1, m2, m3⟩
    · exact I.rel.live i b h1
  · rcases adopt_get c.base hi with ⟨p, h1, rfl⟩ | h1
    · obtain ⟨l1, ⟨y, y1, y2⟩, l3⟩ := hb p b h1
      rcases adopt_get c.base hj with ⟨q, g1, rfl⟩ | g1
      · obtain ⟨k1, ⟨z, z1, z2⟩, k3⟩ := hb q d g1
        rw [I.apart p q y z b d M N y1 z1 l1 k1 y2 z2 hM hN e]
      · obtain ⟨M', ob, m1, m2, m3, m4, _⟩ := I.flt p y b y1 l1 y2 l3
        rw [hM] at m1; cases m1
        exact absurd ⟨j, d, N, g1, hN, e.symm⟩ m4
    · rcases adopt_get c.base hj with ⟨q, g1, rfl⟩ | g1
      · obtain ⟨k1, ⟨z, z1, z2⟩, k3⟩ := hb q d g1
        obtain ⟨M', ob, m1, m2, m3, m4, _⟩ := I.flt q z d z1 k1 z2 k3
        rw [hN] at m1; cases m1
        exact absurd ⟨i, b, M, h1, hM, e⟩ m4
      · exact I.rel.inj i j b d M N h1 g1 hM hN e
  · rw [adopt_next]; exact I.rel.dom i M hM
  · rw [adopt_glob] at hg
    obtain ⟨g1, g2⟩ := I.rel.glob g hg
    refine ⟨g1, fun hv => ?_⟩
    rcases live' g hv with h1 | ⟨p, d, M, h1, h2, h3⟩
    · exact g2 h1
    · obtain ⟨l1, ⟨y, y1, y2⟩, l3⟩ := hb p d h1
      obtain ⟨N, o', n1, _, _, _, n5⟩ := I.flt p y d y1 l1 y2 l3
      rw [h2] at n1; cases n1
      rw [I.gl] at hg
      have := C.g0 g hg
      omega

theorem Cx.Inv.look (C : c.Ok) (I : c.Inv L ρ a w k H) {j : Nat} {x : Item} (hj : c.it[j]? = some x) (hu : L j = false) (hr : ∀ p, (c.ms.getD j 0).testBit p = true → L p = true) :
    TRel ρ (keepT x.s (x.o.looksAt c.ops)) a := by
  intro t v hv
  rw [keepT_get] at hv
  split at hv
  case isFalse => cases hv
  rename_i ht
  have F := C.fact j x hj
  rw [F.s] at hv
  rcases after_get _ _ _ _ hv with ⟨i, y, h1, h2, rfl⟩ | ⟨h1, h2⟩
  · obtain ⟨hlt, h1⟩ := take_get h1
    have G := C.fact i y h1
    rcases (C.plan.pair j i y.o x.o G.o F.o hlt).2 with h3 | ⟨h3, _⟩
    · exact I.tmpsL i y t h1 (hr i h3) h2
    · exfalso
      simp only [sepOf, h2, Bool.and_eq_true, Bool.not_eq_true'] at h3
      have : (x.o.looksAt c.ops).contains t = true := by simpa using ht
      rw [show (⟨c.ops.toList⟩ : Array Oper) = c.ops from rfl] at h3
      rw [h3.1] at this; cases this
  · refine I.tmps0 t (fun i y hi hl hd => ?_) v h2
    have G := C.fact i y hi
    rcases Nat.lt_trichotomy i j with hlt | rfl | hlt
    · refine h1 i y ?_ hd
      rw [List.getElem?_take, if_pos hlt]; exact hi
    · rw [hu] at hl; cases hl
    · rcases (C.plan.pair i j x.o y.o F.o G.o hlt).2 with h3 | ⟨h3, _⟩
      · have := I.closed i hl j h3
        rw [hu] at this; cases this
      · simp only [sepOf, hd, Bool.and_eq_true, Bool.not_eq_true'] at h3
        have : (x.o.looksAt c.ops).contains t = true := by simpa using ht
        rw [show (⟨c.ops.toList⟩ : Array Oper) = c.ops from rfl] at h3
        rw [h3.2] at this; cases this

/-- The places that are listed, and one more. -/
def more (L : Nat → Bool) (j : Nat) (i : Nat) : Bool := if i = j then true else L i

theorem more_self (L : Nat → Bool) (j : Nat) : more L j j = true := if_pos rfl
theorem more_ne {L : Nat → Bool} {i j : Nat} (h : i ≠ j) : more L j i = L i := if_neg h
theorem more_of {L : Nat → Bool} {i j : Nat} (h : L i = true) : more L j i = true := by
  unfold more
  split
  · rfl
  · exact h

theorem put_ne (a : Act) {o : Option Nat} {d : Nat} (h : o ≠ some d) (v : Value) : (a.put o v).tmps[d]? = a.tmps[d]? := by
  cases o with
  | none => rfl
  | some e =>
    simp only [Act.put]
    exact Array.getElem?_setIfInBounds_ne fun e' => h (by rw [e'])

theorem put_eq {a : Act} {o : Option Nat} {d : Nat} (h : o = some d) (hd : d < a.tmps.size) (v : Value) : (a.put o v).tmps[d]? = some v := by
  subst h
  simp [Act.put, hd]

/-- What an operation leaves in its temporary. -/
theorem Cx.Inv.putL (C : c.Ok) (I : c.Inv L ρ a w k H) {j : Nat} {x : Item} (hj : c.it[j]? = some x) {ρ' : Ren} (hs : ρ.sub ρ') {v' : Value} (hv : VRel ρ' x.v v') :
    ∀ i y d, c.it[i]? = some y → more L j i = true → y.o.dst = some d → ∃ u, (a.put x.o.dst v').tmps[d]? = some u ∧ VRel ρ' y.v u := by
  intro i y d hi hl hd
  have F := C.fact j x hj
  have G := C.fact i y hi
  by_cases e : i = j
  · subst e
    rw [hj] at hi; cases hi
    have hin := C.dst x.o (List.mem_of_getElem? F.o)
    rw [hd] at hin
    refine ⟨v', put_eq hd ?_ v', hv⟩
    rw [I.sz]
    simpa only [dstIn, Nat.blt_eq] using hin
  · rw [more_ne e] at hl
    obtain ⟨u, h1, h2⟩ := I.tmpsL i y d hi hl hd
    refine ⟨u, ?_, h2.mono hs⟩
    rw [put_ne]
    · exact h1
    · intro hx
      rcases Nat.lt_or_ge i j with hlt | hge
      · have := (C.plan.pair j i y.o x.o G.o F.o hlt).1
        simp [dstsApart, hx, hd] at this
      · have := (C.plan.pair i j x.o y.o F.o G.o (by omega)).1
        simp [dstsApart, hx, hd] at this

theorem Cx.Inv.put0 (I : c.Inv L ρ a w k H) {j : Nat} {x : Item} (hj : c.it[j]? = some x) {ρ' : Ren} (hs : ρ.sub ρ') (v' : Value) :
    ∀ t, (∀ i y, c.it[i]? = some y → more L j i = true → y.o.dst ≠ some t) → ∀ v, c.s0.get t = some v → ∃ u, (a.put x.o.dst v').tmps[t]? = some u ∧ VRel ρ' v u := by
  intro t ht v hv
  obtain ⟨u, h1, h2⟩ := I.tmps0 t (fun i y hi hl => ht i y hi (more_of hl)) v hv
  refine ⟨u, ?_, h2.mono hs⟩
  rw [put_ne a (ht j x hj (more_self L j))]
  exact h1

theorem Cx.Inv.closed' (I : c.Inv L ρ a w k H) {j : Nat} (hr : ∀ p, (c.ms.getD j 0).testBit p = true → L p = true) :
    ∀ i, more L j i = true → ∀ p, (c.ms.getD i 0).testBit p = true → more L j p = true := by
  intro i hi p hp
  by_cases e : i = j
  · subst e; exact more_of (hr p hp)
  · rw [more_ne e] at hi
    exact more_of (I.closed i hi p hp)

/-- An operation that leaves the world as it is. -/
theorem Cx.Inv.still (C : c.Ok) (I : c.Inv L ρ a w k H) {j : Nat} {x : Item} (hj : c.it[j]? = some x) (hr : ∀ p, (c.ms.getD j 0).testBit p = true → L p = true)
    (hl : x.loud = false) (hb : x.b = none) {v' : Value} (hv : VRel ρ x.v v') : c.Inv (more L j) ρ (a.put x.o.dst v') w k H where
  closed := I.closed' hr
  loud := fun i y hi hy => by
    have : i ≠ j := fun e => by subst e; rw [hj] at hi; cases hi; rw [hl] at hy; cases hy
    rw [more_ne this]
    exact I.loud i y hi hy
  tmpsL := I.putL C hj ρ.sub_refl hv
  tmps0 := I.put0 hj ρ.sub_refl v'
  hk := I.hk
  rel := I.rel
  next := I.next
  flt := fun p y b hp hL hy hpd => by
    have : p ≠ j := fun e => by subst e; rw [hj] at hp; cases hp; rw [hb] at hy; cases hy
    rw [more_ne this] at hL
    exact I.flt p y b hp hL hy hpd
  apart := fun p q y z b d M N hp hq hLp hLq hy hz => by
    have e1 : p ≠ j := fun e => by subst e; rw [hj] at hp; cases hp; rw [hb] at hy; cases hy
    have e2 : q ≠ j := fun e => by subst e; rw [hj] at hq; cases hq; rw [hb] at hz; cases hz
    rw [more_ne e1] at hLp
    rw [more_ne e2] at hLq
    exact I.apart p q y z b d M N hp hq hLp hLq hy hz
  fresh := fun p hp hL => I.fresh p hp (by
    cases h : L p with
    | false => rfl
    | true => rw [more_of h] at hL; cases hL)
  sub := I.sub
  size := I.size
  keep := I.keep
  os := I.os
  tape := I.tape
  output := I.output
  old := I.old
  gl := I.gl
  sz := (put_tmps_size _ _ _).trans I.sz
  df := (put_defers _ _ _).trans I.df

end
end Go.G

/- G against the model: one operation of a region that draws its order. -/
namespace Go.G

section
variable {c : Cx} {L : Nat → Bool} {ρ : Ren} {a : Act} {w : World} {k : Nat} {H : Heap}

theorem not_more {j p : Nat} (h : more L j p = false) : L p = false ∧ p ≠ j := by
  unfold more at h
  split at h
  · cases h
  · exact ⟨h, by assumption⟩

/-- A block more, that lies back. -/
theorem Cx.Inv.made (C : c.Ok) (I : c.Inv L ρ a w k H) {j : Nat} {x : Item} (hj : c.it[j]? = some x) (hu : L j = false) (hr : ∀ p, (c.ms.getD j 0).testBit p = true → L p = true)
    (hl : x.loud = false) {b : Blk} (hb : x.b = some b) {o : Oper} {v' : Value} {M : Loc} {ob : Obj} {w' : World} (m : Makes c.P a o ρ (c.base + j) x.v b w v' M ob w') :
    c.Inv (more L j) (ρ.upd (c.base + j) M) (a.put x.o.dst v') w' k H := by
  have F := C.fact j x hj
  have hjn : j < c.ops.size := by
    have := (List.getElem?_eq_some_iff.1 F.o).1
    simpa using this
  have hfresh : ρ (c.base + j) = none := I.fresh j hjn hu
  have hs := Ren.sub_upd hfresh M
  have hold : ∀ i, i ≠ c.base + j → (ρ.upd (c.base + j) M) i = ρ i := fun i hi => if_neg hi
  have hsome : ∀ (i : Nat) (N N' : Loc), ρ i = some N → (ρ.upd (c.base + j) M) i = some N' → N' = N := fun i N N' h1 h2 => by
    have := hs i N h1
    rw [this] at h2; cases h2; rfl
  have hget : ∀ (i : Nat) (o : Obj), w.heap[i]? = some o → w'.heap[i]? = some o := fun i o h => by
    have hlt := (Array.getElem?_eq_some_iff.1 h).1
    rw [m.heap, Array.getElem?_push_lt hlt, ← Array.getElem?_eq_getElem hlt]
    exact h
  have hliv : ∀ b, LiveB (ρ.upd (c.base + j) M) H b → LiveB ρ H b := by
    rintro b ⟨i, d, N, h1, h2, e⟩
    obtain ⟨N', _, n1, _, _⟩ := I.rel.live i d h1
    have := hsome i N' N n1 h2
    subst this
    exact ⟨i, d, N, h1, n1, e⟩
  have hlow : ∀ b, LiveB ρ H b → b < w.heap.size := by
    rintro b ⟨i, d, N, h1, h2, e⟩
    have := I.rel.low i N h2
    omega
  have hsz : w'.heap.size = w.heap.size + 1 := by rw [m.heap]; simp
  refine ⟨I.closed' hr, ?_, I.putL C hj hs m.val, I.put0 hj hs v', I.hk, ⟨?_, ?_, ?_, ?_, I.rel.glob_keep rfl fun b hb hl => ⟨by rw [m.heap, Array.getElem?_push_lt hb, ← Array.getElem?_eq_getElem hb], fun hv => hl (hliv b hv)⟩⟩, I.next, ?_, ?_, ?_, Ren.sub_trans I.sub hs, ?_, ?_, m.os.trans I.os, m.tape.trans I.tape, m.output.trans I.output, ?_, I.gl, (put_tmps_size _ _ _).trans I.sz, (put_defers _ _ _).trans I.df⟩
  · intro i y hi hy
    have : i ≠ j := fun e => by subst e; rw [hj] at hi; cases hi; rw [hl] at hy; cases hy
    rw [more_ne this]
    exact I.loud i y hi hy
  · intro i d hi
    obtain ⟨N, o', n1, n2, n3⟩ := I.rel.live i d hi
    exact ⟨N, o', hs _ _ n1, hget _ _ n2, n3.mono hs⟩
  · intro i i' d d' N N' hi hi' hN hN' e
    obtain ⟨M1, _, n1, _, _⟩ := I.rel.live i d hi
    obtain ⟨M2, _, n2, _, _⟩ := I.rel.live i' d' hi'
    have e1 := hsome i M1 N n1 hN
    have e2 := hsome i' M2 N' n2 hN'
    subst e1 e2
    exact I.rel.inj i i' d d' N N' hi hi' n1 n2 e
  · intro i N hN
    by_cases e : i = c.base + j
    · have := I.next; omega
    · rw [hold i e] at hN; exact I.rel.dom i N hN
  · intro i N hN
    by_cases e : i = c.base + j
    · subst e
      rw [Ren.upd_same] at hN
      cases hN
      rw [m.lb]; omega
    · rw [hold i e] at hN
      have := I.rel.low i N hN
      omega
  · intro p y d hp hL hy hpd
    by_cases e : p = j
    · subst e
      rw [hj] at hp; cases hp
      rw [hb] at hy; cases hy
      refine ⟨M, ob, Ren.upd_same _ _ _, ?_, m.blk, fun hv => ?_, ?_⟩
      · rw [m.heap, m.lb]; simp
      · have := hlow _ (hliv _ hv)
        rw [m.lb] at this; omega
      · rw [m.lb]; exact I.size
    · rw [more_ne e] at hL
      obtain ⟨N, o', n1, n2, n3, n4, n5⟩ := I.flt p y d hp hL hy hpd
      exact ⟨N, o', hs _ _ n1, hget _ _ n2, n3.mono hs, fun hv => n4 (hliv _ hv), n5⟩
  · intro p q y z b1 d M1 N1 hp hq hLp hLq hy hz hM hN e
    by_cases e1 : p = j
    · by_cases e2 : q = j
      · rw [e1, e2]
      · rw [more_ne e2] at hLq
        rw [hold _ (by omega)] at hN
        rw [e1, Ren.upd_same] at hM
        cases hM
        have := I.rel.low _ _ hN
        rw [m.lb] at e
        omega
    · rw [more_ne e1] at hLp
      rw [hold _ (by omega)] at hM
      by_cases e2 : q = j
      · rw [e2, Ren.upd_same] at hN
        cases hN
        have := I.rel.low _ _ hM
        rw [m.lb] at e
        omega
      · rw [more_ne e2] at hLq
        rw [hold _ (by omega)] at hN
        exact I.apart p q y z b1 d M1 N1 hp hq hLp hLq hy hz hM hN e
  · intro p hp hL
    obtain ⟨h1, h2⟩ := not_more hL
    rw [hold _ (by omega)]
    exact I.fresh p hp h1
  · rw [hsz]; have := I.size; omega
  · intro i hi hn
    obtain ⟨h1, h2⟩ := I.keep i hi hn
    refine ⟨?_, fun hv => h2 (hliv _ hv)⟩
    have hlt : i < w.heap.size := Nat.lt_of_lt_of_le hi I.size
    rw [m.heap, Array.getElem?_push_lt hlt, ← Array.getElem?_eq_getElem hlt]
    exact h1
  · intro i hi
    rw [hold _ (by omega)]
    exact I.old i hi

/-- Something loud that has run. -/
theorem Cx.Inv.ran (C : c.Ok) (I : c.Inv L ρ a w k H) {j : Nat} {x : Item} (hj : c.it[j]? = some x) (hu : L j = false) (hr : ∀ p, (c.ms.getD j 0).testBit p = true → L p = true)
    (hl : x.loud = true) (hb : x.b = none) (hq : x.q = k) {back : List (Nat × Blk)} (hback : BackOk c.ms c.it j k back) {H' : Heap} (hH : c.hs[k + 1]? = some H') {ρ' : Ren} {v' : Value} {w' : World}
    (r1 : Rel ρ' H' w'.heap) (r2 : Ext ρ (adopt c.base back H) w ρ' H' w') (r3 : VRel ρ' x.v v') :
    c.Inv (more L j) ρ' (a.put x.o.dst v') w' (k + 1) H' := by
  have F := C.fact j x hj
  have hs := r2.sub
  have hnext : (adopt c.base back H).next = H.next := adopt_next _ _ _
  have hbk : ∀ p b, (p, b) ∈ back → L p = true ∧ (∃ y, c.it[p]? = some y ∧ y.b = some b) ∧ Pend c.ms c.it p k := fun p b hp => by
    obtain ⟨h1, h2, h3⟩ := hback p b hp
    exact ⟨hr p h1, h2, h3⟩
  obtain ⟨A1, A2⟩ := I.adopted C hbk
  have hcount : (c.it.take j).countP Item.loud = k := by rw [← F.q]; exact hq
  refine ⟨I.closed' hr, ?_, I.putL C hj hs r3, I.put0 hj hs v', hH, r1, ?_, ?_, ?_, ?_, Ren.sub_trans I.sub hs, Nat.le_trans I.size r2.size, ?_, r2.os.trans I.os, r2.tape.trans I.tape, r2.output.trans I.output, ?_, (r2.gl.trans (adopt_glob _ _ _)).trans I.gl, (put_tmps_size _ _ _).trans I.sz, (put_defers _ _ _).trans I.df⟩
  · intro i y hi hy
    have G := C.fact i y hi
    by_cases e : i = j
    · subst e
      rw [hj] at hi; cases hi
      rw [more_self]
      exact ⟨fun _ => by omega, fun _ => rfl⟩
    · rw [more_ne e, I.loud i y hi hy]
      have hne : y.q ≠ k := by
        rcases Nat.lt_or_ge i j with h | h
        · have h1 := count_succ hi hy
          have h2 := count_mono (l := c.it) (show i + 1 ≤ j from h)
          rw [← G.q] at h1
          omega
        · have h1 := count_succ hj hl
          have h2 := count_mono (l := c.it) (show j + 1 ≤ i from by omega)
          rw [← G.q] at h2
          omega
      omega
  · have := r2.next
    rw [hnext] at this
    exact Nat.le_trans I.next this
  · intro p y b hp hL hy hpd
    have e : p ≠ j := fun e => by subst e; rw [hj] at hp; cases hp; rw [hb] at hy; cases hy
    rw [more_ne e] at hL
    have hpk : Pend c.ms c.it p k := fun r z h1 h2 h3 => hpd r z h1 h2 (by omega)
    have hjp : (c.ms.getD j 0).testBit p = false := hpd j x hj hl (by omega)
    obtain ⟨N, o', n1, n2, n3, n4, n5⟩ := I.flt p y b hp hL hy hpk
    have hnl : ¬LiveB ρ (adopt c.base back H) N.b := fun hv => by
      rcases A2 _ hv with hv | ⟨p', d, M, hm, hM, e'⟩
      · exact n4 hv
      · obtain ⟨l1, ⟨z, z1, z2⟩, l3⟩ := hbk p' d hm
        have := I.apart p' p z y d b M N z1 hp l1 hL z2 hy hM n1 e'
        subst this
        rw [(hback p' d hm).1] at hjp; cases hjp
    obtain ⟨k1, k2⟩ := r2.keep N.b (I.rel.low _ _ n1) hnl
    exact ⟨N, o', hs _ _ n1, by rw [k1]; exact n2, n3.mono hs, k2, n5⟩
  · intro p q y z b1 d M1 N1 hp hq' hLp hLq hy hz hM hN e
    have e1 : p ≠ j := fun e => by subst e; rw [hj] at hp; cases hp; rw [hb] at hy; cases hy
    have e2 : q ≠ j := fun e => by subst e; rw [hj] at hq'; cases hq'; rw [hb] at hz; cases hz
    rw [more_ne e1] at hLp
    rw [more_ne e2] at hLq
    have hp' : p < c.ops.size := by rw [← C.len]; exact (List.getElem?_eq_some_iff.1 hp).1
    have hq'' : q < c.ops.size := by rw [← C.len]; exact (List.getElem?_eq_some_iff.1 hq').1
    have hn := I.next
    rw [r2.old _ (by rw [hnext]; omega)] at hM
    rw [r2.old _ (by rw [hnext]; omega)] at hN
    exact I.apart p q y z b1 d M1 N1 hp hq' hLp hLq hy hz hM hN e
  · intro p hp hL
    obtain ⟨h1, h2⟩ := not_more hL
    have hn := I.next
    rw [r2.old _ (by rw [hnext]; omega)]
    exact I.fresh p hp h1
  · intro i hi hn
    obtain ⟨h1, h2⟩ := I.keep i hi hn
    have hnl : ¬LiveB ρ (adopt c.base back H) i := fun hv => by
      rcases A2 _ hv with hv | ⟨p', d, M, hm, hM, e'⟩
      · exact h2 hv
      · obtain ⟨l1, ⟨z, z1, z2⟩, l3⟩ := hbk p' d hm
        obtain ⟨N, o', n1, n2, n3, n4, n5⟩ := I.flt p' z d z1 l1 z2 l3
        rw [hM] at n1; cases n1
        omega
    obtain ⟨k1, k2⟩ := r2.keep i (Nat.lt_of_lt_of_le hi I.size) hnl
    exact ⟨k1.trans h1, k2⟩
  · intro i hi
    have hn := I.next
    rw [r2.old _ (by rw [hnext]; omega)]
    exact I.old i hi

/-- Which stage it is when something loud may run. -/
theorem Cx.Inv.stage (C : c.Ok) (I : c.Inv L ρ a w k H) {j : Nat} {x : Item} (hj : c.it[j]? = some x)
    (hlo : ∀ p y, p < j → c.it[p]? = some y → y.loud = true → L p = true) (hhi : ∀ p y, j ≤ p → c.it[p]? = some y → y.loud = true → L p = false) : x.q = k := by
  have F := C.fact j x hj
  rcases Nat.lt_trichotomy x.q k with h | h | h
  · have hk : k < c.hs.length := (List.getElem?_eq_some_iff.1 I.hk).1
    rw [C.hlen] at hk
    have : (c.it.take c.it.length).countP Item.loud = c.it.countP Item.loud := by rw [List.take_length]
    obtain ⟨p, y, h1, h2, h3, h4⟩ := count_hit (l := c.it) c.it.length x.q (by omega)
    have G := C.fact p y h2
    rw [← G.q] at h4
    have hge : j ≤ p := by
      rcases Nat.lt_or_ge p j with h5 | h5
      · have h6 := count_succ h2 h3
        have h7 := count_mono (l := c.it) (show p + 1 ≤ j from h5)
        rw [← F.q, h6, ← G.q] at h7
        omega
      · exact h5
    have h8 := hhi p y hge h2 h3
    have h9 := (I.loud p y h2 h3).2 (by omega)
    rw [h8] at h9; cases h9
  · exact h
  · rw [F.q] at h
    obtain ⟨p, y, h1, h2, h3, h4⟩ := count_hit (l := c.it) j k h
    have G := C.fact p y h2
    have h9 := (I.loud p y h2 h3).1 (hlo p y h1 h2 h3)
    rw [G.q] at h9
    omega

end
end Go.G

/- G against the model: every order of a region that draws it. -/
namespace Go.G

section
variable {c : Cx} {L : Nat → Bool} {ρ : Ren} {a : Act} {w : World} {k : Nat} {H : Heap}

theorem Fact.kind_loud {env : Env} {rec : Rec} {ops : List Oper} {ms : List Nat} {base : Nat} {s0 : Tmps} {it : List Item} {hs : List Heap} {i : Nat} {x : Item} (F : Fact env rec ops ms base s0 it hs i x) (h : x.loud = true) : isLoud env x.o.op = true := by
  unfold Item.loud at h
  split at h
  case h_2 => cases h
  rename_i hk
  unfold isLoud
  cases hkd : kindOf env x.o.op with
  | quiet => have := (F.quiet h hkd).1; rw [hk] at this; cases this
  | makes => have := (F.makes h hkd).1; rw [hk] at this; cases this
  | loud => rfl

theorem mem_backOf {it : List Item} {ms : List Nat} {j k p : Nat} {b : Blk} (h : (p, b) ∈ backOf it ms j k) :
    (ms.getD j 0).testBit p = true ∧ (∃ y, it[p]? = some y ∧ y.b = some b) ∧ ∀ r y, it[r]? = some y → y.loud = true → y.q < k → (ms.getD r 0).testBit p = false := by
  unfold backOf at h
  rw [List.mem_filterMap] at h
  obtain ⟨⟨y, q⟩, h1, h2⟩ := h
  rw [List.mem_zipIdx_iff_getElem?] at h1
  simp only at h1 h2
  split at h2
  case h_2 => cases h2
  rename_i b' hb
  cases hc : ((ms.getD j 0).testBit q && it.zipIdx.all fun r => !r.1.loud || Nat.ble k r.1.q || !(ms.getD r.2 0).testBit q) with
  | false => rw [hc] at h2; cases h2
  | true =>
    rw [hc] at h2
    cases h2
    simp only [Bool.and_eq_true, List.all_eq_true] at hc
    refine ⟨hc.1, ⟨y, h1, hb⟩, fun r z hr hz hlt => ?_⟩
    have := hc.2 (z, r) (List.mem_zipIdx_iff_getElem?.2 hr)
    simp only [hz, Bool.not_true, Bool.false_or, Bool.or_eq_true, Nat.ble_eq, Bool.not_eq_true'] at this
    rcases this with h | h
    · omega
    · exact h

/-- What a quiet operation reads at whatever stage it may run. -/
theorem Cx.Inv.reads (C : c.Ok) (I : c.Inv L ρ a w k H) {j : Nat} {x : Item} (hj : c.it[j]? = some x) (hu : L j = false) (hr : ∀ p, (c.ms.getD j 0).testBit p = true → L p = true)
    (ha : x.act = true) (hkd : kindOf c.env x.o.op = .quiet) :
    ∃ back, (∀ p b, (p, b) ∈ back → L p = true ∧ (∃ y, c.it[p]? = some y ∧ y.b = some b) ∧ Pend c.ms c.it p k) ∧ quietOp c.env x.s (adopt c.base back H) x.o.op = .ok x.v := by
  have F := C.fact j x hj
  obtain ⟨q1, q2, back, h, q3, q4, q5⟩ := F.quiet ha hkd
  have hxl : x.loud = false := by unfold Item.loud; rw [q1]
  cases hrd : readsHeap x.o.op with
  | false => exact ⟨[], fun p b hp => (by cases hp), by rw [← q5]; exact quiet_deaf hrd _ _⟩
  | true =>
    by_cases hqk : x.q = k
    · subst hqk
      have : h = H := by have := I.hk; rw [q4] at this; cases this; rfl
      subst this
      exact ⟨back, fun p b hp => ⟨hr p (q3 p b hp).1, (q3 p b hp).2⟩, q5⟩
    · rcases C.check j x hj with hc | hc
      · exfalso
        apply hqk
        simp only [again, hrd, Bool.true_and, List.any_eq_false] at hc
        have key : ∀ p y, c.it[p]? = some y → y.loud = true → (c.ms.getD j 0).testBit p = true ∨ (c.ms.getD p 0).testBit j = true := by
          intro p y hp hy
          have G := C.fact p y hp
          have := hc (y.o, p) (List.mem_zipIdx_iff_getElem?.2 G.o)
          simp only [G.kind_loud hy, Bool.true_and, Bool.and_eq_true, Bool.not_eq_true', not_and, Bool.not_eq_false] at this
          cases h1 : (c.ms.getD j 0).testBit p with
          | true => exact .inl rfl
          | false => exact .inr (this h1)
        refine I.stage C hj (fun p y hlt hp hy => ?_) (fun p y hge hp hy => ?_)
        · rcases key p y hp hy with h1 | h1
          · exact hr p h1
          · have := bit_lt (C.plan.low p y.o (C.fact p y hp).o) h1
            omega
        · have hne : p ≠ j := fun e => by subst e; rw [hj] at hp; cases hp; rw [hxl] at hy; cases hy
          rcases key p y hp hy with h1 | h1
          · have := bit_lt (C.plan.low j x.o F.o) h1
            omega
          · cases hL : L p with
            | false => rfl
            | true =>
              have := I.closed p hL j h1
              rw [hu] at this; cases this
      · unfold itemOk at hc
        rw [q1] at hc
        simp only [ha, Bool.not_true, Bool.false_or, List.all_eq_true] at hc
        have := hc (H, k) (List.mem_zipIdx_iff_getElem?.2 I.hk)
        simp only [Bool.or_eq_true, Bool.not_eq_true'] at this
        have hmay : mayRun c.it c.ms j k = true := by
          unfold mayRun
          rw [List.all_eq_true]
          rintro ⟨y, p⟩ hp
          rw [List.mem_zipIdx_iff_getElem?] at hp
          simp only at hp ⊢
          cases hy : y.loud with
          | false => rfl
          | true =>
            simp only [Bool.not_true, Bool.false_or, Bool.and_eq_true, Bool.or_eq_true, Bool.not_eq_true', Nat.blt_eq, Nat.ble_eq]
            constructor
            · cases h1 : (c.ms.getD j 0).testBit p with
              | false => exact .inl rfl
              | true => exact .inr ((I.loud p y hp hy).1 (hr p h1))
            · cases h1 : (c.ms.getD p 0).testBit j with
              | false => exact .inl rfl
              | true =>
                right
                rcases Nat.lt_or_ge y.q k with h2 | h2
                · have := I.closed p ((I.loud p y hp hy).2 h2) j h1
                  rw [hu] at this; cases this
                · exact h2
        rcases this with (h1 | h1) | h1
        · exact absurd (Nat.eq_of_beq_eq_true h1).symm hqk
        · rw [hmay] at h1; cases h1
        · cases hv : quietOp c.env x.s (adopt c.base (backOf c.it c.ms j k) H) x.o.op with
          | no e => rw [hv] at h1; cases h1
          | ok v =>
            rw [hv] at h1
            have e := vEq_ok 8 v x.v h1
            subst e
            refine ⟨backOf c.it c.ms j k, fun p b hp => ?_, hv⟩
            obtain ⟨b1, b2, b3⟩ := mem_backOf hp
            refine ⟨hr p b1, b2, fun r y h1 h2 h3 => ?_⟩
            have G := C.fact r y h1
            exact b3 r y h1 h2 (by rw [G.q]; exact h3)

theorem Cx.Inv.step (C : c.Ok) (I : c.Inv L ρ a w k H) {j : Nat} {x : Item} (hj : c.it[j]? = some x) (hu : L j = false) (hr : ∀ p, (c.ms.getD j 0).testBit p = true → L p = true)
    {K : Act → World → Prop} {Q : Exit → Act → World → Prop} (hK : ∀ ρ' a' w' k' H', c.Inv (more L j) ρ' a' w' k' H' → K a' w') : wpOp c.P c.ops Q j K a w := by
  have F := C.fact j x hj
  have T := I.look C hj hu hr
  have ho : c.ops[j]? = some x.o := by rw [← Array.getElem?_toList]; exact F.o
  have hw : Region.wanted x.o (yielded c.ops a.tmps) = x.act := runs_ok T (by rw [keep_runs]; exact F.run)
  unfold wpOp
  simp only [ho, hw]
  cases ha : x.act with
  | false =>
    rw [if_neg (by decide)]
    obtain ⟨i1, i2⟩ := F.idle ha
    refine hK _ _ _ _ _ (I.still C hj hr ?_ i2 (by rw [i1]; exact undef_rel ρ))
    unfold Item.loud
    split
    · exact ha
    · rfl
  | true =>
    rw [if_pos rfl]
    left
    cases hkd : kindOf c.env x.o.op with
    | quiet =>
      obtain ⟨back, b1, b2⟩ := I.reads C hj hu hr ha hkd
      obtain ⟨A1, _⟩ := I.adopted C b1
      obtain ⟨v', r1, r2⟩ := quiet_ok C.E A1 T (o := x.o) (v := x.v) (by rw [quiet_same keep_operands]; exact b2)
      obtain ⟨q1, q2, _⟩ := F.quiet ha hkd
      unfold Oper.wp
      rw [r2]
      exact hK _ _ _ _ _ (I.still C hj hr (by unfold Item.loud; rw [q1]) q2 r1)
    | makes =>
      obtain ⟨q1, b, q2, q3⟩ := F.makes ha hkd
      have hjn : j < c.ops.size := (Array.getElem?_eq_some_iff.1 ho).1
      obtain ⟨v', M, ob, w', m⟩ := makes_ok C.E T (o := x.o) (i := c.base + j) (v := x.v) (b := b) (by rw [makes_same keep_operands]; exact q3) (I.fresh j hjn hu) w
      unfold Oper.wp
      rw [m.run]
      exact hK _ _ _ _ _ (I.made C hj hu hr (by unfold Item.loud; rw [q1]) q2 m)
    | loud =>
      obtain ⟨q1, q2, back, h, h', q3, q4, q5, q6⟩ := F.loud ha hkd
      have hxl : x.loud = true := by unfold Item.loud; rw [q1]; exact ha
      have hq : x.q = k := by
        refine I.stage C hj (fun p y hlt hp hy => ?_) (fun p y hge hp hy => ?_)
        · have G := C.fact p y hp
          rcases (C.plan.pair j p y.o x.o G.o F.o hlt).2 with h1 | ⟨_, h1⟩
          · exact hr p h1
          · exact (h1 (G.kind_loud hy) (F.kind_loud hxl)).elim
        · by_cases e : p = j
          · subst e; exact hu
          · have G := C.fact p y hp
            rcases (C.plan.pair p j x.o y.o F.o G.o (by omega)).2 with h1 | ⟨_, h1⟩
            · cases hL : L p with
              | false => rfl
              | true =>
                have := I.closed p hL j h1
                rw [hu] at this; cases this
            · exact (h1 (F.kind_loud hxl) (G.kind_loud hy)).elim
      subst hq
      have : h = H := by have := I.hk; rw [q4] at this; cases this; rfl
      subst this
      obtain ⟨A1, _⟩ := I.adopted C (back := back) fun p b hp => ⟨hr p (q3 p b hp).1, (q3 p b hp).2⟩
      have G := loud_ok C.E C.hP C.hR T A1 (o := x.o) (v := x.v) (h' := h') (by rw [loud_same keep_operands]; exact q6)
      exact G.wp fun ρ' v' w' r1 r2 r3 => hK _ _ _ _ _ (I.ran C hj hu hr hxl q2 rfl q3 q5 r1 r2 r3)

def Lof (listed : Array Bool) (i : Nat) : Bool := listed.getD i false

theorem Lof_set {listed : Array Bool} {j : Nat} (h : j < listed.size) : Lof (listed.setIfInBounds j true) = more (Lof listed) j := by
  funext i
  unfold Lof more
  by_cases e : i = j
  · subst e; simp [h]
  · rw [if_neg e, getD_set_ne false (Ne.symm e)]

def unl (listed : Array Bool) : Nat := listed.toList.countP fun b => !b

theorem unl_set {listed : Array Bool} {j : Nat} (h : listed.getD j true = false) : unl (listed.setIfInBounds j true) + 1 = unl listed := by
  have hlt : j < listed.size := by
    rcases Nat.lt_or_ge j listed.size with h1 | h1
    · exact h1
    · simp [Array.getElem?_eq_none h1] at h
  have hv : listed.toList[j]? = some false := by
    rw [Array.getElem?_toList, Array.getElem?_eq_getElem hlt]
    simp [hlt] at h
    rw [h]
  unfold unl
  have h2 : (listed.setIfInBounds j true).toList = listed.toList.set j true := by simp
  rw [h2, List.set_eq_take_append_cons_drop, if_pos (by simpa using hlt)]
  have h3 : listed.toList = listed.toList.take j ++ false :: listed.toList.drop (j + 1) := by
    have hlt' : j < listed.toList.length := by simpa using hlt
    have := List.take_append_drop j listed.toList
    rw (occs := .pos [1]) [← this]
    congr 1
    rw [List.drop_eq_getElem_cons hlt']
    congr 1
    rw [List.getElem?_eq_getElem hlt'] at hv
    exact Option.some.inj hv
  rw (occs := .pos [3]) [h3]
  rw [List.countP_append, List.countP_append, List.countP_cons, List.countP_cons]
  simp
  omega

theorem anyOrder (C : c.Ok) {Q : Exit → Act → World → Prop} (hQ : ∀ L ρ a w k H, c.Inv L ρ a w k H → (∀ i, i < c.ops.size → L i = true) → Q .normal a w) :
    ∀ (fuel : Nat) (listed : Array Bool) (ρ : Ren) (a : Act) (w : World) (k : Nat) (H : Heap), listed.size = c.ops.size → c.Inv (Lof listed) ρ a w k H → unl listed ≤ fuel → wpAny c.P .any c.ops Q fuel listed a w := by
  have fact0 : ∀ i, i < c.ops.size → ∃ x, c.it[i]? = some x := fun i hi => by
    rw [← C.len] at hi
    exact ⟨_, List.getElem?_eq_getElem hi⟩
  have below : ∀ i o (e : Edge), c.ops[i]? = some o → e ∈ o.after → Region.binds .any e = true → e.on < i := fun i o e ho he hb => by
    have ho' : c.ops.toList[i]? = some o := by rw [Array.getElem?_toList]; exact ho
    have hlow := C.plan.low i o ho'
    exact bit_lt hlow ((C.mask.bit i o ho' hlow e.on).2 ⟨e, Array.mem_toList_iff.2 he, hb, .inl rfl⟩)
  have all : ∀ listed : Array Bool, listed.size = c.ops.size → Region.ready .any c.ops listed = [] → ∀ i, i < c.ops.size → Lof listed i = true := by
    intro listed hsz hr i
    induction i using Nat.strongRecOn with
    | _ i ih =>
      intro hi
      cases hL : Lof listed i with
      | true => rfl
      | false =>
        have hm : i ∈ Region.ready .any c.ops listed := by
          rw [mem_ready]
          refine ⟨?_, c.ops[i], Array.getElem?_eq_getElem hi, fun e he hb => ?_⟩
          · have hlt : i < listed.size := by omega
            unfold Lof at hL
            simp [hlt] at hL ⊢
            exact hL
          · have hlt := below i _ e (Array.getElem?_eq_getElem hi) he hb
            exact ih e.on hlt (by omega)
        rw [hr] at hm; cases hm
  intro fuel
  induction fuel with
  | zero =>
    intro listed ρ a w k H hsz I hf
    have hall : ∀ i, i < c.ops.size → Lof listed i = true := by
      intro i hi
      cases hL : Lof listed i with
      | true => rfl
      | false =>
        exfalso
        have hlt : i < listed.size := by omega
        have h0 : listed.getD i true = false := by
          unfold Lof at hL
          simp [hlt] at hL ⊢
          exact hL
        have := unl_set h0
        omega
    refine ⟨?_, hQ _ _ _ _ _ _ I hall⟩
    cases hr : Region.ready .any c.ops listed with
    | nil => rfl
    | cons i l =>
      have hm : i ∈ Region.ready .any c.ops listed := by rw [hr]; exact List.mem_cons_self ..
      obtain ⟨h1, o, ho, _⟩ := mem_ready.1 hm
      have hi : i < c.ops.size := (Array.getElem?_eq_some_iff.1 ho).1
      have h2 := hall i hi
      have hlt : i < listed.size := by omega
      unfold Lof at h2
      simp [hlt] at h1 h2
      rw [h1] at h2; cases h2
  | succ fuel ih =>
    intro listed ρ a w k H hsz I hf
    refine ⟨fun hr => hQ _ _ _ _ _ _ I (all listed hsz hr), fun i hi => ?_⟩
    obtain ⟨h1, o, ho, h3⟩ := mem_ready.1 hi
    have hin : i < c.ops.size := (Array.getElem?_eq_some_iff.1 ho).1
    have hlt : i < listed.size := by omega
    obtain ⟨x, hx⟩ := fact0 i hin
    have ho' : c.ops.toList[i]? = some o := by rw [Array.getElem?_toList]; exact ho
    have hu : Lof listed i = false := by
      unfold Lof
      simp [hlt] at h1 ⊢
      exact h1
    refine I.step C hx hu (fun p hp => ?_) fun ρ' a' w' k' H' I' => ?_
    · obtain ⟨e, he, hb, h4⟩ := (C.mask.bit i o ho' (C.plan.low i o ho') p).1 hp
      have he' := h3 e (Array.mem_toList_iff.1 he) hb
      rcases h4 with rfl | ⟨h5, h6⟩
      · exact he'
      · exact I.closed e.on he' p h6
    · rw [← Lof_set hlt] at I'
      refine ih _ ρ' a' w' k' H' (by simpa using hsz) I' ?_
      have := unl_set h1
      omega

end
end Go.G

/- G against the model: regions that draw, and the whole. -/
namespace Go.G

section
variable {P : Program} {env : Env}

theorem replicate_Lof (n : Nat) : Lof (Array.replicate n false) = fun _ => false := by
  funext i
  unfold Lof
  by_cases h : i < n
  · simp [h]
  · simp [h]

theorem draw_ok (E : EnvOk P env) (hP : PrimOk P env) (hm : P.follows .mixedOrders = true) : DrawOk P env := by
  intro rec hR id ops st st' hq n hd ρ a w hn T K Q hQ
  unfold gDraw at hq
  obtain ⟨_, hplan, h1⟩ := R.b_ok hq
  obtain ⟨r, hr, h2⟩ := R.b_ok h1
  obtain ⟨items, heaps, st1⟩ := r
  obtain ⟨_, hchk, h3⟩ := R.b_ok h2
  cases h3
  have plan := plan_ok (R.must_ok hplan)
  have hsz : ops.toList.length = ops.size := Array.length_toList
  have tr := drawGo_ok (s0 := st.s) plan.low _ _ _ _ _ _ _ _ _ hr [] [] rfl rfl rfl rfl rfl (fun p b hp => by cases hp)
  have hchk := R.must_ok hchk
  rw [List.all_eq_true] at hchk
  let c : Cx := { P, env, rc := rec, ops, ms := masksOf ops.toList [], base := st.h.next, s0 := st.s, it := items, hs := heaps, ρ0 := ρ, h0 := st.h, w0 := w, sz := n, df := a.defers }
  have C : c.Ok := by
    refine ⟨E, hP, hR, plan, masks_ok _, ?_, tr.hlen, fun i x hi => ?_, fun i x hi => ?_, hd, fun k hk => (K.glob k hk).1.lt⟩
    · exact tr.len.trans hsz
    · have := tr.fact i x hi
      simpa using this
    · have := hchk (x, i) (List.mem_zipIdx_iff_getElem?.2 hi)
      simp only [Bool.or_eq_true, Bool.not_eq_true'] at this
      exact this
  let H0 : Heap := { st.h with next := st.h.next + ops.toList.length }
  have K0 : Rel ρ H0 w.heap := ⟨K.live, K.inj, fun i L hL => Nat.lt_of_lt_of_le (K.dom i L hL) (Nat.le_add_right _ _), K.low, K.glob⟩
  have hLf := replicate_Lof ops.size
  have I : c.Inv (Lof (Array.replicate ops.size false)) ρ a { w with drawn := w.drawn + 1 } 0 H0 := by
    rw [hLf]
    refine ⟨fun i h => (by cases h), fun i x hi hx => ⟨fun h => (by cases h), fun h => (by omega)⟩, fun i x d hi h => (by cases h), fun t _ v hv => T t v hv, tr.head, K0, ?_, fun p x b hp h => (by cases h),
      fun p q x y b d M N hp hq' h => (by cases h), fun p hp _ => ?_, ρ.sub_refl, Nat.le_refl _, fun b hb hl => ⟨rfl, hl⟩, rfl, rfl, rfl, fun _ _ => rfl, rfl, hn, rfl⟩
    · show st.h.next + ops.size ≤ st.h.next + ops.toList.length
      rw [hsz]; exact Nat.le_refl _
    · cases hρ : ρ (c.base + p) with
      | none => rfl
      | some L =>
        have h5 : st.h.next + p < st.h.next := K.dom _ _ hρ
        omega
  refine wp_region_any hm (anyOrder C (Q := Q) (fun L ρ' a' w' k H I' hall => ?_) ops.size _ ρ a _ 0 H0 (by simp; rfl) I ?_)
  · have hk : k = items.countP Item.loud := by
      have hlt : k < heaps.length := (List.getElem?_eq_some_iff.1 I'.hk).1
      rw [tr.hlen] at hlt
      rcases Nat.lt_or_ge k (items.countP Item.loud) with h5 | h5
      · exfalso
        obtain ⟨p, y, h6, h7, h8, h9⟩ := count_hit (l := items) items.length k (by rw [List.take_length]; exact h5)
        have F := C.fact p y h7
        have h10 := (I'.loud p y h7 h8).1 (hall p (by rw [← C.len]; exact h6))
        rw [F.q] at h10
        change (items.take p).countP Item.loud < k at h10
        omega
      · omega
    obtain ⟨back, hl, f1, f2, f3⟩ := tr.fin_h
    have hH : hl = H := by
      have h5 := I'.hk
      rw [hk] at h5
      change heaps[_]? = _ at h5
      rw [f1] at h5; cases h5; rfl
    subst hH
    have hbk : ∀ p b, (p, b) ∈ back → L p = true ∧ (∃ y, c.it[p]? = some y ∧ y.b = some b) ∧ Pend c.ms c.it p k := by
      intro p b hp
      obtain ⟨⟨y, y1, y2⟩, h6⟩ := f3 p b hp
      rw [List.nil_append] at y1 h6
      refine ⟨hall p (by rw [← C.len]; exact (List.getElem?_eq_some_iff.1 y1).1), ⟨y, y1, y2⟩, fun r z h7 h8 _ => h6 r z h7 h8⟩
    obtain ⟨A1, A2⟩ := I'.adopted C hbk
    refine hQ ρ' a' w' I'.sz I'.df ?_ (by rw [f2]; exact A1) ?_
    · have fs := tr.fin_s
      intro t v hv
      rw [fs, List.nil_append] at hv
      rcases after_get _ _ _ _ hv with ⟨i, x, g1, g2, rfl⟩ | ⟨g1, g2⟩
      · exact I'.tmpsL i x t g1 (hall i (by rw [← C.len]; exact (List.getElem?_eq_some_iff.1 g1).1)) g2
      · exact I'.tmps0 t (fun i x hi _ => g1 i x hi) v g2
    · have hnx : st1.h.next = hl.next := by rw [f2, adopt_next]
      have hle : st.h.next + ops.size ≤ hl.next := I'.next
      refine ⟨I'.sub, by rw [hnx]; omega, I'.size, fun b hb hl' => ?_, I'.os, I'.tape, I'.output, I'.old, by rw [f2, adopt_glob]; exact I'.gl⟩
      obtain ⟨g1, g2⟩ := I'.keep b hb hl'
      refine ⟨g1, fun hv => ?_⟩
      rw [f2] at hv
      rcases A2 b hv with h6 | ⟨p, d, M, h6, h7, h8⟩
      · exact g2 h6
      · obtain ⟨k1, ⟨y, y1, y2⟩, k3⟩ := hbk p d h6
        obtain ⟨N, o', n1, n2, n3, n4, n5⟩ := I'.flt p y d y1 k1 y2 k3
        rw [h7] at n1; cases n1
        have : w.heap.size ≤ M.b := n5
        omega
  · refine Nat.le_trans List.countP_le_length ?_
    simp

theorem call_sound (hP : PrimOk P env) (E : EnvOk P env) (hm : P.follows .mixedOrders = true) {k f : Nat} {args args' : List Value} {h h' : Heap} {v : Value} {w : World} {ρ : Ren} (hq : callFn env (run env k) f args h = .ok (v, h')) (K : Rel ρ h w.heap) (ra : LRel ρ args args') :
    Contract P f args' w ρ h v h' := call_ok E hP (draw_ok E hP hm) hq K ra

end
end Go.G

/- G: the keys of a map, sorted, as a step of its own. -/
namespace Go.G
open Go.Maps Go.WideElems Go.WideShapes Go.RowKit Go.WideMaps
open Go.Proofs (encStr)

def keysOf : List MapEntry → R (List (List UInt8))
  | [] => .ok []
  | e :: l =>
    match e.key with
    | .string s => (R.must (Nat.ble s.data.toList.length 1000000) "a long key").b fun _ => (keysOf l).b fun r => .ok (s.data.toList :: r)
    | _ => .no "key"

def insKey (k : List UInt8) : List (List UInt8) → List (List UInt8)
  | [] => [k]
  | a :: l => cond (bytesLess k a) (k :: a :: l) (a :: insKey k l)

def sortKeys : List (List UInt8) → List (List UInt8)
  | [] => []
  | k :: l => insKey k (sortKeys l)

def distinctN : List Nat → Bool
  | [] => true
  | a :: l => l.all (fun b => !Nat.beq a b) && distinctN l

def distinctK : List (List UInt8) → Bool
  | [] => true
  | a :: l => l.all (fun b => !(a == b)) && distinctK l

def pSortedK (fI : Nat) : Prim := fun args h =>
  match args with
  | [.func (.func f) ⟨[]⟩ ⟨[.pointer (some ⟨bm, 0, none⟩)]⟩] =>
    (R.must (Nat.beq f fI) "sorted iterator").b fun _ => (h.cells bm).b fun p => (R.must (Nat.beq p.1 0) "sorted cell").b fun _ => (h.read ⟨bm, 0, none⟩ 1).b fun cs =>
    match cs with
    | [.map none] => .ok (.slice none 0 0, h)
    | [.map (some r)] =>
      match h.get r with
      | some (.map es clock) => (keysOf es).b fun ks =>
        (R.must (Nat.ble es.length 1000000 && es.all (fun e => Nat.blt e.born clock) && distinctN (es.map (·.born)) && distinctK ks) "sorted map").b fun _ =>
        match ks with
        | [] => .ok (.slice none 0 0, h)
        | _ :: _ => .ok (.slice (some ⟨h.next, 0, none⟩) ks.length flexCap, h.add (.cells 1 ((sortKeys ks).map fun l => .string ⟨⟨l⟩⟩)))
      | _ => .no "sorted no map"
    | _ => .no "sorted cells"
  | _ => .no "sorted arguments"

/-- What is asked of slices.Sorted (fS) at what maps.Keys handed back (its iterator: fI). -/
structure SortedAt (P : Program) (fS fI : Nat) : Prop where
  some_ : ∀ (Bm b nn : Nat) (D0 : DataW Unit) (R : Value → Option (DataW Unit × List MemPlace)) (w : World), Bm < w.heap.size → w.cell? ⟨Bm, 0, none⟩ = some (.map (some b)) → w.ownsMap P 9 R b nn D0 → Maps.size D0 ≤ maxLen → Maps.size D0 * 16 ≤ 140737488355328 →
    Calls P fS #[.func (.func fI) #[] #[.pointer (some ⟨Bm, 0, none⟩)]] w fun e w' => ∃ (v : Value) (ss : List (List UInt8)), e = .returned v ∧ ss.Perm (strKeys D0) ∧
      w'.ownsRow w.heap.size 9 1 v ss.length ((ss.mergeSort (fun x y => decide (x ≤ y))).map encStr) ∧ (v = .slice none 0 0 ↔ ss = []) ∧ Below w.heap.size w w'
  none_ : ∀ (Bm : Nat) (w : World), Bm < w.heap.size → w.cell? ⟨Bm, 0, none⟩ = some (.map none) →
    Calls P fS #[.func (.func fI) #[] #[.pointer (some ⟨Bm, 0, none⟩)]] w fun e w' => e = .returned (.slice none 0 0) ∧ Below w.heap.size w w'

theorem less_iff : ∀ {x y : List UInt8}, bytesLess x y = true ↔ x < y
  | x, [] => by
    cases x with
    | nil => simp [bytesLess]
    | cons a x => simp [bytesLess]
  | [], b :: y => by simp [bytesLess]
  | a :: x, b :: y => by
    rw [List.cons_lt_cons_iff]
    simp only [bytesLess, Bool.or_eq_true, Bool.and_eq_true, Nat.blt_eq]
    rw [less_iff (x := x) (y := y), ← UInt8.lt_iff_toNat_lt]
    have : a.toNat.beq b.toNat = true ↔ a = b := ⟨fun h => UInt8.toNat_inj.1 (Nat.eq_of_beq_eq_true h), fun h => by subst h; exact Nat.beq_refl _⟩
    rw [this]

theorem insKey_perm (k : List UInt8) : ∀ l, (insKey k l).Perm (k :: l)
  | [] => .refl _
  | a :: l => by
    simp only [insKey]
    cases bytesLess k a with
    | true => exact .refl _
    | false => exact ((insKey_perm k l).cons a).trans (.swap k a l)

theorem sortKeys_perm : ∀ l, (sortKeys l).Perm l
  | [] => .refl _
  | k :: l => (insKey_perm k _).trans ((sortKeys_perm l).cons k)

theorem insKey_sorted (k : List UInt8) : ∀ {l : List (List UInt8)}, l.Pairwise (fun a b => leB a b = true) → (insKey k l).Pairwise (fun a b => leB a b = true)
  | [], _ => by simp [insKey]
  | a :: l, h => by
    simp only [insKey]
    rw [List.pairwise_cons] at h
    cases hl : bytesLess k a with
    | true =>
      have hka : k ≤ a := List.le_of_lt (less_iff.1 hl)
      simp only [cond_true]
      rw [List.pairwise_cons]
      refine ⟨fun b hb => ?_, List.pairwise_cons.2 h⟩
      rw [List.mem_cons] at hb
      simp only [leB, decide_eq_true_eq]
      rcases hb with rfl | hb
      · exact hka
      · have := h.1 b hb
        simp only [leB, decide_eq_true_eq] at this
        exact List.le_trans hka this
    | false =>
      have hak : a ≤ k := by
        have : ¬ k < a := fun hlt => by rw [less_iff.2 hlt] at hl; cases hl
        exact List.not_lt.1 this
      simp only [cond_false]
      rw [List.pairwise_cons]
      refine ⟨fun b hb => ?_, insKey_sorted k h.2⟩
      have := (insKey_perm k l).mem_iff.1 hb
      rw [List.mem_cons] at this
      rcases this with rfl | hb
      · simp only [leB, decide_eq_true_eq]; exact hak
      · exact h.1 b hb

theorem sortKeys_sorted : ∀ l, (sortKeys l).Pairwise (fun a b => leB a b = true)
  | [] => .nil
  | k :: l => insKey_sorted k (sortKeys_sorted l)

theorem sortKeys_eq {ss ks : List (List UInt8)} (h : ss.Perm ks) : ss.mergeSort leB = sortKeys ks := by
  have tr : ∀ a b c : List UInt8, leB a b = true → leB b c = true → leB a c = true := fun a b c h1 h2 => by simp only [leB, decide_eq_true_eq] at *; exact List.le_trans h1 h2
  have to : ∀ a b : List UInt8, (leB a b || leB b a) = true := fun a b => by simp only [leB, Bool.or_eq_true, decide_eq_true_eq]; exact List.le_total a b
  refine List.Perm.eq_of_pairwise (le := fun a b => leB a b = true) (fun a b _ _ h1 h2 => ?_) (List.pairwise_mergeSort tr to ss) (sortKeys_sorted ks) (((List.mergeSort_perm ss leB).trans h).trans (sortKeys_perm ks).symm)
  simp only [leB, decide_eq_true_eq] at h1 h2
  exact List.le_antisymm h1 h2

theorem distinctN_ok : ∀ {l : List Nat}, distinctN l = true → l.Nodup
  | [], _ => .nil
  | a :: l, h => by
    simp only [distinctN, Bool.and_eq_true, List.all_eq_true] at h
    rw [List.nodup_cons]
    refine ⟨fun hm => ?_, distinctN_ok h.2⟩
    have := h.1 a hm
    simp at this

theorem distinctK_ok : ∀ {l : List (List UInt8)}, distinctK l = true → l.Nodup
  | [], _ => .nil
  | a :: l, h => by
    simp only [distinctK, Bool.and_eq_true, List.all_eq_true] at h
    rw [List.nodup_cons]
    refine ⟨fun hm => ?_, distinctK_ok h.2⟩
    have := h.1 a hm
    simp at this

theorem keysOf_ok {ρ : Ren} : ∀ {es es' : List MapEntry} {ks : List (List UInt8)}, keysOf es = .ok ks → EsRel ρ es es' → es'.map (·.key) = ks.map encStr ∧ ∀ k ∈ ks, k.length ≤ 1000000
  | [], es', ks, h, r => by cases h; cases r.nil_inv; exact ⟨rfl, fun _ h => by cases h⟩
  | e :: es, es', ks, h, r => by
    obtain ⟨e', l, rfl, r1, r2⟩ := r.cons_inv
    simp only [keysOf] at h
    split at h
    · rename_i s hs
      obtain ⟨_, hm, h1⟩ := R.b_ok h
      obtain ⟨ks', hk, h2⟩ := R.b_ok h1
      cases h2
      obtain ⟨q1, q2⟩ := keysOf_ok hk r2
      have hkey := r1.key
      rw [hs] at hkey
      generalize he : e'.key = z at hkey
      cases hkey
      refine ⟨by rw [List.map_cons, List.map_cons, q1, he], fun k hk => ?_⟩
      rw [List.mem_cons] at hk
      rcases hk with rfl | hk
      · exact Nat.le_of_ble_eq_true (R.must_ok hm)
      · exact q2 k hk
    · cases h

section
variable {P : Program} {ρ : Ren}

theorem Rel.below {h : Heap} {w w' : World} (K : Rel ρ h w.heap) (B : Below w.heap.size w w') : Rel ρ h w'.heap ∧ Ext ρ h w ρ h w' := by
  refine ⟨⟨fun i b hi => ?_, K.inj, K.dom, fun i L hL => Nat.lt_of_lt_of_le (K.low i L hL) B.size, K.glob_keep rfl fun b hb hl => ⟨B.block b hb, hl⟩⟩, ⟨ρ.sub_refl, Nat.le_refl _, B.size, fun b hb hl => ⟨B.block b hb, hl⟩, B.os, B.tape, B.output, fun _ _ => rfl, rfl⟩⟩
  obtain ⟨L, o, h1, h2, h3⟩ := K.live i b hi
  exact ⟨L, o, h1, by rw [B.block _ (K.low i L h1)]; exact h2, h3⟩

theorem Rel.laid {h : Heap} {w w' : World} (K : Rel ρ h w.heap) (B : Below w.heap.size w w') {b : Blk} {o : Obj} {L : Loc} (hg : w.heap.size ≤ L.b) (ho : w'.heap[L.b]? = some o) (hn : BlkRel (ρ.upd h.next L) L b o) :
    Rel (ρ.upd h.next L) (h.add b) w'.heap ∧ Ext ρ h w (ρ.upd h.next L) (h.add b) w' := by
  have hs := Ren.sub_upd K.fresh L
  obtain ⟨K1, X1⟩ := K.below B
  have hlt : L.b < w'.heap.size := (Array.getElem?_eq_some_iff.1 ho).1
  have hne : ∀ (i : Nat) (M : Loc), (ρ.upd h.next L) i = some M → i ≠ h.next → ρ i = some M := fun i M hM hi => by
    unfold Ren.upd at hM; rw [if_neg hi] at hM; exact hM
  have hself : ∀ M, (ρ.upd h.next L) h.next = some M → M = L := fun M hM => by rw [Ren.upd_same] at hM; cases hM; rfl
  have hold : ∀ (i : Nat) (c : Blk), (h.add b).get i = some c → i ≠ h.next → h.get i = some c := fun i c hi hne => by
    rw [Heap.get_add, if_neg hne] at hi; exact hi
  have keep : ∀ k, k < w.heap.size → ¬LiveB ρ h k → w'.heap[k]? = w.heap[k]? ∧ ¬LiveB (ρ.upd h.next L) (h.add b) k := by
    intro k hk hl
    refine ⟨B.block k hk, ?_⟩
    rintro ⟨i, c, M, hi, hM, e⟩
    by_cases e1 : i = h.next
    · subst e1
      have := hself M hM
      subst this
      omega
    · exact hl ⟨i, c, M, hold i c hi e1, hne i M hM e1, e⟩
  refine ⟨⟨fun i c hi => ?_, fun i j c d M N hi hj hM hN e => ?_, fun i M hM => ?_, fun i M hM => ?_, K.glob_keep rfl keep⟩, ⟨hs, Nat.le_succ _, B.size, keep, B.os, B.tape, B.output, fun i hi => if_neg (by omega), rfl⟩⟩
  · by_cases e : i = h.next
    · subst e
      rw [Heap.get_add, if_pos rfl] at hi
      cases hi
      exact ⟨L, o, Ren.upd_same _ _ _, ho, hn⟩
    · obtain ⟨M, o', h1, h2, h3⟩ := K1.live i c (hold i c hi e)
      exact ⟨M, o', hs _ _ h1, h2, h3.mono hs⟩
  · by_cases e1 : i = h.next
    · by_cases e2 : j = h.next
      · rw [e1, e2]
      · subst e1
        have := hself M hM
        subst this
        have := K.low j N (hne j N hN e2)
        omega
    · by_cases e2 : j = h.next
      · subst e2
        have := hself N hN
        subst this
        have := K.low i M (hne i M hM e1)
        omega
      · exact K.inj i j c d M N (hold i c hi e1) (hold j d hj e2) (hne i M hM e1) (hne j N hN e2) e
  · by_cases e : i = h.next
    · subst e; exact Nat.lt_succ_self _
    · exact Nat.lt_succ_of_lt (K.dom i M (hne i M hM e))
  · by_cases e : i = h.next
    · subst e
      have := hself M hM
      subst this
      exact hlt
    · exact K1.low i M (hne i M hM e)

theorem sorted_prim {fS fI : Nat} (S : SortedAt P fS fI) (u9 : P.underlying 9 = some .string) {args : List Value} {h h' : Heap} {v : Value} (hq : pSortedK fI args h = .ok (v, h')) {w : World} {args' : List Value} (K : Rel ρ h w.heap) (ra : LRel ρ args args') :
    Contract P fS args' w ρ h v h' := by
  unfold pSortedK at hq
  split at hq
  case h_2 => cases hq
  rename_i f bm
  obtain ⟨_, hf, q1⟩ := R.b_ok hq
  obtain ⟨p, hp, q2⟩ := R.b_ok q1
  obtain ⟨_, hz, q3⟩ := R.b_ok q2
  obtain ⟨cs, hcs, q4⟩ := R.b_ok q3
  have hf := Nat.eq_of_beq_eq_true (R.must_ok hf)
  subst hf
  have hz := Nat.eq_of_beq_eq_true (R.must_ok hz)
  obtain ⟨a', l, rfl, rv, rl⟩ := ra.cons_inv
  cases rl.nil_inv
  cases rv with
  | @func _ _ _ xs' ys' hl hm hx hy =>
  have hxs : xs' = [] := List.length_eq_zero_iff.1 hl.symm
  subst hxs
  have r2 : LRel ρ [.pointer (some ⟨bm, 0, none⟩)] ys' := ⟨hm, hy⟩
  obtain ⟨pv, l2, rfl, rp, rl2⟩ := r2.cons_inv
  cases rl2.nil_inv
  obtain ⟨i, off, L, e0, hL, rfl⟩ := rp.ptr_inv
  cases e0
  have hb0 : L.base = 0 := K.base0 (Heap.cells_ok hp) hL hz
  obtain ⟨hlen, L', cs', hL', rcs, hcell⟩ := Heap.read_ok K hcs
  rw [hL] at hL'; cases hL'
  have hlow : L.b < w.heap.size := K.low _ _ hL
  clear hq q1 q2 q3
  split at q4
  · cases q4
    obtain ⟨c0, l3, rfl, rc, _⟩ := rcs.cons_inv
    cases rc
    have hc0 := hcell 0 _ rfl
    rw [hb0] at hc0 ⊢
    refine Calls.mono (S.none_ L.b w hlow hc0) fun e w' ⟨he, hB⟩ => ?_
    obtain ⟨k1, k2⟩ := K.below hB
    exact ⟨ρ, _, he, k1, k2, .sliceNil⟩
  · rename_i r
    obtain ⟨c0, l3, rfl, rc, _⟩ := rcs.cons_inv
    cases rc with
    | @map _ M hM =>
    have hc0 := hcell 0 _ rfl
    split at q4
    case h_2 => cases q4
    rename_i es clock hg
    obtain ⟨ks, hks, q5⟩ := R.b_ok q4
    obtain ⟨_, hck, q6⟩ := R.b_ok q5
    have hck := R.must_ok hck
    simp only [Bool.and_eq_true, Nat.ble_eq, List.all_eq_true, Nat.blt_eq] at hck
    obtain ⟨⟨⟨n1, n2⟩, n3⟩, n4⟩ := hck
    obtain ⟨M', ob, g1, g2, g3⟩ := K.live _ _ hg
    rw [hM] at g1; cases g1
    cases g3 with
    | @map _ es' _ hb hes =>
    obtain ⟨k1, k2⟩ := keysOf_ok hks hes
    have hborn : es'.toList.map (·.born) = es.map (·.born) := by
      apply List.ext_getElem?
      intro i
      rw [List.getElem?_map, List.getElem?_map]
      cases he : es[i]? with
      | none =>
        have : es'.toList[i]? = none := by rw [List.getElem?_eq_none_iff] at he ⊢; rw [← hes.1]; exact he
        rw [this]
      | some e =>
        obtain ⟨e', h1, h2⟩ := hes.get he
        rw [h1, Option.map_some, Option.map_some, h2.born]
    have hsz : es'.size = es.length := by rw [← Array.length_toList, ← hes.1]
    have hmax : (1000000 : Nat) ≤ maxLen := by decide
    let Rd : Value → Option (DataW Unit × List MemPlace) := fun _ => some (.nil, [])
    have hrd : ∀ x ∈ es'.toList, ∃ k ∈ ks, x.key = encStr k ∧ rd P 9 Rd x = some (.string k, .nil) := by
      intro x hx
      have : x.key ∈ es'.toList.map (·.key) := List.mem_map.2 ⟨x, hx, rfl⟩
      rw [k1, List.mem_map] at this
      obtain ⟨k, hk, e⟩ := this
      refine ⟨k, hk, e.symm, ?_⟩
      obtain ⟨key, val, born⟩ := x
      simp only at e
      subst e
      have hkey : keyOf P 9 (encStr k) = some (.string k) := keyOf_string_mk (s := ⟨k.toArray⟩) u9 (Nat.le_trans (k2 k hk) hmax)
      exact rd_mk (R := Rd) (yv := (.nil, [])) hkey rfl
    have hfit : Fit P 9 Rd es' clock := by
      refine ⟨by rw [hsz]; exact Nat.le_trans n1 hmax, ⟨fun x hx => ?_, by rw [hborn]; exact distinctN_ok n3, ?_⟩, fun x hx => ?_⟩
      · have : x.born ∈ es'.toList.map (·.born) := List.mem_map.2 ⟨x, hx, rfl⟩
        rw [hborn, List.mem_map] at this
        obtain ⟨e, he, e2⟩ := this
        rw [← e2]; exact n2 e he
      · rw [k1]
        exact (distinctK_ok n4).map _ fun a b hab e => hab (encStr_inj e)
      · obtain ⟨k, _, _, h2⟩ := hrd x hx
        exact ⟨_, h2⟩
    let D0 : DataW Unit := .map ((es'.toList.map (rg P 9 Rd)).foldr DataW.insert [])
    have hown : w.ownsMap P 9 Rd M.b es'.size D0 := ⟨es', clock, g2, hfit, Nat.le_refl _, rfl⟩
    have hstr : (strKeys D0).Perm ks := by
      show ((((es'.toList.map (rg P 9 Rd)).foldr DataW.insert []).map fun p => strOf p.1)).Perm ks
      refine ((sorted_perm _).map _).trans ?_
      rw [List.map_map]
      have : es'.toList.map ((fun p => strOf p.1) ∘ rg P 9 Rd) = ks := by
        have h1 : (es'.toList.map ((fun p => strOf p.1) ∘ rg P 9 Rd)).map encStr = ks.map encStr := by
          rw [← k1, List.map_map]
          refine List.map_congr_left fun x hx => ?_
          obtain ⟨k, _, e, h2⟩ := hrd x hx
          simp only [Function.comp, rg_of h2, e, strOf]
        exact (List.map_inj_right (fun a b e => encStr_inj e)).1 h1
      rw [this]
    have hsize : Maps.size D0 = ks.length := by
      have := hstr.length_eq
      simpa [strKeys, D0, Maps.size] using this
    have hkl : ks.length = es.length := by
      have := congrArg List.length k1
      simp only [List.length_map, Array.length_toList] at this
      omega
    rw [hb0] at hc0 ⊢
    refine Calls.mono (S.some_ L.b M.b es'.size D0 Rd w hlow hc0 hown (by omega) (by omega)) fun e w' ⟨v', ss, he, hperm, hrow, hnil, hB⟩ => ?_
    have hpk := hperm.trans hstr
    split at q6
    · cases q6
      obtain ⟨r1, r2⟩ := K.below hB
      have : ss = [] := hpk.eq_nil
      rw [hnil.2 this] at he
      exact ⟨ρ, _, he, r1, r2, .sliceNil⟩
    · rename_i k0 ks0
      cases q6
      have hne : ss ≠ [] := fun e => by subst e; have := hpk.length_eq; simp at this
      rcases hrow.2 with ⟨e1, _⟩ | ⟨g, cap, cur, e1, c1, c2, c3, c4, c5, c6⟩
      · exact absurd (hnil.1 e1) hne
      · subst e1
        have hn := hpk.length_eq
        have hsorted : ss.mergeSort (fun x y => decide (x ≤ y)) = sortKeys (k0 :: ks0) := sortKeys_eq hpk
        rw [hsorted] at c6
        have hlc : (sortKeys (k0 :: ks0)).length = (k0 :: ks0).length := (sortKeys_perm _).length_eq
        obtain ⟨r1, r2⟩ := K.laid hB (b := .cells 1 ((sortKeys (k0 :: ks0)).map fun l => .string ⟨⟨l⟩⟩)) (L := ⟨g, 0, cap, 1⟩) c1 c2 (by
          refine .cells (by rw [c5, Nat.mul_one]) rfl (.inl rfl) (fun e => by cases e) fun i u hu => ?_
          rw [List.getElem?_map] at hu
          cases hk : (sortKeys (k0 :: ks0))[i]? with
          | none => rw [hk] at hu; cases hu
          | some k =>
            rw [hk] at hu
            cases hu
            refine ⟨.string ⟨⟨k⟩⟩, ?_, .string _⟩
            have hlt : i < (sortKeys (k0 :: ks0)).length := (List.getElem?_eq_some_iff.1 hk).1
            have h1 : (cur.toList.take (ss.length * 1))[i]? = some (encStr k) := by rw [c6, List.getElem?_map, hk]; rfl
            rw [List.getElem?_take] at h1
            split at h1
            · rw [Nat.zero_add, ← Array.getElem?_toList]; exact h1
            · cases h1)
        refine ⟨_, _, he, r1, r2, ?_⟩
        rw [← hn]
        refine .flex (off := 0) (Ren.upd_same _ _ _) (by simp) c3 (.inl rfl)
  · cases q4

end
end Go.G

/- G: from a run out of nothing to what a call does. -/
namespace Go.G
open Go.RowKit

def isTrue : R (Value × Heap) → Bool
  | .ok (.bool b, _) => b
  | _ => false

theorem isTrue_ok {r : R (Value × Heap)} (h : isTrue r = true) : ∃ h', r = .ok (.bool true, h') := by
  unfold isTrue at h
  split at h
  · subst h; exact ⟨_, rfl⟩
  · cases h

def noRen : Ren := fun _ => none

theorem empty_get (i : Nat) : emptyHeap.get i = none := rfl

def globHeap (gs : List Nat) : Heap := { t := .leaf, next := 0, glob := gs }

theorem glob_get (gs : List Nat) (i : Nat) : (globHeap gs).get i = none := rfl

theorem rel_glob {gs : List Nat} {w : World} (h : ∀ g ∈ gs, GlobAt w.heap g) : Rel noRen (globHeap gs) w.heap :=
  ⟨fun i b hi => (by rw [glob_get] at hi; cases hi), fun i j b c L M hi => (by rw [glob_get] at hi; cases hi), fun i L hL => (by cases hL), fun i L hL => (by cases hL),
    fun k hk => ⟨h k hk, fun ⟨i, c, L, hi, _⟩ => (by rw [glob_get] at hi; cases hi)⟩⟩

theorem rel_empty (w : World) : Rel noRen emptyHeap w.heap :=
  ⟨fun i b hi => (by rw [empty_get] at hi; cases hi), fun i j b c L M hi => (by rw [empty_get] at hi; cases hi), fun i L hL => (by cases hL), fun i L hL => (by cases hL), fun k hk => (by cases hk)⟩

theorem Ext.below {ρ ρ' : Ren} {h h' : Heap} {w w' : World} (X : Ext ρ h w ρ' h' w') (hn : ∀ i, h.get i = none) : Below w.heap.size w w' :=
  ⟨X.os, X.tape, X.output, X.size, fun k hk => (X.keep k hk fun ⟨i, b, L, hi, _⟩ => (by rw [hn i] at hi; cases hi)).1⟩

/-- A call without arguments that answers true, and touches nothing. -/
def TrueCall (P : Program) (gs : List Nat) (f : Nat) : Prop := ∀ w : World, (∀ g ∈ gs, GlobAt w.heap g) → Calls P f #[] w fun e w' => e = .returned (.bool true) ∧ Below w.heap.size w w'

theorem trueCall {P : Program} {env : Env} (hP : PrimOk P env) (E : EnvOk P env) (hm : P.follows .mixedOrders = true) {k f : Nat} {gs : List Nat} (hr : isTrue (callFn env (run env k) f [] (globHeap gs)) = true) : TrueCall P gs f := by
  intro w hg
  obtain ⟨h', e⟩ := isTrue_ok hr
  refine Calls.mono (call_sound hP E hm e (rel_glob hg) (.nil noRen)) fun e w' ⟨ρ', v', he, _, X, hv⟩ => ?_
  cases hv
  exact ⟨he, X.below (glob_get gs)⟩

/-- Such a call as a step. -/
def pTrue (gs : List Nat) : Prim := fun args h =>
  match args with
  | [] => (R.must (gs.all fun g => h.glob.any fun k => Nat.beq k g) "the librarys variables").b fun _ => .ok (.bool true, h)
  | _ => .no "arguments"

theorem pTrue_ok {P : Program} {f : Nat} {gs : List Nat} (T : TrueCall P gs f) {ρ : Ren} {args args' : List Value} {h h' : Heap} {v : Value} (hq : pTrue gs args h = .ok (v, h')) {w : World} (K : Rel ρ h w.heap) (ra : LRel ρ args args') : Contract P f args' w ρ h v h' := by
  unfold pTrue at hq
  split at hq
  · obtain ⟨_, h1, h2⟩ := R.b_ok hq
    cases h2
    have h1 := R.must_ok h1
    rw [List.all_eq_true] at h1
    cases ra.nil_inv
    refine Calls.mono (T w fun g hg => ?_) fun e w' ⟨he, hB⟩ => ?_
    case refine_2 =>
      obtain ⟨k1, k2⟩ := K.below hB
      exact ⟨ρ, _, he, k1, k2, .bool true⟩
    case refine_1 =>
      obtain ⟨k, hk, e⟩ := List.any_eq_true.1 (h1 g hg)
      cases Nat.eq_of_beq_eq_true e
      exact (K.glob _ hk).1
  · cases hq

end Go.G

/- G: a call at a known heap, kept as a step. -/
namespace Go.G

def entEq (a b : MapEntry) : Bool := vEq 8 a.key b.key && vEq 8 a.val b.val && Nat.beq a.born b.born

def entsEq : List MapEntry → List MapEntry → Bool
  | [], [] => true
  | a :: x, b :: y => entEq a b && entsEq x y
  | _, _ => false

def natsEq : List Nat → List Nat → Bool
  | [], [] => true
  | a :: x, b :: y => Nat.beq a b && natsEq x y
  | _, _ => false

def blkEq : Blk → Blk → Bool
  | .cells e c, .cells f d => Nat.beq e f && vEqs (vEq 8) c d
  | .map es k, .map fs l => Nat.beq k l && entsEq es fs
  | .strIter s p, .strIter t q => bytesEq s t && Nat.beq p q
  | .mapIter none a s b, .mapIter none c t d => Nat.beq a c && natsEq s t && Nat.beq b d
  | .mapIter (some m) a s b, .mapIter (some n) c t d => Nat.beq m n && Nat.beq a c && natsEq s t && Nat.beq b d
  | _, _ => false

theorem entEq_ok {a b : MapEntry} (h : entEq a b = true) : a = b := by
  obtain ⟨k, v, n⟩ := a
  obtain ⟨k', v', n'⟩ := b
  unfold entEq at h
  simp only [Bool.and_eq_true] at h
  obtain ⟨⟨h1, h2⟩, h3⟩ := h
  cases vEq_ok _ _ _ h1
  cases vEq_ok _ _ _ h2
  cases Nat.eq_of_beq_eq_true h3
  rfl

theorem entsEq_ok : ∀ {x y : List MapEntry}, entsEq x y = true → x = y
  | [], [], _ => rfl
  | a :: x, b :: y, h => by
    simp only [entsEq, Bool.and_eq_true] at h
    rw [entEq_ok h.1, entsEq_ok h.2]
  | [], _ :: _, h => by cases h
  | _ :: _, [], h => by cases h

theorem natsEq_ok : ∀ {x y : List Nat}, natsEq x y = true → x = y
  | [], [], _ => rfl
  | a :: x, b :: y, h => by
    simp only [natsEq, Bool.and_eq_true] at h
    rw [Nat.eq_of_beq_eq_true h.1, natsEq_ok h.2]
  | [], _ :: _, h => by cases h
  | _ :: _, [], h => by cases h

theorem bytesEq_ok {a b : ByteArray} (h : bytesEq a b = true) : a = b := by
  obtain ⟨⟨a⟩⟩ := a
  obtain ⟨⟨b⟩⟩ := b
  unfold bytesEq at h
  have := eq_of_beq h
  simp only at this
  rw [this]

theorem blkEq_ok {a b : Blk} (h : blkEq a b = true) : a = b := by
  unfold blkEq at h
  split at h
  · simp only [Bool.and_eq_true] at h
    rw [Nat.eq_of_beq_eq_true h.1, vEqs_ok (vEq_ok 8) h.2]
  · simp only [Bool.and_eq_true] at h
    rw [Nat.eq_of_beq_eq_true h.1, entsEq_ok h.2]
  · simp only [Bool.and_eq_true] at h
    rw [bytesEq_ok h.1, Nat.eq_of_beq_eq_true h.2]
  · simp only [Bool.and_eq_true] at h
    rw [Nat.eq_of_beq_eq_true h.1.1, natsEq_ok h.1.2, Nat.eq_of_beq_eq_true h.2]
  · simp only [Bool.and_eq_true] at h
    rw [Nat.eq_of_beq_eq_true h.1.1.1, Nat.eq_of_beq_eq_true h.1.1.2, natsEq_ok h.1.2, Nat.eq_of_beq_eq_true h.2]
  · cases h

def mS (l : List UInt8) : Value := .string ⟨⟨l⟩⟩
def mU8 (l : List Int) : List Value := l.map fun n => .int .u8 n

/-- What a call does at a heap: ahead, and behind. -/
structure Memo where
  glob : List Nat
  args : List Value
  n0 : Nat
  pre : List (Nat × Blk)
  v : Value
  n1 : Nat
  post : List (Nat × Blk)

def puts : List (Nat × Blk) → Tree Blk → Tree Blk
  | [], t => t
  | p :: l, t => puts l (t.put p.1 (some p.2))

def drops : List (Nat × Blk) → Tree Blk → Tree Blk
  | [], t => t
  | p :: l, t => drops l (t.put p.1 none)

def Memo.heap (m : Memo) : Heap := { t := puts m.pre .leaf, next := m.n0, glob := m.glob }

def hasIn (h : Heap) (l : List (Nat × Blk)) : Bool := l.all fun p => match h.get p.1 with | some b => blkEq b p.2 | none => false

def Memo.at (m : Memo) (r : R (Value × Heap)) : Bool :=
  match r with
  | .ok (v, h) => vEq 8 v m.v && Nat.beq h.next m.n1 && hasIn h m.post
  | .no _ => false

def Memo.step (m : Memo) : Prim := fun args h =>
  cond (Nat.beq h.next m.n0 && vEqs (vEq 8) args m.args && hasIn h m.pre && natsEq h.glob m.glob)
    (.ok (m.v, { t := puts m.post (drops m.pre h.t), next := m.n1, glob := h.glob })) (.no "memo")

open Classical in
theorem drops_get : ∀ (l : List (Nat × Blk)) (t : Tree Blk) (i : Nat), (drops l t).get i = if (∃ b, (i, b) ∈ l) then none else t.get i
  | [], t, i => by simp [drops]
  | p :: l, t, i => by
    rw [drops, drops_get l, Tree.get_put]
    obtain ⟨j, c⟩ := p
    by_cases h : ∃ b, (i, b) ∈ l
    · rw [if_pos h, if_pos]
      obtain ⟨b, hb⟩ := h
      exact ⟨b, List.mem_cons_of_mem _ hb⟩
    · rw [if_neg h]
      by_cases e : i = j
      · subst e
        rw [if_pos rfl, if_pos ⟨c, List.mem_cons_self⟩]
      · rw [if_neg e, if_neg]
        rintro ⟨b, hb⟩
        cases hb with
        | head => exact e rfl
        | tail _ hb => exact h ⟨b, hb⟩

theorem puts_get : ∀ (l : List (Nat × Blk)) (t : Tree Blk) (i : Nat), (∃ b, (i, b) ∈ l ∧ (puts l t).get i = some b) ∨ ((∀ b, (i, b) ∉ l) ∧ (puts l t).get i = t.get i)
  | [], t, i => .inr ⟨fun _ => List.not_mem_nil, rfl⟩
  | p :: l, t, i => by
    obtain ⟨j, c⟩ := p
    rw [puts]
    rcases puts_get l (t.put j (some c)) i with ⟨b, h1, h2⟩ | ⟨h1, h2⟩
    · exact .inl ⟨b, List.mem_cons_of_mem _ h1, h2⟩
    · rw [Tree.get_put] at h2
      by_cases e : i = j
      · subst e
        rw [if_pos rfl] at h2
        exact .inl ⟨c, List.mem_cons_self, h2⟩
      · rw [if_neg e] at h2
        refine .inr ⟨fun b hb => ?_, h2⟩
        cases hb with
        | head => exact e rfl
        | tail _ hb => exact h1 b hb

theorem hasIn_ok {h : Heap} {l : List (Nat × Blk)} (q : hasIn h l = true) {i : Nat} {b : Blk} (hm : (i, b) ∈ l) : h.get i = some b := by
  have := List.all_eq_true.1 q _ hm
  simp only at this
  split at this
  · rename_i c hc
    rw [hc, blkEq_ok this]
  · cases this

variable {P : Program} {env : Env} {ρ : Ren}

theorem memo_ok (hP : PrimOk P env) (E : EnvOk P env) (hm : P.follows .mixedOrders = true) {k f : Nat} {m : Memo} (hr : m.at (callFn env (run env k) f m.args m.heap) = true)
    {args args' : List Value} {h h' : Heap} {v : Value} {w : World} (hq : m.step args h = .ok (v, h')) (K : Rel ρ h w.heap) (ra : LRel ρ args args') :
    Contract P f args' w ρ h v h' := by
  unfold Memo.step at hq
  cases hc : (Nat.beq h.next m.n0 && vEqs (vEq 8) args m.args && hasIn h m.pre && natsEq h.glob m.glob) with
  | false => rw [hc] at hq; cases hq
  | true =>
  rw [hc] at hq
  cases hq
  simp only [Bool.and_eq_true] at hc
  obtain ⟨⟨⟨c1, c2⟩, c3⟩, c4⟩ := hc
  have c4 := natsEq_ok c4
  have c1 := Nat.eq_of_beq_eq_true c1
  cases vEqs_ok (vEq_ok 8) c2
  unfold Memo.at at hr
  split at hr
  case h_2 => cases hr
  rename_i v1 h1 e
  simp only [Bool.and_eq_true] at hr
  obtain ⟨⟨d1, d2⟩, d3⟩ := hr
  cases vEq_ok _ _ _ d1
  have d2 := Nat.eq_of_beq_eq_true d2
  have pre_of : ∀ i b, m.heap.get i = some b → (i, b) ∈ m.pre := by
    intro i b hi
    rcases puts_get m.pre .leaf i with ⟨c, g1, g2⟩ | ⟨_, g2⟩
    · have : m.heap.get i = some c := g2
      rw [hi] at this
      cases this
      exact g1
    · have : m.heap.get i = none := g2
      rw [hi] at this
      cases this
  have of_pre : ∀ i b, (i, b) ∈ m.pre → ∃ c, m.heap.get i = some c := by
    intro i b hi
    rcases puts_get m.pre .leaf i with ⟨c, g1, g2⟩ | ⟨g1, _⟩
    · exact ⟨c, g2⟩
    · exact (g1 b hi).elim
  have low : ∀ i b, m.heap.get i = some b → h.get i = some b := fun i b hi => hasIn_ok c3 (pre_of i b hi)
  have live0 : ∀ b, LiveB ρ m.heap b → LiveB ρ h b := fun b ⟨i, c, L, g1, g2, g3⟩ => ⟨i, c, L, low i c g1, g2, g3⟩
  have K0 : Rel ρ m.heap w.heap := ⟨fun i b hi => K.live i b (low i b hi), fun i j b c L M hi hj => K.inj i j b c L M (low i b hi) (low j c hj),
    fun i L hL => (by have := K.dom i L hL; rw [c1] at this; exact this), K.low, fun g hg => (by
      have hg : g ∈ m.glob := hg
      rw [← c4] at hg
      obtain ⟨g1, g2⟩ := K.glob g hg
      exact ⟨g1, fun hv => g2 (live0 g hv)⟩)⟩
  refine Calls.mono (call_sound hP E hm e K0 ra) fun e w' ⟨ρ', v', he, K1, X, hv⟩ => ?_
  have look : ∀ i b, (⟨puts m.post (drops m.pre h.t), m.n1, h.glob⟩ : Heap).get i = some b → h1.get i = some b ∨ (h.get i = some b ∧ ∀ c, m.heap.get i ≠ some c) := by
    intro i b hi
    have hi : (puts m.post (drops m.pre h.t)).get i = some b := hi
    rcases puts_get m.post (drops m.pre h.t) i with ⟨c, g1, g2⟩ | ⟨_, g2⟩
    · rw [g2] at hi
      cases hi
      exact .inl (hasIn_ok d3 g1)
    · rw [g2, drops_get] at hi
      split at hi
      · cases hi
      · rename_i hn
        refine .inr ⟨hi, fun c hc => hn ⟨c, pre_of i c hc⟩⟩
  have kept : ∀ i b, h.get i = some b → (∀ c, m.heap.get i ≠ some c) → ∃ L o, ρ i = some L ∧ w'.heap[L.b]? = some o ∧ BlkRel ρ L b o ∧ ρ' i = some L ∧ ¬LiveB ρ' h1 L.b ∧ L.b < w.heap.size := by
    intro i b hi hn
    obtain ⟨L, o, g1, g2, g3⟩ := K.live i b hi
    have hl : ¬LiveB ρ m.heap L.b := by
      rintro ⟨j, c, M, j1, j2, j3⟩
      cases K.inj j i c b M L (low j c j1) hi j2 g1 j3
      exact hn c j1
    obtain ⟨k1, k2⟩ := X.keep L.b (K.low i L g1) hl
    exact ⟨L, o, g1, by rw [k1]; exact g2, g3, X.sub _ _ g1, k2, K.low i L g1⟩
  have keep : ∀ b, b < w.heap.size → ¬LiveB ρ h b → w'.heap[b]? = w.heap[b]? ∧ ¬LiveB ρ' (⟨puts m.post (drops m.pre h.t), m.n1, h.glob⟩ : Heap) b := by
    intro b hb hl
    obtain ⟨k1, k2⟩ := X.keep b hb fun g => hl (live0 b g)
    refine ⟨k1, ?_⟩
    rintro ⟨i, c, L, g1, g2, g3⟩
    rcases look i c g1 with g | ⟨g4, g5⟩
    · exact k2 ⟨i, c, L, g, g2, g3⟩
    · obtain ⟨N, o, n1, _, _, k4, _, _⟩ := kept i c g4 g5
      rw [g2] at k4; cases k4
      exact hl ⟨i, c, L, g4, n1, g3⟩
  refine ⟨ρ', v', he, ⟨?_, ?_, ?_, K1.low, K.glob_keep rfl keep⟩, ⟨X.sub, ?_, X.size, keep, X.os, X.tape, X.output, ?_, rfl⟩, hv⟩
  · intro i b hi
    rcases look i b hi with g | ⟨g1, g2⟩
    · exact K1.live i b g
    · obtain ⟨L, o, _, k2, k3, k4, _⟩ := kept i b g1 g2
      exact ⟨L, o, k4, k2, k3.mono X.sub⟩
  · intro i j b c L M hi hj hL hM hLM
    rcases look i b hi with g | ⟨g1, g2⟩
    · rcases look j c hj with g' | ⟨g1', g2'⟩
      · exact K1.inj i j b c L M g g' hL hM hLM
      · obtain ⟨N, o, _, _, _, k4, k5, _⟩ := kept j c g1' g2'
        rw [hM] at k4; cases k4
        exact (k5 ⟨i, b, L, g, hL, hLM⟩).elim
    · obtain ⟨N, o, n1, _, _, k4, k5, _⟩ := kept i b g1 g2
      rw [hL] at k4; cases k4
      rcases look j c hj with g' | ⟨g1', g2'⟩
      · exact (k5 ⟨j, c, M, g', hM, hLM.symm⟩).elim
      · obtain ⟨N', o', n1', _, _, k4', _, _⟩ := kept j c g1' g2'
        rw [hM] at k4'; cases k4'
        exact K.inj i j b c L M g1 g1' n1 n1' hLM
  · intro i L hL
    have := K1.dom i L hL
    rw [d2] at this
    exact this
  · have := X.next
    show h.next ≤ m.n1
    rw [← d2, c1]
    exact this
  · intro i hi
    exact X.old i (by rw [c1] at hi; exact hi)

/-- A call that is known. -/
def MemoOk (P : Program) (f : Nat) (m : Memo) : Prop :=
  ∀ (args args' : List Value) (h h' : Heap) (v : Value) (w : World) (ρ : Ren), m.step args h = .ok (v, h') → Rel ρ h w.heap → LRel ρ args args' → Contract P f args' w ρ h v h'

def MemosOk (P : Program) (f : Nat) : List Memo → Prop
  | [] => True
  | m :: l => MemoOk P f m ∧ MemosOk P f l

theorem MemosOk.of {f : Nat} : ∀ {l : List Memo}, MemosOk P f l → ∀ m ∈ l, MemoOk P f m
  | [], _, m, h => by cases h
  | a :: l, hl, m, h => by
    cases h with
    | head => exact hl.1
    | tail _ h => exact MemosOk.of hl.2 m h

theorem memoOk (hP : PrimOk P env) (E : EnvOk P env) (hm : P.follows .mixedOrders = true) {k f : Nat} {m : Memo} (hr : m.at (callFn env (run env k) f m.args m.heap) = true) : MemoOk P f m :=
  fun _ _ _ _ _ _ _ hq K ra => memo_ok hP E hm hr hq K ra

/-- A function of which some calls are known. -/
def memoPrim (env : Env) (k f : Nat) (l : List Memo) : Prim := fun args h =>
  match l.find? (fun m => Nat.beq m.n0 h.next) with
  | some m => m.step args h
  | none => callFn env (run env k) f args h

theorem memoPrim_ok (hP : PrimOk P env) (E : EnvOk P env) (hm : P.follows .mixedOrders = true) {k f : Nat} {l : List Memo} (hl : MemosOk P f l)
    {args args' : List Value} {h h' : Heap} {v : Value} {w : World} (hq : memoPrim env k f l args h = .ok (v, h')) (K : Rel ρ h w.heap) (ra : LRel ρ args args') :
    Contract P f args' w ρ h v h' := by
  unfold memoPrim at hq
  split at hq
  · rename_i m he
    exact hl.of m (List.mem_of_find?_eq_some he) _ _ _ _ _ _ _ hq K ra
  · exact call_sound hP E hm hq K ra
end Go.G

/- G: the library's functions on strings that it cannot run by their bodies, as steps. -/
namespace Go.G
open Go.RowKit

def bytesV : Value → R (List UInt8)
  | .string s => .ok s.data.toList
  | _ => .no "string expected"

def mapR {α β : Type} (f : α → R β) : List α → R (List β)
  | [] => .ok []
  | a :: l => (f a).b fun b => (mapR f l).b fun r => .ok (b :: r)

def pSortedL (fs : List Nat) : Prim := fun args h =>
  match args with
  | [.func (.func f) _ _] => cond (fs.any fun k => Nat.beq k f) (pSortedK f args h) (.no "sorted iterator")
  | _ => .no "sorted"

def pJoin : Prim := fun args h =>
  match args with
  | [.slice none 0 0, .string _] => .ok (.string ⟨#[]⟩, h)
  | [.slice (some a) n _, .string sep] =>
    cond (Nat.beq n 0) (.ok (.string ⟨#[]⟩, h))
    ((h.read a n).b fun cs => (mapR bytesV cs).b fun xs =>
    let r := Lib.join xs sep.data.toList
    (R.must (Nat.ble r.length 140737488355328 && Nat.ble n 140737488355328) "join too long").b fun _ =>
    .ok (.string ⟨⟨r⟩⟩, h))
  | _ => .no "join"

def pReplace (g : Nat) : Prim := fun args h =>
  match args with
  | [.string s, .string old, .string new, .int .i64 n] =>
    (R.must (h.glob.any fun p => Nat.beq p g) "replace the librarys variable").b fun _ =>
    (R.must (Nat.blt s.data.toList.length 4294967281 && Nat.ble 1 old.data.toList.length &&
      Nat.ble (s.data.toList.length + Lib.count s.data.toList old.data.toList * new.data.toList.length) 140737488355328) "replace too long").b fun _ =>
    .ok (.string ⟨⟨Lib.replace s.data.toList old.data.toList new.data.toList n⟩⟩, h)
  | _ => .no "replace"

def pCount1 : Prim := fun args h =>
  match args with
  | [.string s, .string ⟨⟨[c]⟩⟩] => .ok (.int .i64 (Lib.countByte s.data.toList c), h)
  | _ => .no "count"

def pIndex1 : Prim := fun args h =>
  match args with
  | [.string s, .string ⟨⟨[c]⟩⟩] => .ok (.int .i64 (Lib.indexByte s.data.toList c), h)
  | _ => .no "index"

structure JoinAt (P : Program) (f : Nat) : Prop where
  none_ : ∀ (a : Option Addr) (c : Nat) (sep : ByteArray) (w : World), Calls P f #[.slice a 0 c, .string sep] w fun e w' => e = .returned (.string ⟨#[]⟩) ∧ w' = w
  some_ : ∀ (bk o c : Nat) (xs : List ByteArray) (sep : ByteArray) (w : World), (∀ (j : Nat) x, xs[j]? = some x → w.cell? ⟨bk, o + j, none⟩ = some (.string x)) →
    bk < w.heap.size → xs.length ≤ 140737488355328 → xs.length ≤ c → (Lib.join (xs.map (·.data.toList)) sep.data.toList).length ≤ 140737488355328 →
    Calls P f #[.slice (some ⟨bk, o, none⟩) xs.length c, .string sep] w fun e w' => e = .returned (.string ⟨(Lib.join (xs.map (·.data.toList)) sep.data.toList).toArray⟩) ∧ Below w.heap.size w w'

def ReplaceAt (P : Program) (f g : Nat) : Prop :=
  ∀ (s old new : ByteArray) (n m : Int) (w : World), s.size < 4294967281 → w.cell? ⟨g, 0, none⟩ = some (.int .i64 m) → 1 ≤ old.size → s.size + Lib.countB s old * new.size ≤ 140737488355328 →
    Calls P f #[.string s, .string old, .string new, .int .i64 n] w fun e w' =>
      e = .returned (.string ⟨(Lib.replace s.data.toList old.data.toList new.data.toList n).toArray⟩) ∧ Below w.heap.size w w'

def Count1At (P : Program) (f : Nat) : Prop :=
  ∀ (s : ByteArray) (c : UInt8) (w : World), Calls P f #[.string s, .string ⟨#[c]⟩] w fun e w' => e = .returned (.int .i64 (Lib.countByte s.data.toList c)) ∧ w' = w

def Index1At (P : Program) (f : Nat) : Prop :=
  ∀ (s : ByteArray) (c : UInt8) (w : World), Calls P f #[.string s, .string ⟨#[c]⟩] w fun e w' => e = .returned (.int .i64 (Lib.indexByte s.data.toList c)) ∧ w' = w

variable {P : Program} {ρ : Ren}

theorem same_ok {f : Nat} {args' : List Value} {w : World} {h : Heap} {v : Value} (K : Rel ρ h w.heap) (rv : VRel ρ v v) (H : Calls P f ⟨args'⟩ w fun e w' => e = .returned v ∧ w' = w) :
    Contract P f args' w ρ h v h :=
  Calls.mono H fun e w' ⟨he, hw⟩ => by subst hw; exact ⟨ρ, _, he, K, Ext.refl ρ h w', rv⟩

theorem below_ok {f : Nat} {args' : List Value} {w : World} {h : Heap} {v : Value} (K : Rel ρ h w.heap) (rv : VRel ρ v v) (H : Calls P f ⟨args'⟩ w fun e w' => e = .returned v ∧ Below w.heap.size w w') :
    Contract P f args' w ρ h v h :=
  Calls.mono H fun e w' ⟨he, hB⟩ => by
    obtain ⟨k1, k2⟩ := K.below hB
    exact ⟨ρ, _, he, k1, k2, rv⟩

theorem sortedL_ok {fS : Nat} {fs : List Nat} (C : ∀ f ∈ fs, SortedAt P fS f) (u9 : P.underlying 9 = some .string) {args args' : List Value} {h h' : Heap} {v : Value} (hq : pSortedL fs args h = .ok (v, h')) {w : World} (K : Rel ρ h w.heap) (ra : LRel ρ args args') : Contract P fS args' w ρ h v h' := by
  unfold pSortedL at hq
  split at hq
  · rename_i f _ _
    cases hc : fs.any fun k => Nat.beq k f with
    | false => rw [hc] at hq; cases hq
    | true =>
      rw [hc] at hq
      obtain ⟨k, hk, e⟩ := List.any_eq_true.1 hc
      cases Nat.eq_of_beq_eq_true e
      exact sorted_prim (C _ hk) u9 hq K ra
  · cases hq

theorem count1_ok {f : Nat} (C : Count1At P f) {args args' : List Value} {h h' : Heap} {v : Value} (hq : pCount1 args h = .ok (v, h')) {w : World} (K : Rel ρ h w.heap) (ra : LRel ρ args args') : Contract P f args' w ρ h v h' := by
  unfold pCount1 at hq
  split at hq
  · rename_i s c
    cases hq
    obtain ⟨a, l, rfl, r1, ra⟩ := ra.cons_inv
    obtain ⟨b, l, rfl, r2, ra⟩ := ra.cons_inv
    cases ra.nil_inv; cases r1; cases r2
    exact same_ok K (.int _ _) (C s c w)
  · cases hq

theorem index1_ok {f : Nat} (C : Index1At P f) {args args' : List Value} {h h' : Heap} {v : Value} (hq : pIndex1 args h = .ok (v, h')) {w : World} (K : Rel ρ h w.heap) (ra : LRel ρ args args') : Contract P f args' w ρ h v h' := by
  unfold pIndex1 at hq
  split at hq
  · rename_i s c
    cases hq
    obtain ⟨a, l, rfl, r1, ra⟩ := ra.cons_inv
    obtain ⟨b, l, rfl, r2, ra⟩ := ra.cons_inv
    cases ra.nil_inv; cases r1; cases r2
    exact same_ok K (.int _ _) (C s c w)
  · cases hq

theorem replace_ok {f g : Nat} (C : ReplaceAt P f g) {args args' : List Value} {h h' : Heap} {v : Value} (hq : pReplace g args h = .ok (v, h')) {w : World} (K : Rel ρ h w.heap) (ra : LRel ρ args args') : Contract P f args' w ρ h v h' := by
  unfold pReplace at hq
  split at hq
  case h_2 => cases hq
  rename_i s old new n
  obtain ⟨_, h1, q1⟩ := R.b_ok hq
  obtain ⟨_, h2, q2⟩ := R.b_ok q1
  cases q2
  have h1 := R.must_ok h1
  have h2 := R.must_ok h2
  simp only [Bool.and_eq_true, Nat.ble_eq, Nat.blt_eq] at h2
  obtain ⟨⟨g1, g2⟩, g3⟩ := h2
  obtain ⟨p, hp, hq⟩ := List.any_eq_true.1 h1
  cases Nat.eq_of_beq_eq_true hq
  obtain ⟨⟨arr, e, fr, m, w1, w2⟩, _⟩ := K.glob _ hp
  obtain ⟨a, l, rfl, r1, ra⟩ := ra.cons_inv
  obtain ⟨b, l, rfl, r2, ra⟩ := ra.cons_inv
  obtain ⟨c, l, rfl, r3, ra⟩ := ra.cons_inv
  obtain ⟨d, l, rfl, r4, ra⟩ := ra.cons_inv
  cases ra.nil_inv; cases r1; cases r2; cases r3; cases r4
  exact below_ok K (.string _) (C s old new n m w g1 (by rw [cell?_mk w1]; exact w2) g2 g3)

theorem mapR_bytes : ∀ {cs : List Value} {xs : List (List UInt8)}, mapR bytesV cs = .ok xs → ∃ ys : List ByteArray, ys.map (·.data.toList) = xs ∧ cs = ys.map .string
  | [], xs, h => by cases h; exact ⟨[], rfl, rfl⟩
  | v :: cs, xs, h => by
    obtain ⟨b, h1, h2⟩ := R.b_ok h
    obtain ⟨r, h3, h4⟩ := R.b_ok h2
    cases h4
    obtain ⟨ys, h5, h6⟩ := mapR_bytes h3
    unfold bytesV at h1
    split at h1
    · rename_i s
      cases h1
      exact ⟨s :: ys, by simp [h5], by simp [h6]⟩
    · cases h1

theorem readN_get : ∀ {n : Nat} {cs l : List Value}, readN n cs = .ok l → l.length = n ∧ ∀ (i : Nat) (v : Value), l[i]? = some v → cs[i]? = some v
  | 0, cs, l, h => by cases h; exact ⟨rfl, fun i v h => by simp at h⟩
  | n + 1, [], l, h => by cases h
  | n + 1, c :: cs, l, h => by
    obtain ⟨r, h1, h2⟩ := R.b_ok h
    cases h2
    obtain ⟨e, g⟩ := readN_get h1
    refine ⟨by simp [e], fun i v hi => ?_⟩
    cases i with
    | zero => exact hi
    | succ i => exact g i v hi

theorem join_ok {f : Nat} (C : JoinAt P f) {args args' : List Value} {h h' : Heap} {v : Value} (hq : pJoin args h = .ok (v, h')) {w : World} (K : Rel ρ h w.heap) (ra : LRel ρ args args') : Contract P f args' w ρ h v h' := by
  unfold pJoin at hq
  split at hq
  · rename_i sep
    cases hq
    obtain ⟨a, l, rfl, r1, ra⟩ := ra.cons_inv
    obtain ⟨b, l, rfl, r2, ra⟩ := ra.cons_inv
    cases ra.nil_inv; cases r1; cases r2
    exact same_ok K (.string _) (C.none_ none 0 sep w)
  · rename_i ad n c0 sep
    obtain ⟨a, l, rfl, r1, ra⟩ := ra.cons_inv
    obtain ⟨b, l, rfl, r2, ra⟩ := ra.cons_inv
    cases ra.nil_inv; cases r2
    cases hn : Nat.beq n 0 with
    | true =>
      rw [hn] at hq
      cases hq
      cases Nat.eq_of_beq_eq_true hn
      cases r1 with
      | slice _ _ _ _ => exact same_ok K (.string _) (C.none_ _ _ sep w)
      | flex _ _ _ _ => exact same_ok K (.string _) (C.none_ _ _ sep w)
    | false =>
      rw [hn] at hq
      have hn0 : n ≠ 0 := fun e => by subst e; cases hn
      obtain ⟨cs, h1, q1⟩ := R.b_ok hq
      obtain ⟨xs, h2, q2⟩ := R.b_ok q1
      obtain ⟨_, h3, q3⟩ := R.b_ok q2
      cases q3
      have h3 := R.must_ok h3
      simp only [Bool.and_eq_true, Nat.ble_eq] at h3
      obtain ⟨ys, rfl, rfl⟩ := mapR_bytes h2
      have key : ∀ (i off c' : Nat) (L : Loc) (a : Addr), ad = ⟨i, off, none⟩ → ρ i = some L → n ≤ c' → (a = ⟨L.b, L.base + off, none⟩ ∨ c' = 0) →
          Contract P f [.slice (some a) n c', .string sep] w ρ h (.string ⟨⟨Lib.join (ys.map (·.data.toList)) sep.data.toList⟩⟩) h := by
        intro i off c' L a e hL hc ha
        subst e
        rcases ha with rfl | rfl
        · unfold Heap.read at h1
          simp only at h1
          obtain ⟨p, h4, h5⟩ := R.b_ok h1
          obtain ⟨e1, e2⟩ := readN_get h5
          obtain ⟨L', o, g1, g2, g3⟩ := K.live _ _ (Heap.cells_ok h4)
          rw [hL] at g1; cases g1
          cases g3 with
          | @cells _ _ arr e lo hi hs he hf hb hc' =>
          rw [List.length_map] at e1
          subst e1
          refine below_ok K (.string _) (C.some_ L.b (L.base + off) c' ys sep w (fun j x hx => ?_) (K.low _ _ hL) h3.2 hc h3.1)
          have := e2 j (.string x) (by rw [List.getElem?_map, hx]; rfl)
          rw [List.getElem?_drop] at this
          obtain ⟨v', w1, w2⟩ := hc' _ _ this
          cases w2
          rw [cell?_mk g2, Nat.add_assoc]
          exact w1
        · exact absurd (Nat.le_zero.1 hc) hn0
      cases r1 with
      | slice hL hc hn ha => exact key _ _ _ _ _ rfl hL hn ha
      | flex hL hc hn ha => exact key _ _ _ _ _ rfl hL hn ha
  · cases hq
end Go.G
