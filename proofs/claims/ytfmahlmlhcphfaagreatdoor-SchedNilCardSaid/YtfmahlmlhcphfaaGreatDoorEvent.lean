/- What an event's cells are. -/
import Derived.Test.YtfmahlmlhcphfaaGreatDoorSched
import Derived.Test.YtfmahlmlhcphfaaGreatDoorRows
namespace Go.Proofs.YtfmahlmlhcphfaaGreatDoor
open Go.G Go.RowKit

section
variable {P : Program} {w : World} {base : Nat} {t : TypeId} {v : Value}

theorem cell_int {k : IntKind} (u : P.underlying t = some (.int k)) (h : Cell.okWide P w .any base t v) : ∃ n, v = .int k n := by
  unfold Cell.okWide Cell.ok at h
  simp only [u] at h
  cases v <;> simp at h
  exact ⟨_, by rw [h.1]⟩

theorem cell_bool (u : P.underlying t = some .bool) (h : Cell.okWide P w .any base t v) : ∃ b, v = .bool b := by
  unfold Cell.okWide Cell.ok at h
  simp only [u] at h
  cases v <;> simp at h
  exact ⟨_, rfl⟩

theorem cell_string (u : P.underlying t = some .string) (h : Cell.okWide P w .any base t v) : ∃ s, v = .string s := by
  unfold Cell.okWide Cell.ok at h
  simp only [u] at h
  cases v <;> simp at h
  exact ⟨_, rfl⟩

theorem cell_slice {e : TypeId} (u : P.underlying t = some (.slice e)) (h : Cell.okWide P w .any base t v) : ∃ p m c, v = .slice p m c ∧ SliceIn w p m c := by
  unfold Cell.okWide Cell.ok at h
  simp only [u] at h
  cases v <;> simp at h
  rename_i p m c
  refine ⟨p, m, c, rfl, ?_⟩
  cases p with
  | none =>
    cases m with
    | zero =>
      cases c with
      | zero => exact .inl ⟨rfl, rfl, rfl⟩
      | succ c => exact h.elim
    | succ m => exact h.elim
  | some a =>
    obtain ⟨h1, h2, _, h3, row, cells, h4, _⟩ := h
    obtain ⟨b, off, sp⟩ := a
    cases h3
    refine .inr ⟨b, off, rfl, ?_, h1, by unfold flexCap; omega⟩
    unfold World.shape? at h4
    split at h4
    · rename_i e
      exact (Array.getElem?_eq_some_iff.1 e).1
    · cases h4
end

theorem cells14 {cs : Array Value} (h : cs.size = 14) : ∃ a b c d e f g i j k l m n o, cs = ⟨[a, b, c, d, e, f, g, i, j, k, l, m, n, o]⟩ := by
  obtain ⟨l⟩ := cs
  match l, h with
  | [a, b, c, d, e, f, g, i, j, k, l, m, n, o], _ => exact ⟨a, b, c, d, e, f, g, i, j, k, l, m, n, o, rfl⟩

set_option maxRecDepth 100000 in
set_option linter.constructorNameAsVariable false in
theorem event_shape {w : World} {base : Nat} {v : Value} (h : Value.okWide Tryz.prog w .any base 88 v) :
    ∃ (kd cl k : Int) (s1 s2 : ByteArray) (ad : Int) (p : Option Addr) (m c : Nat) (n : Int) (b1 b2 : Bool) (na nb : Int) (N : Int) (kp : Option Addr) (km kc : Nat),
      v = evV kd cl k s1 s2 ad p m c n b1 b2 na nb N kp km kc ∧ SliceIn w p m c ∧ SliceIn w kp km kc := by
  unfold Value.okWide at h
  rw [Tryz.underlying88] at h
  obtain ⟨cs, rfl, hsz, ts, hts, _, hc⟩ := h
  have e1 : Tryz.prog.cellsOf 88 = 14 := by kernel_rfl
  have e2 : Tryz.prog.cellTypes Tryz.prog.depth 88 = some [3, 3, 3, 9, 9, 24, 29, 3, 4, 4, 24, 3, 3, 86] := by kernel_rfl
  rw [e1] at hsz
  rw [e2] at hts
  cases hts
  obtain ⟨a, b, c, d, e, f, g, i, j, k, l, m, n, o, rfl⟩ := cells14 hsz
  have at_ : ∀ (q : Nat) (v : Value) (u : TypeId), (⟨[a, b, c, d, e, f, g, i, j, k, l, m, n, o]⟩ : Array Value)[q]? = some v → [3, 3, 3, 9, 9, 24, 29, 3, 4, 4, 24, 3, 3, 86][q % 14]? = some u → Cell.okWide Tryz.prog w .any base u v := by
    intro q v u hq hu
    obtain ⟨u', h1, h2⟩ := hc q v hq
    have : [3, 3, 3, 9, 9, 24, 29, 3, 4, 4, 24, 3, 3, 86][q % 14]? = some u' := h1
    rw [hu] at this
    cases this
    exact h2
  obtain ⟨x0, rfl⟩ := cell_int Tryz.underlying3 (at_ 0 a 3 rfl rfl)
  obtain ⟨x1, rfl⟩ := cell_int Tryz.underlying3 (at_ 1 b 3 rfl rfl)
  obtain ⟨x2, rfl⟩ := cell_int Tryz.underlying3 (at_ 2 c 3 rfl rfl)
  obtain ⟨x3, rfl⟩ := cell_string Tryz.underlying9 (at_ 3 d 9 rfl rfl)
  obtain ⟨x4, rfl⟩ := cell_string Tryz.underlying9 (at_ 4 e 9 rfl rfl)
  obtain ⟨x5, rfl⟩ := cell_int Tryz.underlying24 (at_ 5 f 24 rfl rfl)
  obtain ⟨p, pm, pc, rfl, hp⟩ := cell_slice Tryz.underlying29 (at_ 6 g 29 rfl rfl)
  obtain ⟨x7, rfl⟩ := cell_int Tryz.underlying3 (at_ 7 i 3 rfl rfl)
  obtain ⟨x8, rfl⟩ := cell_bool Tryz.underlying4 (at_ 8 j 4 rfl rfl)
  obtain ⟨x9, rfl⟩ := cell_bool Tryz.underlying4 (at_ 9 k 4 rfl rfl)
  obtain ⟨y0, rfl⟩ := cell_int Tryz.underlying24 (at_ 10 l 24 rfl rfl)
  obtain ⟨y1, rfl⟩ := cell_int Tryz.underlying3 (at_ 11 m 3 rfl rfl)
  obtain ⟨y2, rfl⟩ := cell_int Tryz.underlying3 (at_ 12 n 3 rfl rfl)
  obtain ⟨q, qm, qc, rfl, hq⟩ := cell_slice Tryz.underlying86 (at_ 13 o 86 rfl rfl)
  exact ⟨x0, x1, x2, x3, x4, x5, p, pm, pc, x7, x8, x9, y0, y1, y2, q, qm, qc, rfl, hp, hq⟩
end Go.Proofs.YtfmahlmlhcphfaaGreatDoor
