/- AutoNil: the walk whole, and the row. -/
import Derived.Test.YtfmahlmlhcphfaaGreatDoorAuto3b
import Derived.Test.YtfmahlmlhcphfaaGreatDoorAuto3c
import Derived.Test.YtfmahlmlhcphfaaGreatDoorAuto3d
import Derived.Test.YtfmahlmlhcphfaaGreatDoorAuto3e
import Derived.Test.YtfmahlmlhcphfaaGreatDoorWrap
import Derived.Test.YtfmahlmlhcphfaaGreatDoorFactsP
namespace Go.Proofs.YtfmahlmlhcphfaaGreatDoor
open Go.ChangeShapes Go.WideShapes Go.ChangeAt Go.RowKit Go.G

theorem autoNil_walk (h n : ByteArray) (N : Int) (b : Bool) (w : World) (hg : ∀ g ∈ [0], GlobAt w.heap g) (hh : h.size ≤ maxLen) (hn : n.size ≤ maxLen) :
    Calls Tryz.prog 5 #[.agg #[.string h, .string n, .int .i64 N, .bool b]] w fun e w' => e = .returned (.bool true) ∧ Below w.heap.size w w' := by
  cases h1 : nameOk n with
  | false => exact auto_a h n N b w hg hh hn h1
  | true =>
    cases h2 : nameOk h with
    | false => exact auto_b h n N b w hg hh hn h1 h2
    | true =>
      by_cases h3 : N < 1
      · exact auto_c h n N b w hg hh hn h1 h2 h3
      · by_cases h4 : 4096 < N
        · exact auto_d h n N b w hg hh hn h1 h2 h4
        · exact auto_e h n N b w hg hh hn h1 h2 (by omega) (by omega)
#print axioms autoNil_walk

section
variable {P : Program} {w : World} {base : Nat} {t : TypeId} {v : Value}

theorem wcell_int {k : IntKind} (u : P.underlying t = some (.int k)) (h : Cell.okWide P w .any base t v) : ∃ n, v = .int k n := by
  unfold Cell.okWide Cell.ok at h
  simp only [u] at h
  cases v <;> simp at h
  exact ⟨_, by rw [h.1]⟩

theorem wcell_bool (u : P.underlying t = some .bool) (h : Cell.okWide P w .any base t v) : ∃ b, v = .bool b := by
  unfold Cell.okWide Cell.ok at h
  simp only [u] at h
  cases v <;> simp at h
  exact ⟨_, rfl⟩

theorem wcell_string (u : P.underlying t = some .string) (h : Cell.okWide P w .any base t v) : ∃ s, v = .string s ∧ s.size ≤ maxLen := by
  unfold Cell.okWide Cell.ok at h
  simp only [u] at h
  cases v <;> simp at h
  exact ⟨_, rfl, by unfold maxLen; omega⟩
end

theorem cells4 {cs : Array Value} (h : cs.size = 4) : ∃ a b c d, cs = ⟨[a, b, c, d]⟩ := by
  obtain ⟨l⟩ := cs
  match l, h with
  | [a, b, c, d], _ => exact ⟨a, b, c, d, rfl⟩

set_option maxRecDepth 100000 in
theorem want_shape {w : World} {base : Nat} {v : Value} (h : Value.okWide Tryz.prog w .any base 65 v) :
    ∃ (hd nd : ByteArray) (n : Int) (b : Bool), v = .agg #[.string hd, .string nd, .int .i64 n, .bool b] ∧ hd.size ≤ maxLen ∧ nd.size ≤ maxLen := by
  unfold Value.okWide at h
  rw [Tryz.underlying65] at h
  obtain ⟨cs, rfl, hsz, ts, hts, _, hc⟩ := h
  have e1 : Tryz.prog.cellsOf 65 = 4 := by kernel_rfl
  have e2 : Tryz.prog.cellTypes Tryz.prog.depth 65 = some [9, 9, 3, 4] := by kernel_rfl
  rw [e1] at hsz
  rw [e2] at hts
  cases hts
  obtain ⟨a, b, c, d, rfl⟩ := cells4 hsz
  have at_ : ∀ (q : Nat) (v : Value) (u : TypeId), (⟨[a, b, c, d]⟩ : Array Value)[q]? = some v → [9, 9, 3, 4][q % 4]? = some u → Cell.okWide Tryz.prog w .any base u v := by
    intro q v u hq hu
    obtain ⟨u', h1, h2⟩ := hc q v hq
    have : [9, 9, 3, 4][q % 4]? = some u' := h1
    rw [hu] at this
    cases this
    exact h2
  obtain ⟨x0, rfl, hx⟩ := wcell_string Tryz.underlying9 (at_ 0 a 9 rfl rfl)
  obtain ⟨x1, rfl, hy⟩ := wcell_string Tryz.underlying9 (at_ 1 b 9 rfl rfl)
  obtain ⟨x2, rfl⟩ := wcell_int Tryz.underlying3 (at_ 2 c 3 rfl rfl)
  obtain ⟨x3, rfl⟩ := wcell_bool Tryz.underlying4 (at_ 3 d 4 rfl rfl)
  exact ⟨x0, x1, x2, x3, rfl, hx, hy⟩

set_option maxRecDepth 100000 in
theorem auto_lifted (os : Os) (started : os.Started) (H : Type) (enc : TypeId × Value → H) :
    ReturnsInHanded {} Tryz.checked os 5 .any (fun w args => (Rows.autoNilSpec.pre enc Tryz.prog Tryz.f5 Rows.autoNilRow.domain false w args ∧ laidMetH Tryz.prog Rows.autoNilRow.laid w) ∧ sizedMet enc Tryz.prog Tryz.f5 (OpenSpec.ofChange Rows.autoNilSpec) false w args)
      (Rows.autoNilSpec.post enc Tryz.prog Tryz.f5 false true false false) := by
  refine wrap (C := Tryz.checked) (X := fun w _ => laidMetH Tryz.prog Rows.autoNilRow.laid w) (fun _ _ _ hh h => h.of_heap hh) own started (by kernel_rfl) Tryz.func5
    (ChangeSpec.witness_shaped (enc := enc) (C := Tryz.checked) (os := os) (X := fun w _ => laidMetH Tryz.prog Rows.autoNilRow.laid w) false (World.laidAll Tryz.prog os Rows.autoNilRow.laid) #[.agg #[.string ⟨#[]⟩, .string ⟨#[]⟩, .int .i64 0, .bool false]] 8 (World.laidAll_os _ _ _)
      (World.shaped_of_ZipB (by kernel_rfl) (by kernel_rfl)) (by kernel_rfl) (by kernel_rfl) (by kernel_rfl)
      (by rw [MakeChecks.laidMetH_plain _ _ _ (by kernel_rfl)]; exact laidMet_laidAll _ (by kernel_rfl) (by kernel_rfl))) ?_
  intro W base args ds gs before hval0 hW hsh _
  have hval : ∀ (j : Nat) t v, Tryz.f5.params[j]? = some t → args[j]? = some v → Value.okWide Tryz.prog W .any base t v := hval0
  have hW' := hW
  obtain ⟨p, q, hA0, hV, rfl, _, _⟩ := hW
  have hA : DataW.TrodAll enc Tryz.prog W 0 (fun _ => true) true Tryz.f5.params.toList args.toList ds p := hA0
  rw [Tryz.params5] at hA hval
  obtain ⟨v0, d0, rfl, rfl, h0⟩ := trodAll_one hA
  obtain ⟨rfl, rfl⟩ := trodVars_none hV
  obtain ⟨hd, nd, n, b, rfl, hh, hn⟩ := want_shape (hval 0 65 v0 rfl rfl)
  have hlt : ∀ x ∈ p ++ [], x.block < W.heap.size := hW'.lt
  refine (autoNil_walk hd nd n b W (glob0 hsh) hh hn).mono fun e W' ⟨he, hB⟩ => ?_
  subst he
  have harg := Below.trod factP1 (by kernel_rfl) (of_decide_eq_true (by kernel_rfl)) h0 hB (fun x hx => hlt x (by simpa using hx))
  refine ⟨_, rfl, [d0], [], p ++ [], [], p, [], hW', ?_, ?_, ?_, hB.frame _, fun h => by cases h⟩
  · exact trodAll_mk1 (shut_bool Tryz.underlying4 true)
  · rw [Tryz.params5]; exact trodAll_mk1 harg
  · rfl
end Go.Proofs.YtfmahlmlhcphfaaGreatDoor
