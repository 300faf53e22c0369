/- SchedNil: the row. -/
import Derived.Test.YtfmahlmlhcphfaaGreatDoorEvent
import Derived.Test.YtfmahlmlhcphfaaGreatDoorWrap
import Derived.Test.YtfmahlmlhcphfaaGreatDoorFactsP
namespace Go.Proofs.YtfmahlmlhcphfaaGreatDoor
open Go.ChangeShapes Go.WideShapes Go.ChangeAt Go.RowKit

def zeroEvent : Value := .agg #[.int .i64 0, .int .i64 0, .int .i64 0, .string ⟨#[]⟩, .string ⟨#[]⟩, .int .u32 0, .slice none 0 0, .int .i64 0, .bool false, .bool false, .int .u32 0, .int .i64 0, .int .i64 0, .slice none 0 0]

set_option maxRecDepth 100000 in
theorem sched_lifted (os : Os) (started : os.Started) (H : Type) (enc : TypeId × Value → H) :
    ReturnsInHanded {} Tryz.checked os 7 .any (fun w args => (Rows.schedNilSpec.pre enc Tryz.prog Tryz.f7 Rows.schedNilRow.domain false w args ∧ laidMetH Tryz.prog Rows.schedNilRow.laid w) ∧ sizedMet enc Tryz.prog Tryz.f7 (OpenSpec.ofChange Rows.schedNilSpec) false w args)
      (Rows.schedNilSpec.post enc Tryz.prog Tryz.f7 false true false false) := by
  refine wrap (C := Tryz.checked) (X := fun w _ => laidMetH Tryz.prog Rows.schedNilRow.laid w) (fun _ _ _ hh h => h.of_heap hh) own started (by kernel_rfl) Tryz.func7
    (ChangeSpec.witness_shaped (enc := enc) (C := Tryz.checked) (os := os) (X := fun w _ => laidMetH Tryz.prog Rows.schedNilRow.laid w) false (World.laidAll Tryz.prog os Rows.schedNilRow.laid) #[zeroEvent] 8 (World.laidAll_os _ _ _)
      (World.shaped_of_ZipB (by kernel_rfl) (by kernel_rfl)) (by kernel_rfl) (by kernel_rfl) (by kernel_rfl)
      (by rw [MakeChecks.laidMetH_plain _ _ _ (by kernel_rfl)]; exact laidMet_laidAll _ (by kernel_rfl) (by kernel_rfl))) ?_
  intro W base args ds gs before hval0 hW _ _
  have hval : ∀ (j : Nat) t v, Tryz.f7.params[j]? = some t → args[j]? = some v → Value.okWide Tryz.prog W .any base t v := hval0
  have hW' := hW
  obtain ⟨p, q, hA0, hV, rfl, _, _⟩ := hW
  have hA : DataW.TrodAll enc Tryz.prog W 0 (fun _ => true) true Tryz.f7.params.toList args.toList ds p := hA0
  rw [Tryz.params7] at hA hval
  obtain ⟨v0, d0, rfl, rfl, h0⟩ := trodAll_one hA
  obtain ⟨rfl, rfl⟩ := trodVars_none hV
  obtain ⟨kd, cl, k, s1, s2, ad, p1, m, c, n, b1, b2, na, nb, N, kp, km, kc, rfl, hp, hk⟩ := event_shape (hval 0 88 v0 rfl rfl)
  have hlt : ∀ x ∈ p ++ [], x.block < W.heap.size := hW'.lt
  refine (schedNil_walk kd cl k s1 s2 ad p1 m c n b1 b2 na nb N kp km kc W hp hk).mono fun e W' ⟨he, hB⟩ => ?_
  subst he
  have harg := Below.trod factP1 (by kernel_rfl) (of_decide_eq_true (by kernel_rfl)) h0 hB (fun x hx => hlt x (by simpa using hx))
  refine ⟨_, rfl, [d0], [], p ++ [], [], p, [], hW', ?_, ?_, ?_, hB.frame _, fun h => by cases h⟩
  · exact trodAll_mk1 (shut_bool Tryz.underlying4 true)
  · rw [Tryz.params7]; exact trodAll_mk1 harg
  · rfl
end Go.Proofs.YtfmahlmlhcphfaaGreatDoor
