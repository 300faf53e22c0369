/- G, an evaluator of loaded code, and its soundness against the model, part 2. -/
import Derived.Test.YtfmahlmlhcphfaaGreatDoorG1
import Derived.LoopN
/- G against the model: each quiet operation yields what the model's does, and leaves the world alone. -/
namespace Go.G

section
variable {P : Program} {env : Env} {ρ : Ren} {s : Tmps} {a : Act}

theorem addOff_rel {i off n : Nat} {L : Loc} (hL : ρ i = some L) : VRel ρ (.pointer (some (addOff ⟨i, off, none⟩ n))) (.pointer (some ((⟨L.b, L.base + off, none⟩ : Addr).add n))) := by
  rw [addOff_eq, Addr.add_plain, Addr.add_plain, Nat.add_assoc]
  exact .ptr hL

theorem indexAt_ptr (E : EnvOk P env) {t n e : Nat} {off : Nat} {L : Loc} {j : Int} {k : IntKind} {ti : TI} (hu : P.underlying t = some (.array n e)) (hi : env.ti e = .ok ti) (hj : 0 ≤ j ∧ j < n) (w : World) :
    (Instr.indexAt t (.pointer (some ⟨L.b, L.base + off, none⟩)) (.int k j)).run P w = .ok (.pointer (some ((⟨L.b, L.base + off, none⟩ : Addr).add (j.toNat * ti.size)))) w := by
  simp only [Instr.indexAt, asIntOf, Sem.run_bind, Sem.run_pure, Result.andThen_ok, run_und hu, Instr.sureAddr, hj, and_self, if_true, (Env.ti_ok E hi).run_size]

/-- The cells that a slice reads. -/
theorem read_slice {h : Heap} {w : World} (K : Rel ρ h w.heap) {p : Addr} {n cap m : Nat} {z : Value} {cs : List Value} (hx : VRel ρ (.slice (some p) n cap) z) (hr : h.read p m = .ok cs) (hm : n = 0 → m = 0) :
    ∃ p' c' cs', z = .slice (some p') n c' ∧ LRel ρ cs cs' ∧ ∀ w1 : World, w1.heap = w.heap → (loadCells p' m).run P w1 = .ok ⟨cs'⟩ w1 := by
  have key : ∀ (i off : Nat) (L : Loc) (p' : Addr), ρ i = some L → h.read ⟨i, off, none⟩ m = .ok cs → (p' = ⟨L.b, L.base + off, none⟩ ∨ n = 0) → ∃ cs', LRel ρ cs cs' ∧ ∀ w1 : World, w1.heap = w.heap → (loadCells p' m).run P w1 = .ok ⟨cs'⟩ w1 := by
    intro i off L p' hL hr ha
    obtain ⟨g1, M, cs', g2, g3, g4⟩ := Heap.read_ok K hr
    rw [hL] at g2; cases g2
    rcases ha with rfl | h0
    · exact ⟨cs', g3, fun w1 hw => run_loadAt P (g3.1 ▸ g1) (fun k v hv => by have := g4 k v hv; unfold World.cell? at this ⊢; rw [hw]; exact this)⟩
    · have := hm h0
      subst this
      have : cs = [] := List.length_eq_zero_iff.1 g1
      subst this
      exact ⟨[], .nil ρ, fun _ _ => rfl⟩
  cases hx with
  | slice hL hc hn ha =>
    obtain ⟨cs', q1, q2⟩ := key _ _ _ _ hL hr (ha.imp id (fun e => by omega))
    exact ⟨_, _, cs', rfl, q1, q2⟩
  | flex hL hc hn ha =>
    obtain ⟨cs', q1, q2⟩ := key _ _ _ _ hL hr (ha.imp id (fun e => by omega))
    exact ⟨_, _, cs', rfl, q1, q2⟩

theorem map_mk (l : Array Operand) : (l.map a.eval) = ⟨l.toList.map a.eval⟩ := by
  apply Array.ext'
  simp

theorem bget (b : ByteArray) (i : Nat) : b[i]? = b.data.toList[i]? := by
  by_cases h : i < b.size
  · rw [getElem?_pos b i h, List.getElem?_eq_getElem (by rw [← Lib.size_eq]; exact h)]
    rfl
  · rw [getElem?_neg b i h, List.getElem?_eq_none (by rw [← Lib.size_eq]; omega)]

/-- What a lookup yields, once its entries are known. -/
theorem lookup_run (E : EnvOk P env) {t kt e : Nat} {ei : TI} {x : Value} {k k' : Value} {es : List MapEntry} {es' : Array MapEntry} {fd : Option (Nat × Value)} {r : Value × Bool} {u : Unit} {w : World} (ok : Bool)
    (hu : P.underlying t = some (.map kt e)) (hei : env.ti e = .ok ei) (hc : keyCheck env kt k = .ok u) (rk : VRel ρ k k') (he : EsRel ρ es es'.toList) (hfd : findKey env kt k es 0 = .ok fd) (hr : foundOr ei fd = .ok r)
    (hx : (x = .map none ∧ es' = #[]) ∨ ∃ b c, x = .map (some b) ∧ w.heap[b]? = some (.map es' c)) :
    ∃ v', VRel ρ (cond ok (.tuple #[r.1, .bool r.2]) r.1) v' ∧ (Instr.lookup t x k' ok).run P w = .ok v' w := by
  obtain ⟨KD, kd1⟩ := keyCheck_und E hc
  obtain ⟨fd', f1, f2⟩ := findKey_ok E kd1 hfd rk he w
  have hk := fun emp => keyCheck_ok E (empty := emp) hc rk w
  have hfin : ∀ (z z' : Value) (b : Bool), VRel ρ z z' → VRel ρ (cond ok (.tuple #[z, .bool b]) z) (if ok = true then .tuple #[z', .bool b] else z') := by
    intro z z' b hz
    cases ok with
    | true => exact .tuple_of (.cons hz (.cons (.bool b) (.nil ρ)))
    | false => exact hz
  have hrun : ∀ z, (zeroValue e).run P w = .ok z w → True := fun _ _ => trivial
  rcases hx with ⟨rfl, rfl⟩ | ⟨b, c, rfl, hb⟩
  · cases fd with
    | none =>
      cases fd' with
      | some x => exact f1.elim
      | none =>
        obtain ⟨z, hz, h4⟩ := R.b_ok (show (valOf ei).b _ = .ok r from hr)
        cases h4
        obtain ⟨z1, z2⟩ := valOf_ok (ρ := ρ) (Env.ti_ok E hei) hz w
        refine ⟨_, hfin _ _ _ z1, ?_⟩
        simp only [Instr.lookup, Sem.run_bind, run_und hu, Result.andThen_ok, Sem.run_pure, hk, f2, z2]
    | some x =>
      cases fd' with
      | none => exact f1.elim
      | some y =>
        cases hr
        refine ⟨_, hfin _ _ _ f1.2, ?_⟩
        simp only [Instr.lookup, Sem.run_bind, run_und hu, Result.andThen_ok, Sem.run_pure, hk, f2]
  · cases fd with
    | none =>
      cases fd' with
      | some x => exact f1.elim
      | none =>
        obtain ⟨z, hz, h4⟩ := R.b_ok (show (valOf ei).b _ = .ok r from hr)
        cases h4
        obtain ⟨z1, z2⟩ := valOf_ok (ρ := ρ) (Env.ti_ok E hei) hz w
        refine ⟨_, hfin _ _ _ z1, ?_⟩
        simp only [Instr.lookup, Sem.run_bind, run_und hu, Result.andThen_ok, Sem.run_pure, getObj, Sem.run, hb, hk, f2, z2]
    | some x =>
      cases fd' with
      | none => exact f1.elim
      | some y =>
        cases hr
        refine ⟨_, hfin _ _ _ f1.2, ?_⟩
        simp only [Instr.lookup, Sem.run_bind, run_und hu, Result.andThen_ok, Sem.run_pure, getObj, Sem.run, hb, hk, f2]

theorem quiet_ok (E : EnvOk P env) {h : Heap} {w : World} (K : Rel ρ h w.heap) (T : TRel ρ s a) {o : Oper} {v : Value} (hq : quietOp env s h o.op = .ok v) :
    ∃ v', VRel ρ v v' ∧ (execOp a.eval o).run P w = .ok (.value v') w := by
  obtain ⟨dst, op, ty, pos, after, guard⟩ := o
  simp only at hq
  cases op <;> simp only [quietOp] at hq <;> try (cases hq; done)
  case move x => exact ⟨_, ev_ok T hq, rfl⟩
  case assign x => exact ⟨_, ev_ok T hq, rfl⟩
  case pick c x y =>
    obtain ⟨cv, hc, h1⟩ := R.b_ok hq
    obtain ⟨b, hb, h2⟩ := R.b_ok h1
    have hb := asBool_ok hb
    subst hb
    have rc := ev_ok T hc
    have ec : a.eval c = .bool b := by generalize a.eval c = z at rc; cases rc; rfl
    rcases cond_ok h2 with ⟨e, h3⟩ | ⟨e, h3⟩
    · subst e
      exact ⟨_, ev_ok T h3, by simp [execOp, ec, Go.asBool]⟩
    · subst e
      exact ⟨_, ev_ok T h3, by simp [execOp, ec, Go.asBool]⟩
  case build t ps =>
    obtain ⟨vs, hvs, h1⟩ := R.b_ok hq
    have hp := evParts_ok T hvs
    obtain ⟨v', r, hr⟩ := gBuild_ok E (vs' := ps.map fun (p : Nat × Operand) => (p.1, a.eval p.2)) h1 (by simpa using hp) w
    exact ⟨v', r, run_v hr⟩
  case load t x =>
    obtain ⟨xv, hx, h1⟩ := R.b_ok hq
    obtain ⟨p, hp, h2⟩ := R.b_ok h1
    have hp := asAddr_ok hp
    subst hp
    obtain ⟨v', r, hr⟩ := loadAt_ok E K (ev_ok T hx) h2
    exact ⟨v', r, run_v hr⟩
  case nilCheck x =>
    obtain ⟨xv, hx, h1⟩ := R.b_ok hq
    have rx := ev_ok T hx
    split at h1
    · cases h1
      generalize he : a.eval x = z at rx
      cases rx
      exact ⟨_, .ptr (by assumption), by simp only [execOp, he]; rfl⟩
    · cases h1
      generalize he : a.eval x = z at rx
      cases rx with
      | func fn hl hm q1 q2 => exact ⟨_, .func _ hl hm q1 q2, by simp only [execOp, he]; rfl⟩
    · cases h1
  case binOp op t x y yt =>
    obtain ⟨xv, hx, h1⟩ := R.b_ok hq
    obtain ⟨yv, hy, h2⟩ := R.b_ok h1
    obtain ⟨r, hr⟩ := gBin_ok E (X := x) (Y := y) h2 (ev_ok T hx) (ev_ok T hy)
    exact ⟨v, r, run_v (hr w)⟩
  case unOp op t x =>
    obtain ⟨xv, hx, h1⟩ := R.b_ok hq
    obtain ⟨r, hr⟩ := gUn_ok (P := P) h1 (ev_ok T hx)
    exact ⟨v, r, run_v (hr w)⟩
  case convert src dst' x =>
    obtain ⟨xv, hx, h1⟩ := R.b_ok hq
    obtain ⟨sd, hsd, h2⟩ := R.b_ok h1
    obtain ⟨d, hd, h3⟩ := R.b_ok h2
    obtain ⟨S, s1, s2⟩ := Env.td_ok E hsd
    obtain ⟨D, d1, d2⟩ := Env.td_ok E hd
    have rx := ev_ok T hx
    clear hq h1 h2
    split at h3
    · cases tdOf_int d2.symm
      cases h3
      generalize he : a.eval x = z at rx
      cases rx
      refine ⟨_, .int _ _, run_v ?_⟩
      simp only [Go.convert, Sem.run_bind, run_und s1, run_und d1, Result.andThen_ok, he]
      rfl
    · cases tdOf_string d2.symm
      cases h3
      generalize he : a.eval x = z at rx
      cases rx
      refine ⟨_, .string _, run_v ?_⟩
      simp only [Go.convert, Sem.run_bind, run_und s1, run_und d1, Result.andThen_ok, he]
      cases S <;> rfl
    · cases tdOf_slice s2.symm
      cases tdOf_string d2.symm
      obtain ⟨ed, hed, h4⟩ := R.b_ok h3
      obtain ⟨D3, e1, e2⟩ := Env.td_ok E hed
      split at h4
      · cases tdOf_int e2.symm
        cases h4
        generalize he : a.eval x = z at rx
        cases rx
        refine ⟨_, .string _, run_v ?_⟩
        simp only [Go.convert, Sem.run_bind, run_und s1, run_und d1, run_und e1, Result.andThen_ok, he]
        rfl
      · cases h4
    · cases tdOf_slice s2.symm
      cases tdOf_string d2.symm
      obtain ⟨ed, hed, h4⟩ := R.b_ok h3
      obtain ⟨D3, e1, e2⟩ := Env.td_ok E hed
      split at h4
      · cases tdOf_int e2.symm
        obtain ⟨cs, hcs, h5⟩ := R.b_ok h4
        obtain ⟨bs, hbs, h6⟩ := R.b_ok h5
        cases h6
        generalize he : a.eval x = z at rx
        obtain ⟨p', c', cs', rfl, q1, q2⟩ := read_slice (P := P) K rx hcs id
        obtain ⟨ns, e1, e2, e3⟩ := bytesOf_ok hbs q1
        subst e1; subst e2; subst e3
        refine ⟨_, .string _, run_v ?_⟩
        simp only [Go.convert, Sem.run_bind, run_und s1, run_und d1, run_und e1, Result.andThen_ok, he]
        exact bytesToString_run (q2 w rfl)
      · cases h4
    · cases h3
  case makeInterface t x =>
    obtain ⟨xv, hx, h1⟩ := R.b_ok hq
    obtain ⟨d, hd, h2⟩ := R.b_ok h1
    obtain ⟨D, d1, d2⟩ := Env.td_ok E hd
    clear hq h1
    split at h2
    · cases h2
    · rename_i hne
      cases h2
      refine ⟨_, .iface t (ev_ok T hx), run_v ?_⟩
      simp only [Instr.makeInterface, Sem.run_bind, run_und d1, Result.andThen_ok]
      cases D <;> first | rfl | exact absurd d2 hne
  case makeFunc fn first captured =>
    cases fn <;> simp only at hq <;> try (cases hq; done)
    obtain ⟨xs, hx, h1⟩ := R.b_ok hq
    obtain ⟨ys, hy, h2⟩ := R.b_ok h1
    cases h2
    exact ⟨_, .func_of _ (evs_ok T hx) (evs_ok T hy), by simp only [execOp, Instr.makeFunc, map_mk]; rfl⟩
  case slice t x lo hi mx =>
    obtain ⟨xv, hx, h1⟩ := R.b_ok hq
    obtain ⟨l, hl, h2⟩ := R.b_ok h1
    obtain ⟨u, hu, h3⟩ := R.b_ok h2
    obtain ⟨m, hm, h4⟩ := R.b_ok h3
    obtain ⟨v', r, hr⟩ := gSlice_ok E K h4 (ev_ok T hx) (evOpt_ok T hl) (evOpt_ok T hu) (evOpt_ok T hm)
    exact ⟨v', r, run_v hr⟩
  case fieldAddr t x f =>
    obtain ⟨xv, hx, h1⟩ := R.b_ok hq
    obtain ⟨p, hp, h2⟩ := R.b_ok h1
    obtain ⟨d, hd, h3⟩ := R.b_ok h2
    have hp := asAddr_ok hp
    subst hp
    obtain ⟨D, d1, d2⟩ := Env.td_ok E hd
    clear hq h1 h2
    split at h3
    · rename_i fs
      obtain ⟨Fs, rfl, rfl⟩ := tdOf_struct d2.symm
      obtain ⟨q, hq, h4⟩ := R.b_ok h3
      obtain ⟨i, hi, h5⟩ := R.b_ok h4
      obtain ⟨_, hm, h6⟩ := R.b_ok h5
      cases h6
      have hq := R.of_ok hq
      rw [List.getElem?_map] at hq
      cases hF : Fs.toList[f]? with
      | none => rw [hF] at hq; cases hq
      | some F =>
        rw [hF] at hq
        cases hq
        have hF' : Fs[f]? = some F := by simpa using hF
        obtain ⟨j, off, L, rfl, hL, he⟩ := (ev_ok T hx).ptr_inv
        refine ⟨_, addOff_rel hL, run_v ?_⟩
        have hs : i.size ≠ 0 := by
          have := R.must_ok hm
          intro e
          rw [e] at this
          exact absurd this (by decide)
        simp only [Instr.fieldAt, Sem.run_bind, run_und d1, Result.andThen_ok, hF', he, Instr.sureAddr, Sem.run_pure, fieldPlace, (Env.ti_ok E hi).run_size, hs, if_false]
    · cases h3
  case field t x f =>
    obtain ⟨xv, hx, h1⟩ := R.b_ok hq
    obtain ⟨d, hd, h2⟩ := R.b_ok h1
    obtain ⟨D, d1, d2⟩ := Env.td_ok E hd
    have rx := ev_ok T hx
    clear hq h1
    split at h2
    · rename_i fs cs
      obtain ⟨Fs, rfl, rfl⟩ := tdOf_struct d2.symm
      obtain ⟨q, hq, h4⟩ := R.b_ok h2
      have hq := R.of_ok hq
      rw [List.getElem?_map] at hq
      cases hF : Fs.toList[f]? with
      | none => rw [hF] at hq; cases hq
      | some F =>
        rw [hF] at hq
        cases hq
        have hF' : Fs[f]? = some F := by simpa using hF
        cases cs with | mk cs =>
        obtain ⟨cs', he, rc⟩ := rx.agg_inv
        obtain ⟨v', r, hr⟩ := partV_ok E h4 rc
        refine ⟨v', r, run_v ?_⟩
        simp only [Instr.field, Sem.run_bind, run_und d1, Result.andThen_ok, hF', he, asAgg, Sem.run_pure, hr]
    · cases h2
  case indexAddr t x ix =>
    obtain ⟨xv, hx, h1⟩ := R.b_ok hq
    obtain ⟨jv, hj, h2⟩ := R.b_ok h1
    obtain ⟨j, hi, h3⟩ := R.b_ok h2
    obtain ⟨d, hd, h4⟩ := R.b_ok h3
    obtain ⟨k, hk⟩ := asInt_ok hi
    subst hk
    obtain ⟨D, d1, d2⟩ := Env.td_ok E hd
    have rx := ev_ok T hx
    have rj := ev_ok T hj
    generalize hej : a.eval ix = zj at rj
    cases rj
    clear hq h1 h2 h3
    split at h4
    · cases tdOf_array d2.symm
      obtain ⟨ti, hti, h5⟩ := R.b_ok h4
      rcases cond_ok h5 with ⟨e, h6⟩ | ⟨_, h6⟩
      · cases h6
        simp only [Bool.and_eq_true, decide_eq_true_eq] at e
        obtain ⟨i, off, L, rfl, hL, he⟩ := rx.ptr_inv
        refine ⟨_, addOff_rel hL, run_v ?_⟩
        rw [he, hej]
        exact indexAt_ptr E d1 hti e w
      · cases h6
    · cases tdOf_slice d2.symm
      obtain ⟨ti, hti, h5⟩ := R.b_ok h4
      rcases cond_ok h5 with ⟨e, h6⟩ | ⟨_, h6⟩
      · cases h6
        simp only [Bool.and_eq_true, decide_eq_true_eq] at e
        have key : ∀ (i off : Nat) (L : Loc) (c : Nat) (n : Nat), j < n → ρ i = some L → (Instr.indexAt t (.slice (some ⟨L.b, L.base + off, none⟩) n c) (.int k j)).run P w = .ok (.pointer (some ((⟨L.b, L.base + off, none⟩ : Addr).add (j.toNat * ti.size)))) w := by
          intro i off L c n hn hL
          simp only [Instr.indexAt, asIntOf, Sem.run_bind, Sem.run_pure, Result.andThen_ok, run_und d1, e.1, hn, and_self, if_true, (Env.ti_ok E hti).run_size]
        generalize he : a.eval x = z at rx
        cases rx with
        | slice hL hc hn ha =>
          rcases ha with rfl | h0
          · exact ⟨_, addOff_rel hL, run_v (by rw [he, hej]; exact key _ _ _ _ _ e.2 hL)⟩
          · omega
        | flex hL hc hn ha =>
          rcases ha with rfl | h0
          · exact ⟨_, addOff_rel hL, run_v (by rw [he, hej]; exact key _ _ _ _ _ e.2 hL)⟩
          · omega
      · cases h6
    · cases h4
  case index t x ix =>
    obtain ⟨xv, hx, h1⟩ := R.b_ok hq
    obtain ⟨jv, hj, h2⟩ := R.b_ok h1
    obtain ⟨j, hi, h3⟩ := R.b_ok h2
    obtain ⟨d, hd, h4⟩ := R.b_ok h3
    obtain ⟨k, hk⟩ := asInt_ok hi
    subst hk
    obtain ⟨D, d1, d2⟩ := Env.td_ok E hd
    have rx := ev_ok T hx
    have rj := ev_ok T hj
    generalize hej : a.eval ix = zj at rj
    cases rj
    clear hq h1 h2 h3
    split at h4
    · cases tdOf_array d2.symm
      obtain ⟨ti, hti, h5⟩ := R.b_ok h4
      rcases cond_ok h5 with ⟨e, h6⟩ | ⟨_, h6⟩
      · simp only [Bool.and_eq_true, decide_eq_true_eq] at e
        rename_i n el cs
        cases cs with | mk cs =>
        obtain ⟨cs', he, rc⟩ := rx.agg_inv
        obtain ⟨v', r, hr⟩ := partV_ok E h6 rc
        refine ⟨v', r, run_v ?_⟩
        rw [he, hej]
        simp only [Instr.index, asIntOf, Sem.run_bind, Sem.run_pure, Result.andThen_ok, run_und d1, e, and_self, if_true, (Env.ti_ok E hti).run_size, hr]
      · cases h6
    · cases tdOf_string d2.symm
      rename_i b
      rcases cond_ok h4 with ⟨e, h6⟩ | ⟨_, h6⟩
      · rw [decide_eq_true_eq] at e
        generalize he : a.eval x = z at rx
        cases rx
        split at h6
        · rename_i c hc
          cases h6
          refine ⟨_, .int _ _, run_v ?_⟩
          have hb : b[j.toNat]? = some c := by rw [bget]; exact hc
          rw [he, hej]
          simp only [Instr.index, asIntOf, Sem.run_bind, Sem.run_pure, Result.andThen_ok, run_und d1, e, if_true, hb]
        · cases h6
      · cases h6
    · cases h4
  case lookup t m k ok =>
    obtain ⟨mv, hm, h1⟩ := R.b_ok hq
    obtain ⟨kv, hk, h2⟩ := R.b_ok h1
    obtain ⟨d, hd, h3⟩ := R.b_ok h2
    obtain ⟨D, d1, d2⟩ := Env.td_ok E hd
    have rm := ev_ok T hm
    have rk := ev_ok T hk
    clear hq h1 h2
    split at h3
    · rename_i kt e
      cases tdOf_map d2.symm
      obtain ⟨ei, hei, h3⟩ := R.b_ok h3
      obtain ⟨_, hc, h3⟩ := R.b_ok h3
      obtain ⟨es, hes, h3⟩ := R.b_ok h3
      obtain ⟨fd, hfd, h3⟩ := R.b_ok h3
      obtain ⟨r, hr, h3⟩ := R.b_ok h3
      cases h3
      have hent : ∃ es' : Array MapEntry, EsRel ρ es es'.toList ∧ ((a.eval m = .map none ∧ es' = #[]) ∨ ∃ b c, a.eval m = .map (some b) ∧ w.heap[b]? = some (.map es' c)) := by
        generalize a.eval m = z at rm
        unfold entriesOf at hes
        split at hes
        · cases hes
          cases rm
          exact ⟨#[], ⟨rfl, fun i e e' h => by simp at h⟩, .inl ⟨rfl, rfl⟩⟩
        · split at hes
          · rename_i hg
            cases hes
            cases rm with
            | map hL =>
            obtain ⟨L, ob, g1, g2, g3⟩ := K.live _ _ hg
            rw [hL] at g1; cases g1
            cases g3 with
            | map _ he => exact ⟨_, he, .inr ⟨_, _, rfl, g2⟩⟩
          · cases hes
        · cases hes
      obtain ⟨es', he1, he2⟩ := hent
      obtain ⟨v', r1, r2⟩ := lookup_run E ok d1 hei hc rk he1 hfd hr he2
      exact ⟨v', r1, run_v r2⟩
    · cases h3
  case extract x i =>
    obtain ⟨xv, hx, h1⟩ := R.b_ok hq
    have rx := ev_ok T hx
    split at h1
    · rename_i vs
      cases vs with | mk vs =>
      obtain ⟨ys, he, rl⟩ := rx.tuple_inv
      obtain ⟨v', h2, r⟩ := rl.get (R.of_ok h1)
      refine ⟨v', r, run_v ?_⟩
      rw [he]
      simp [Instr.extract, h2]
    · cases h1
  case entry it =>
    obtain ⟨iv, hi, h1⟩ := R.b_ok hq
    have ri := ev_ok T hi
    clear hq
    split at h1
    · rename_i r0
      split at h1
      · rename_i m0 since seen stepped hg
        split at h1
        · rename_i st rest es clock hm
          obtain ⟨_, hc, h2⟩ := R.b_ok h1
          obtain ⟨e, he, h3⟩ := R.b_ok h2
          cases h3
          obtain ⟨i, off, L, e0, hL, hev⟩ := ri.ptr_inv
          cases e0
          obtain ⟨L', ob, g1, g2, g3⟩ := K.live _ _ hg
          rw [hL] at g1; cases g1
          cases g3 with
          | mapIter hb hM hs =>
          obtain ⟨M', ob2, g4, g5, g6⟩ := K.live _ _ hm
          rw [hM] at g4; cases g4
          cases g6 with
          | map _ hes =>
          obtain ⟨e', f1, f2⟩ := find_rel (R.of_ok he) hes
          have hc := Nat.eq_of_beq_eq_true (R.must_ok hc)
          subst hc
          have hback : ∀ x : Array Nat, x.toList.reverse = st :: rest → x.back? = some st := by
            intro x hx
            rw [← Array.getLast?_toList, List.getLast?_eq_head?_reverse, hx]
            rfl
          refine ⟨.tuple #[e'.key, e'.val], .tuple_of (.cons f2.key (.cons f2.val (.nil ρ))), run_v ?_⟩
          have hfind : ∀ x : Array MapEntry, x.toList.find? (fun e => e.born == st) = some e' → x.find? (fun e => e.born == st) = some e' := by
            intro x hx
            rw [← Array.find?_toList]; exact hx
          rw [hev, hb]
          simp only [Instr.entry, Sem.run_bind, getObj, Sem.run, g2, Result.andThen_ok, hback _ hs, g5, bne_self_eq_false, Bool.false_eq_true, if_false, hfind _ f1, Sem.run_pure]
        · cases h1
      · cases h1
    · cases h1
  case call c =>
    obtain ⟨callee, args, argTypes⟩ := c
    cases callee <;> simp only at hq <;> try (cases hq; done)
    rename_i b
    obtain ⟨vs, hvs, h1⟩ := R.b_ok hq
    obtain ⟨t, ht, h2⟩ := R.b_ok h1
    have ht := R.of_ok ht
    have ht : argTypes[0]? = some t := by simpa using ht
    have rl := evs_ok T hvs
    rw [← Array.toList_map] at rl
    clear hq h1
    split at h2
    · -- len
      rename_i v0
      obtain ⟨d, hd, h3⟩ := R.b_ok h2
      obtain ⟨D, d1, d2⟩ := Env.td_ok E hd
      obtain ⟨v', ys, hl, r1, r2⟩ := rl.cons_inv
      cases r2.nil_inv
      have ha : (args.map a.eval)[0]? = some v' := by rw [← Array.getElem?_toList, hl]; rfl
      have fin : ∀ n : Int, (Builtin.len_ argTypes ty (args.map a.eval)).run P w = .ok (goInt n) w → v = goInt n → ∃ v', VRel ρ v v' ∧ (execOp a.eval { dst := dst, op := .call { callee := .builtin .len, args := args, argTypes := argTypes }, type := ty, pos := pos, after := after, guard := guard }).run P w = .ok (.value v') w := by
        intro n hn e
        exact ⟨goInt n, by rw [e]; exact .int _ _, run_v hn⟩
      clear h2
      split at h3
      · cases tdOf_string d2.symm; cases h3; cases r1
        exact fin _ (by simp only [Builtin.len_, ht, ha, Sem.run_bind, run_und d1, Result.andThen_ok, Sem.run_pure, Lib.size_eq]) rfl
      · cases tdOf_slice d2.symm; cases h3
        refine fin _ ?_ rfl
        cases r1 <;> simp only [Builtin.len_, ht, ha, Sem.run_bind, run_und d1, Result.andThen_ok, Sem.run_pure]
      · cases tdOf_array d2.symm; cases h3
        exact fin _ (by simp only [Builtin.len_, ht, ha, Sem.run_bind, run_und d1, Result.andThen_ok, Sem.run_pure]) rfl
      · cases tdOf_map d2.symm; cases h3; cases r1
        exact fin _ (by simp only [Builtin.len_, ht, ha, Sem.run_bind, run_und d1, Result.andThen_ok, Sem.run_pure]) rfl
      · cases tdOf_map d2.symm
        cases r1 with
        | map hL =>
        split at h3
        · rename_i hg
          cases h3
          obtain ⟨L', ob, g1, g2, g3⟩ := K.live _ _ hg
          rw [hL] at g1; cases g1
          cases g3 with
          | map _ hes =>
          refine fin _ ?_ rfl
          simp only [Builtin.len_, ht, ha, Sem.run_bind, run_und d1, Result.andThen_ok, getObj, Sem.run, g2, Sem.run_pure]
          rw [hes.1, Array.length_toList]
        · cases h3
      · cases h3
    · -- cap
      obtain ⟨d, hd, h3⟩ := R.b_ok h2
      obtain ⟨D, d1, d2⟩ := Env.td_ok E hd
      obtain ⟨v', ys, hl, r1, r2⟩ := rl.cons_inv
      cases r2.nil_inv
      have ha : (args.map a.eval)[0]? = some v' := by rw [← Array.getElem?_toList, hl]; rfl
      clear h2
      split at h3
      · cases tdOf_slice d2.symm
        rcases cond_ok h3 with ⟨e, h4⟩ | ⟨e, h4⟩
        · cases h4
        · cases h4
          refine ⟨goInt _, .int _ _, run_v ?_⟩
          cases r1 with
          | sliceNil => simp only [Builtin.cap_, ht, ha, Sem.run_bind, run_und d1, Result.andThen_ok, Sem.run_pure]
          | slice _ _ _ _ => simp only [Builtin.cap_, ht, ha, Sem.run_bind, run_und d1, Result.andThen_ok, Sem.run_pure]
          | flex _ _ _ _ => exact absurd e (by decide)
      · cases h3
    · -- min
      obtain ⟨v', ys, hl, r1, r2⟩ := rl.cons_inv
      obtain ⟨u, q1, q2⟩ := foldR_ok (P := P) (w := w) (f := min2) (g := Builtin.min2) (fun x y v x' y' h hx hy => min2_ok h hx hy w) h2 r1 r2
      refine ⟨u, q1, run_v ?_⟩
      simp only [Builtin.min_, hl]
      exact q2
    · -- max
      obtain ⟨v', ys, hl, r1, r2⟩ := rl.cons_inv
      obtain ⟨u, q1, q2⟩ := foldR_ok (P := P) (w := w) (f := max2) (g := Builtin.max2) (fun x y v x' y' h hx hy => max2_ok h hx hy w) h2 r1 r2
      refine ⟨u, q1, run_v ?_⟩
      simp only [Builtin.max_, hl]
      exact q2
    · cases h2

end
end Go.G

/- G against the model: the operations that make a block. -/
namespace Go.G

section
variable {P : Program} {env : Env} {ρ : Ren} {s : Tmps} {a : Act}

/-- What a new block is to the world. -/
structure Makes (P : Program) (a : Act) (o : Oper) (ρ : Ren) (i : Nat) (v : Value) (b : Blk) (w : World) (v' : Value) (L : Loc) (ob : Obj) (w' : World) : Prop where
  run : (execOp a.eval o).run P w = .ok (.value v') w'
  heap : w'.heap = w.heap.push ob
  os : w'.os = w.os
  tape : w'.tape = w.tape
  output : w'.output = w.output
  lb : L.b = w.heap.size
  val : VRel (ρ.upd i L) v v'
  blk : BlkRel (ρ.upd i L) L b ob

theorem rep_length (z : List Value) : ∀ n, (rep z n).length = n * z.length
  | 0 => by simp [rep]
  | n + 1 => by simp [rep, rep_length z n, Nat.add_mul]; omega

theorem rep_eq (z : List Value) : ∀ n, (List.range (n * z.length)).map (fun i => z.toArray[i % z.toArray.size]!) = rep z n
  | 0 => by simp [rep]
  | n + 1 => by
    have : (n + 1) * z.length = z.length + n * z.length := by rw [Nat.add_mul, Nat.one_mul, Nat.add_comm]
    rw [this, List.range_add, List.map_append, rep, ← rep_eq z n, List.map_map]
    congr 1
    · apply List.ext_getElem?
      intro i
      rw [List.getElem?_map]
      by_cases h : i < z.length
      · rw [List.getElem?_range h, List.getElem?_eq_getElem h]
        simp [Nat.mod_eq_of_lt h, h]
      · rw [List.getElem?_eq_none (by simpa using h), List.getElem?_eq_none (by simpa using h)]
        rfl
    · apply List.map_congr_left
      intro i _
      simp

theorem rep_lits {z : List Value} (h : z.all litOk = true) : ∀ n, (rep z n).all litOk = true
  | 0 => rfl
  | n + 1 => by rw [rep, List.all_append, h, rep_lits h n]; rfl

theorem row_rel {σ : Ren} {L : Loc} {esz : Nat} {c c' : List Value} {e : TypeId} {lo hi : Nat} (h : LRel σ c c') (hb : L.base = 0) (ht : c'.length = L.tot) (he : L.esz = esz) (hf : lo = hi ∨ L.tot ≤ lo) :
    BlkRel σ L (.cells esz c) (.cells ⟨c'⟩ e (lo, hi)) := by
  refine .cells ht he hf (fun _ => hb) fun i v hv => ?_
  obtain ⟨v', h1, h2⟩ := h.get hv
  exact ⟨v', by rw [hb, Nat.zero_add, ← Array.getElem?_toList]; exact h1, h2⟩

theorem makes_row {o : Oper} {i esz : Nat} {cs cs' : List Value} {e : TypeId} {v v' : Value} {w : World} (hi : ρ i = none) (hr : LRel ρ cs cs')
    (hrun : (execOp a.eval o).run P w = .ok (.value v') { w with heap := w.heap.push (.cells ⟨cs'⟩ e) })
    (hv : ∀ σ : Ren, σ i = some ⟨w.heap.size, 0, cs'.length, esz⟩ → VRel σ v v') :
    ∃ v' L ob w', Makes P a o ρ i v (.cells esz cs) w v' L ob w' := by
  refine ⟨v', ⟨w.heap.size, 0, cs'.length, esz⟩, .cells ⟨cs'⟩ e (0, 0), { w with heap := w.heap.push (.cells ⟨cs'⟩ e) }, hrun, rfl, rfl, rfl, rfl, rfl, hv _ (Ren.upd_same _ _ _), ?_⟩
  exact row_rel (hr.mono (Ren.sub_upd hi _)) rfl rfl rfl (.inl rfl)

theorem new_ptr {σ : Ren} {i b tot esz : Nat} (h : σ i = some ⟨b, 0, tot, esz⟩) : VRel σ (.pointer (some ⟨i, 0, none⟩)) (.pointer (some ⟨b, 0, none⟩)) := .ptr (off := 0) h

theorem rows_eq {z : List Value} {n size : Nat} (hl : z.length = size) : (Array.range (n * size)).map (fun x => (⟨z⟩ : Array Value)[x % (⟨z⟩ : Array Value).size]!) = ⟨rep z n⟩ := by
  apply Array.ext'
  rw [Array.toList_map, Array.toList_range, ← hl]
  exact rep_eq z n

theorem rows_nil {z : List Value} {n size : Nat} (hl : z.length = size) (h : n * size = 0) (f : Nat → Value) : (Array.range (n * size)).map f = ⟨rep z n⟩ := by
  have : rep z n = [] := List.length_eq_zero_iff.1 (by rw [rep_length, hl, h])
  rw [h, this]
  apply Array.ext'
  simp

theorem run_markStringish {w : World} {b off : Nat} {arr : Array Value} {e : TypeId} {fr : Nat × Nat} (h : w.heap[b]? = some (.cells arr e fr)) :
    (markStringish ⟨b, off, none⟩).run P w = .ok () (w.freeze ⟨b, arr.size, none⟩ 1) := by
  simp only [markStringish, Sem.run_bind, run_shape, World.shape?, h, Result.andThen_ok, run_freeze]

theorem freeze_eq {w : World} {b n : Nat} {arr : Array Value} {e : TypeId} {lo hi : Nat} (h : w.heap[b]? = some (.cells arr e (lo, hi))) :
    w.freeze ⟨b, n, none⟩ 1 = setBlk w b (.cells arr e (if lo == hi then (n, n + 1) else (min lo n, max hi (n + 1)))) := by
  unfold World.freeze setBlk
  rw [if_neg (by decide)]
  congr 1
  apply Array.ext_getElem?
  intro j
  have hlt : b < w.heap.size := (Array.getElem?_eq_some_iff.1 h).1
  by_cases e' : j = b
  · subst e'
    rw [Array.getElem?_modify, if_pos rfl, h]
    simp [hlt]
  · rw [Array.getElem?_modify, if_neg (Ne.symm e'), Array.getElem?_setIfInBounds_ne (Ne.symm e')]

theorem setBlk_push (w : World) (o o' : Obj) : setBlk { w with heap := w.heap.push o } w.heap.size o' = { w with heap := w.heap.push o' } := by
  unfold setBlk
  congr 1
  apply Array.ext_getElem?
  intro j
  by_cases h : j = w.heap.size
  · subst h; simp
  · rw [Array.getElem?_setIfInBounds_ne (Ne.symm h)]
    simp [Array.getElem?_push, h]

theorem makes_ok (E : EnvOk P env) (T : TRel ρ s a) {o : Oper} {i : Nat} {v : Value} {b : Blk} (hq : makesOp env s i o.op = .ok (v, b)) (hi : ρ i = none) (w : World) :
    ∃ v' L ob w', Makes P a o ρ i v b w v' L ob w' := by
  obtain ⟨dst, op, ty, pos, after, guard⟩ := o
  simp only at hq
  cases op <;> simp only [makesOp] at hq <;> try (cases hq; done)
  case alloc t =>
    obtain ⟨ti, hti, h1⟩ := R.b_ok hq
    obtain ⟨z, hz, h2⟩ := R.b_ok h1
    cases h2
    obtain ⟨zv, z1, z2, z3, _, _⟩ := (Env.ti_ok E hti).run_zero (R.of_ok hz) w
    refine makes_row (e := t) hi (LRel.lits z3) (run_v ?_) (fun σ h => new_ptr h)
    simp only [Instr.alloc, Sem.run_bind, z1, Result.andThen_ok, newVar, newRow, run_newObj, Sem.run_pure, z2]
  case box t x =>
    obtain ⟨xv, hx, h1⟩ := R.b_ok hq
    cases h1
    have rx := (ev_ok T hx).cells
    refine makes_row (e := t) hi rx (run_v ?_) (fun σ h => new_ptr h)
    simp only [Instr.box, newVar, newRow, Sem.run_bind, run_newObj, Result.andThen_ok, Sem.run_pure]
  case buildSlice t n ps =>
    obtain ⟨vs, hvs, h1⟩ := R.b_ok hq
    obtain ⟨d, hd, h2⟩ := R.b_ok h1
    obtain ⟨D, d1, d2⟩ := Env.td_ok E hd
    clear hq h1
    split at h2
    · rename_i el
      cases tdOf_slice d2.symm
      obtain ⟨k, hk, h3⟩ := R.b_ok h2
      obtain ⟨z, hz, h4⟩ := R.b_ok h3
      obtain ⟨_, hm, h5⟩ := R.b_ok h4
      obtain ⟨_, hn, h5⟩ := R.b_ok h5
      obtain ⟨c, hc, h6⟩ := R.b_ok h5
      cases h6
      have K := Env.ti_ok E hk
      have hm := R.must_ok hm
      have hn := R.must_ok hn
      simp only [Bool.and_eq_true, Nat.ble_eq] at hm hn
      have hzl : z.length = k.size := Nat.eq_of_beq_eq_true hm.2
      obtain ⟨zv, z1, z2, z3, _, _⟩ := K.run_zero (R.of_ok hz) w
      have hp := evParts_ok T hvs
      obtain ⟨r', hr, rr⟩ := gFill_ok (pl' := fun j => some (j * k.size, k.size)) (fun i p h => h) (vs' := (ps.map fun (p : Nat × Operand) => (p.1, a.eval p.2)).toList) hc (by simpa using hp) (LRel.lits (ρ := ρ) (rep_lits z3 n))
      refine makes_row (e := el) (cs' := r'.toList) (v' := .slice (some ⟨w.heap.size, 0, none⟩) n n) hi rr (run_v ?_) (fun σ h => ?_)
      · have hsz : ¬(n * k.size > 2 ^ 24) := by omega
        by_cases h0 : n * k.size = 0
        · simp only [Instr.buildSlice, Sem.run_bind, run_und d1, Result.andThen_ok, K.run_size, if_neg hsz, Sem.run_pure, if_pos h0, rows_nil hzl h0, hr, newRow, run_newObj]
        · simp only [Instr.buildSlice, Sem.run_bind, run_und d1, Result.andThen_ok, K.run_size, if_neg hsz, Sem.run_pure, if_neg h0, z1, z2, rows_eq hzl, hr, newRow, run_newObj]
      · exact .slice (off := 0) h (by unfold flexCap; omega) (Nat.le_refl _) (.inl rfl)
    · cases h2
  case makeMap t r =>
    cases r with
    | some r => cases hq
    | none =>
      cases hq
      refine ⟨.map (some w.heap.size), ⟨w.heap.size, 0, 0, 0⟩, .map #[] 0, { w with heap := w.heap.push (.map #[] 0) }, run_v ?_, rfl, rfl, rfl, rfl, rfl, .map (L := ⟨w.heap.size, 0, 0, 0⟩) (Ren.upd_same _ _ _), .map rfl ⟨rfl, fun i e e' h => by simp at h⟩⟩
      simp only [Instr.makeMap, Sem.run_bind, run_newObj, Result.andThen_ok, Sem.run_pure, Option.map_none]
  case makeSlice t l c =>
    obtain ⟨lv, hlv, h1⟩ := R.b_ok hq
    obtain ⟨cv, hcv, h2⟩ := R.b_ok h1
    obtain ⟨d, hd, h3⟩ := R.b_ok h2
    obtain ⟨D, d1, d2⟩ := Env.td_ok E hd
    have rl := ev_ok T hlv
    have rc := ev_ok T hcv
    clear hq h1 h2
    split at h3
    · rename_i e l0 c0
      cases tdOf_slice d2.symm
      obtain ⟨k, hk, h4⟩ := R.b_ok h3
      obtain ⟨z, hz, h5⟩ := R.b_ok h4
      obtain ⟨_, hm, h6⟩ := R.b_ok h5
      cases h6
      have K := Env.ti_ok E hk
      have hm := R.must_ok hm
      simp only [Bool.and_eq_true, Nat.ble_eq, decide_eq_true_eq] at hm
      obtain ⟨⟨⟨⟨m1, m2⟩, m3⟩, m4⟩, m5⟩ := hm
      have hzl : z.length = k.size := Nat.eq_of_beq_eq_true m5
      obtain ⟨zv, z1, z2, z3, _, _⟩ := K.run_zero (R.of_ok hz) w
      obtain ⟨f, i1, i2, i3, _⟩ := K.info
      generalize hel : a.eval l = zl at rl
      generalize hec : a.eval c = zc at rc
      cases rl; cases rc
      have w1 : IntKind.i64.wrap l0 = l0 := by unfold IntKind.wrap; simp [IntKind.bits, IntKind.signed]; omega
      have w2 : IntKind.i64.wrap c0 = c0 := by unfold IntKind.wrap; simp [IntKind.bits, IntKind.signed]; omega
      have hb : ¬((f.bytes : Int) * c0 > 2 ^ 48) := by
        rw [i3] at m4
        have : ((c0.toNat * f.bytes : Nat) : Int) = f.bytes * c0 := by rw [Int.natCast_mul, Int.toNat_of_nonneg (by omega)]; exact Int.mul_comm _ _
        omega
      refine makes_row (e := e) (cs' := rep z c0.toNat) (v' := .slice (some ⟨w.heap.size, 0, none⟩) l0.toNat c0.toNat) hi (LRel.lits (rep_lits z3 _)) (run_v ?_) (fun σ h => ?_)
      · rw [hel, hec]
        have hcond : (decide (c0 < 0) || decide ((f.bytes : Int) * c0 > 2 ^ 48) || decide (l0 < 0) || decide (l0 > c0)) = false := by
          simp only [Bool.or_eq_false_iff, decide_eq_false_iff_not]
          exact ⟨⟨⟨by omega, hb⟩, by omega⟩, by omega⟩
        by_cases h0 : c0.toNat * k.size = 0
        · simp only [Instr.makeSlice, Sem.run_bind, run_und d1, Go.asInt, asIntOf, Sem.run_pure, Result.andThen_ok, run_typeInfo i1, w1, w2, hcond, Bool.false_eq_true, if_false, run_askRoom,
            K.run_size, if_pos h0, newRow, run_newObj, rows_nil hzl h0]
        · simp only [Instr.makeSlice, Sem.run_bind, run_und d1, Go.asInt, asIntOf, Sem.run_pure, Result.andThen_ok, run_typeInfo i1, w1, w2, hcond, Bool.false_eq_true, if_false, run_askRoom,
            K.run_size, if_neg h0, z1, z2, newRow, run_newObj, rows_eq hzl]
      · exact .slice (off := 0) h (by unfold flexCap; omega) (by omega) (.inl rfl)
    · cases h3
  case convert src dst' x =>
    obtain ⟨xv, hx, h1⟩ := R.b_ok hq
    obtain ⟨sd, hsd, h2⟩ := R.b_ok h1
    obtain ⟨d, hd, h3⟩ := R.b_ok h2
    obtain ⟨S, s1, _⟩ := Env.td_ok E hsd
    obtain ⟨D, d1, d2⟩ := Env.td_ok E hd
    have rx := ev_ok T hx
    clear hq h1 h2
    split at h3
    · rename_i e bs
      cases tdOf_slice d2.symm
      obtain ⟨k, hk, h4⟩ := R.b_ok h3
      have K := Env.ti_ok E hk
      obtain ⟨D3, e1, e2, _, _⟩ := K.desc
      split at h4
      · rename_i ek
        rw [ek] at e2
        cases tdOf_int e2.symm
        obtain ⟨_, hm, h5⟩ := R.b_ok h4
        cases h5
        generalize he : a.eval x = z at rx
        cases rx
        let q : Question := .appendCap bs.size 0 e
        let cap := q.cut (w.tape w.drawn q)
        have hcap : bs.size ≤ cap := Nat.le_add_right _ _
        let arr : Array Value := bs.data.map (fun b => .int .u8 b.toNat) ++ Array.replicate (cap - bs.size) (.int .u8 0)
        have hsz : arr.size = cap := by
          simp only [arr, Array.size_append, Array.size_map, Array.size_replicate]
          have : bs.data.size = bs.size := rfl
          omega
        refine ⟨.slice (some ⟨w.heap.size, 0, none⟩) bs.size cap, ⟨w.heap.size, 0, cap, 1⟩, .cells arr e (cap, cap + 1), { w with heap := w.heap.push (.cells arr e (cap, cap + 1)), drawn := w.drawn + 1 },
          run_v ?_, rfl, rfl, rfl, rfl, rfl, ?_, ?_⟩
        · rw [he]
          have hget : ({ w with heap := w.heap.push (.cells arr e), drawn := w.drawn + 1 } : World).heap[w.heap.size]? = some (.cells arr e (0, 0)) := by simp
          have hmk := run_markStringish (P := P) (off := 0) hget
          rw [freeze_eq hget] at hmk
          have hpush := setBlk_push { w with drawn := w.drawn + 1 } (.cells arr e (0, 0)) (.cells arr e (if (0 : Nat) == 0 then (arr.size, arr.size + 1) else (min 0 arr.size, max 0 (arr.size + 1))))
          simp only [Go.convert, Sem.run_bind, run_und s1, run_und d1, run_und e1, Result.andThen_ok]
          simp only [Conv.stringToBytes, Sem.run_bind, run_choose, show (Question.appendCap bs.size 0 e).forced = false from rfl, Bool.false_eq_true, if_false, Result.andThen_ok, newRow, run_newObj, Sem.run_pure]
          refine Eq.trans (congrArg (fun r => Result.andThen r _) hmk) ?_
          rw [Result.andThen_ok]
          refine congrArg (Result.ok _) (Eq.trans hpush ?_)
          rw [hsz]
          rfl
        · rw [← Lib.size_eq]
          exact .flex (off := 0) (Ren.upd_same _ _ _) (by simp) hcap (.inl rfl)
        · refine .cells hsz rfl (.inr (Nat.le_refl _)) (fun _ => rfl) fun j v hv => ?_
          rw [List.getElem?_map] at hv
          cases hb : bs.data.toList[j]? with
          | none => rw [hb] at hv; cases hv
          | some c =>
            rw [hb] at hv
            cases hv
            refine ⟨_, ?_, .int _ _⟩
            rw [Array.getElem?_toList] at hb
            have hlt := (Array.getElem?_eq_some_iff.1 hb).1
            simp only [arr, Nat.zero_add]
            rw [Array.getElem?_append_left (by simpa using hlt), Array.getElem?_map, hb]
            rfl
      · cases h4
    · cases h3

end
end Go.G

/- G against the model: writes. -/
namespace Go.G

section
variable {P : Program} {env : Env} {ρ : Ren} {s : Tmps} {a : Act}

theorem flat_all {vs vs' : List Value} (h : LRel ρ vs vs') (hf : vs.all flatCell = true) : vs'.all flatCell = true := by
  rw [List.all_eq_true] at hf ⊢
  intro x hx
  obtain ⟨i, hi⟩ := List.getElem?_of_mem hx
  have hlt : i < vs.length := by rw [h.1]; exact (List.getElem?_eq_some_iff.1 hi).1
  exact (h.2 i _ x (List.getElem?_eq_getElem hlt) hi).flat (hf _ (List.getElem_mem hlt))

theorem cells_end {L : Loc} {arr : Array Value} {c : List Value} (h : ∀ (k : Nat) (v : Value), c[k]? = some v → ∃ v', arr[L.base + k]? = some v' ∧ VRel ρ v v') {n : Nat} (hn : n ≤ c.length) (h0 : 0 < n) :
    L.base + n ≤ arr.size := by
  obtain ⟨v', h1, _⟩ := h (n - 1) c[n - 1] (List.getElem?_eq_getElem (by omega))
  have := (Array.getElem?_eq_some_iff.1 h1).1
  omega

theorem write_ok (P : Program) {h h' : Heap} {w : World} (K : Rel ρ h w.heap) {i off : Nat} {vs vs' : List Value} (hw : h.write ⟨i, off, none⟩ vs = .ok h') (hne : vs ≠ []) (hv : LRel ρ vs vs') :
    ∃ L w', ρ i = some L ∧ (storeCells ⟨L.b, L.base + off, none⟩ vs').run P w = .ok () w' ∧ Rel ρ h' w'.heap ∧ Ext ρ h w ρ h' w' := by
  cases vs with
  | nil => exact absurd rfl hne
  | cons v vs =>
  simp only [Heap.write] at hw
  obtain ⟨_, hf, hw⟩ := R.b_ok hw
  obtain ⟨p, hp, hw⟩ := R.b_ok hw
  obtain ⟨c, hc, hw⟩ := R.b_ok hw
  cases hw
  have hf' := flat_all hv (R.must_ok hf)
  obtain ⟨L, arr, e, lo, hi, g1, g2, g3, g4, g5, g6⟩ := K.cells (Heap.cells_ok hp)
  obtain ⟨q1, q2, q3⟩ := writeAt_ok hc
  have hlen := q2 hne
  have hend := cells_end g6 hlen (by simp only [List.length_cons]; omega)
  have hl := hv.1
  have hrun := run_storeCells (P := P) (b := L.b) (off := L.base + off) (e := e) (lo := lo) (hi := hi) vs' 0 w arr g2 (by omega) (by rw [g3]; exact g5) hf' (by intro e; rw [e] at hl; simp at hl)
  have hn : BlkRel ρ L (.cells p.1 c) (.cells (wr arr (L.base + off + 0) vs') e (lo, hi)) := by
    refine .cells (by rw [wr_size]; exact g3) g4 g5 (K.base0 (Heap.cells_ok hp) g1) fun k u hu => ?_
    rw [Nat.add_zero, wr_get _ _ _ (by omega)]
    rw [q3] at hu
    split at hu
    · rename_i hk
      obtain ⟨u', r1, r2⟩ := hv.get hu
      rw [if_pos (by omega), show L.base + k - (L.base + off) = k - off from by omega]
      exact ⟨u', r1, r2⟩
    · rename_i hk
      rw [if_neg (by omega)]
      exact g6 k u hu
  obtain ⟨r1, r2⟩ := K.set (Heap.cells_ok hp) g1 hn
  exact ⟨L, _, g1, hrun, r1, r2⟩

/-- What a loud operation comes to that enters no function. -/
def Done (P : Program) (a : Act) (o : Oper) (ρ : Ren) (h : Heap) (w : World) (v : Value) (h' : Heap) : Prop :=
  ∃ ρ' v' w', Rel ρ' h' w'.heap ∧ Ext ρ h w ρ' h' w' ∧ VRel ρ' v v' ∧ ((execOp a.eval o).run P w = .ok (.value v') w' ∨ ((execOp a.eval o).run P w = .ok .skip w' ∧ v' = undef))

theorem run_u {x : Sem Unit} {w w' : World} (h : x.run P w = .ok () w') : (do x; pure Next.skip : Sem Next).run P w = .ok .skip w' := by
  rw [Sem.run_bind, h]; rfl

theorem storeVar_ok (E : EnvOk P env) {h h' : Heap} {w : World} (K : Rel ρ h w.heap) {t i off : Nat} {L : Loc} {v v' : Value} (hL : ρ i = some L) (hv : VRel ρ v v') (hs : storeVar env h t ⟨i, off, none⟩ v = .ok h') :
    ∃ w', (Go.storeVar t ⟨L.b, L.base + off, none⟩ v').run P w = .ok () w' ∧ Rel ρ h' w'.heap ∧ Ext ρ h w ρ h' w' := by
  obtain ⟨ti, hti, h1⟩ := R.b_ok hs
  obtain ⟨_, hm, h2⟩ := R.b_ok (show (R.must (Nat.beq (cellsV v).length ti.size) "store size").b _ = .ok h' from h1)
  have T := Env.ti_ok E hti
  have hsz : (cellsV v).length = ti.size := Nat.eq_of_beq_eq_true (R.must_ok hm)
  have rc := hv.cells
  have hsz' : v'.cells.size = ti.size := by rw [← hsz, rc.1]; simp
  by_cases hne : cellsV v = []
  · rw [hne] at h2 rc
    cases h2
    have : v'.cells.toList = [] := rc.nil_inv
    exact ⟨w, by simp [Go.storeVar, T.run_size, hsz', this, storeCells], K, .refl _ _ _⟩
  · obtain ⟨M, w', g1, g2, g3, g4⟩ := write_ok P K h2 hne rc
    rw [hL] at g1; cases g1
    refine ⟨w', ?_, g3, g4⟩
    simp only [Go.storeVar, Sem.run_bind, T.run_size, Result.andThen_ok, hsz', ne_eq, not_true_eq_false, if_false, g2]

theorem store_done (E : EnvOk P env) (T : TRel ρ s a) {h h' : Heap} {w : World} (K : Rel ρ h w.heap) {dst : Option Tmp} {t : Nat} {x y : Operand} {ty : Nat} {pos : String} {after : Array Edge} {guard : Option (Nat × Bool)} {v : Value}
    {rec : Rec} (hq : loudOp env rec s h (.store t x y) = .ok (v, h')) : Done P a ⟨dst, .store t x y, ty, pos, after, guard⟩ ρ h w v h' := by
  simp only [loudOp] at hq
  obtain ⟨av, hav, h1⟩ := R.b_ok hq
  obtain ⟨p, hp, h2⟩ := R.b_ok h1
  obtain ⟨u, hu, h3⟩ := R.b_ok h2
  obtain ⟨h4, hs, h5⟩ := R.b_ok h3
  cases h5
  have hp := asAddr_ok hp
  subst hp
  obtain ⟨i, off, L, rfl, hL, he⟩ := (ev_ok T hav).ptr_inv
  obtain ⟨w', g1, g2, g3⟩ := storeVar_ok E K hL (ev_ok T hu) hs
  refine ⟨ρ, undef, w', g2, g3, .undef ρ, .inr ⟨run_u ?_, rfl⟩⟩
  rw [he]
  simp only [Instr.storeAt, Instr.sureAddr, Sem.run_bind, Sem.run_pure, Result.andThen_ok, g1]

/-- A block of another kind turned. -/
theorem set_done {h : Heap} {w : World} (K : Rel ρ h w.heap) {i : Nat} {b b' : Blk} {L : Loc} {o' : Obj} (hb : h.get i = some b) (hL : ρ i = some L) (hn : BlkRel ρ L b' o') :
    Rel ρ (h.put i b') ({ w with heap := w.heap.setIfInBounds L.b o' } : World).heap ∧ Ext ρ h w ρ (h.put i b') { w with heap := w.heap.setIfInBounds L.b o' } := K.set hb hL hn

theorem run_setObj {w : World} {b : Nat} {o o' : Obj} (h : w.heap[b]? = some o) (hc : ∀ c e f, o ≠ .cells c e f) : (setObj b o').run P w = .ok () { w with heap := w.heap.setIfInBounds b o' } := by
  simp only [setObj, Sem.run, h]

theorem run_getObj {w : World} {b : Nat} {o : Obj} (h : w.heap[b]? = some o) (hc : ∀ c e f, o ≠ .cells c e f) : (getObj b).run P w = .ok o w := by
  simp only [getObj, Sem.run, h]

theorem range_done (E : EnvOk P env) (T : TRel ρ s a) {h h' : Heap} {w : World} (K : Rel ρ h w.heap) {dst : Option Tmp} {t : Nat} {x : Operand} {ty : Nat} {pos : String} {after : Array Edge} {guard : Option (Nat × Bool)} {v : Value}
    {rec : Rec} (hq : loudOp env rec s h (.range t x) = .ok (v, h')) : Done P a ⟨dst, .range t x, ty, pos, after, guard⟩ ρ h w v h' := by
  simp only [loudOp] at hq
  obtain ⟨xv, hx, h1⟩ := R.b_ok hq
  obtain ⟨d, hd, h2⟩ := R.b_ok h1
  obtain ⟨D, d1, d2⟩ := Env.td_ok E hd
  have rx := ev_ok T hx
  have fin : ∀ (blk : Blk) (ob : Obj), BlkRel (ρ.upd h.next ⟨w.heap.size, 0, 0, 0⟩) ⟨w.heap.size, 0, 0, 0⟩ blk ob →
      (Instr.range t (a.eval x)).run P w = .ok (.pointer (some ⟨w.heap.size, 0, none⟩)) { w with heap := w.heap.push ob } →
      Done P a ⟨dst, .range t x, ty, pos, after, guard⟩ ρ h w (.pointer (some ⟨h.next, 0, none⟩)) (h.add blk) := by
    intro blk ob hb hrun
    obtain ⟨r1, r2⟩ := K.add (w' := { w with heap := w.heap.push ob }) (o := ob) ⟨w.heap.size, 0, 0, 0⟩ rfl rfl rfl rfl rfl hb
    exact ⟨_, _, _, r1, r2, .ptr (off := 0) (Ren.upd_same _ _ _), .inl (run_v hrun)⟩
  clear hq h1
  split at h2
  · cases tdOf_string d2.symm
    cases h2
    generalize he : a.eval x = z at rx
    cases rx
    refine fin _ (.stringIter _ 0) (.strIter rfl _ _) ?_
    rw [he]
    simp only [Instr.range, Sem.run_bind, run_und d1, Result.andThen_ok, Sem.run_pure, run_newObj]
  · cases tdOf_map d2.symm
    cases h2
    generalize he : a.eval x = z at rx
    cases rx
    refine fin _ (.mapIter none 0 #[] 0) (.mapIterNil rfl _ _ _ _ _ _) ?_
    rw [he]
    simp only [Instr.range, Sem.run_bind, run_und d1, Result.andThen_ok, Sem.run_pure, run_newObj]
  · cases tdOf_map d2.symm
    split at h2
    · rename_i hg
      cases h2
      generalize he : a.eval x = z at rx
      cases rx with
      | @map _ L hL =>
      obtain ⟨L', ob, g1, g2, g3⟩ := K.live _ _ hg
      rw [hL] at g1; cases g1
      cases g3 with
      | map _ hes =>
      refine fin _ (.mapIter (some L.b) _ #[] _) (.mapIter rfl (Ren.sub_upd K.fresh _ _ _ hL) rfl) ?_
      rw [he]
      simp only [Instr.range, Sem.run_bind, run_und d1, Result.andThen_ok, run_getObj g2 (fun _ _ _ e => by cases e), Sem.run_pure, run_newObj]
    · cases h2
  · cases h2

end
end Go.G

/- G against the model: iterators and maps. -/
namespace Go.G

section
variable {P : Program} {env : Env} {ρ : Ren} {s : Tmps} {a : Act}

theorem EsRel.filter {p p' : MapEntry → Bool} (hp : ∀ e e', ERel ρ e e' → p e = p' e') : ∀ {xs ys : List MapEntry}, EsRel ρ xs ys → EsRel ρ (xs.filter p) (ys.filter p')
  | [], ys, h => by cases h.nil_inv; exact h
  | e :: xs, ys, h => by
    obtain ⟨e', l, rfl, r1, r2⟩ := h.cons_inv
    have ih := EsRel.filter hp r2
    rw [List.filter_cons, List.filter_cons, ← hp _ _ r1]
    split
    · refine ⟨by simp [ih.1], fun i x y hx hy => ?_⟩
      cases i with
      | zero => simp at hx hy; subst hx; subst hy; exact r1
      | succ i => exact ih.2 i x y (by simpa using hx) (by simpa using hy)
    · exact ih

theorem EsRel.any {p p' : MapEntry → Bool} (hp : ∀ e e', ERel ρ e e' → p e = p' e') : ∀ {xs ys : List MapEntry}, EsRel ρ xs ys → xs.any p = ys.any p'
  | [], ys, h => by cases h.nil_inv; rfl
  | e :: xs, ys, h => by
    obtain ⟨e', l, rfl, r1, r2⟩ := h.cons_inv
    rw [List.any_cons, List.any_cons, hp _ _ r1, EsRel.any hp r2]

theorem blt_eq (x y : Nat) : Nat.blt x y = decide (x < y) := by rw [Bool.eq_iff_iff, Nat.blt_eq, decide_eq_true_eq]

theorem drop_get {b : ByteArray} {pos : Nat} {c : UInt8} {l : List UInt8} (h : b.data.toList.drop pos = c :: l) : b.get! pos = c := by
  have h0 : (b.data.toList.drop pos)[0]? = some c := by rw [h]; rfl
  rw [List.getElem?_drop, Nat.add_zero, Array.getElem?_toList] at h0
  show b.data[pos]! = c
  rw [getElem!_def, h0]

theorem decode_ascii {b : ByteArray} {pos : Nat} {c : UInt8} {l : List UInt8} (h : b.data.toList.drop pos = c :: l) (hc : c.toNat < 128) : Utf8.decode b pos = (c.toNat, 1) := by
  unfold Utf8.decode
  simp only [Nat.add_zero, drop_get h, if_pos hc]

theorem next_ok {h h' : Heap} {w : World} (K : Rel ρ h w.heap) {iv iv' v : Value} {isString : Bool} {ty : Nat} (hi : VRel ρ iv iv') (hq : gNext h iv isString = .ok (v, h')) :
    ∃ v' w', Rel ρ h' w'.heap ∧ Ext ρ h w ρ h' w' ∧ VRel ρ v v' ∧ (Instr.next iv' isString ty).run P w = .ok v' w' := by
  unfold gNext at hq
  split at hq
  case h_2 => cases hq
  rename_i r
  obtain ⟨i, off, L, e0, hL, rfl⟩ := hi.ptr_inv
  cases e0
  split at hq
  · -- a string
    rename_i str pos hg
    obtain ⟨L', ob, g1, g2, g3⟩ := K.live _ _ hg
    rw [hL] at g1; cases g1
    cases g3 with
    | strIter hb =>
    rw [hb]
    rcases cond_ok hq with ⟨e, h1⟩ | ⟨e, h1⟩
    · rw [Nat.blt_eq, ← Lib.size_eq] at e
      split at h1
      · rename_i c l hd
        obtain ⟨_, hc, h2⟩ := R.b_ok h1
        cases h2
        have hc := R.must_ok hc
        rw [Nat.blt_eq] at hc
        obtain ⟨r1, r2⟩ := K.set hg hL (.strIter hb str (pos + 1))
        refine ⟨_, _, r1, r2, .tuple_of (.cons (.bool _) (.cons (.int _ _) (.cons (.int _ _) (.nil ρ)))), ?_⟩
        simp only [Instr.next, Nat.add_zero, Sem.run_bind, run_getObj g2 (fun _ _ _ e => by cases e), Result.andThen_ok, e, if_true, decode_ascii hd hc, run_setObj g2 (fun _ _ _ e => by cases e), Sem.run_pure]
        rfl
      · cases h1
    · cases h1
      have e : ¬ pos < str.size := by
        intro h
        rw [Lib.size_eq, ← Nat.blt_eq, e] at h
        cases h
      refine ⟨_, w, K, .refl _ _ _, .tuple_of (.cons (.bool _) (.nil ρ)), ?_⟩
      simp only [Instr.next, Nat.add_zero, Sem.run_bind, run_getObj g2 (fun _ _ _ e => by cases e), Result.andThen_ok, e, if_false, Sem.run_pure]
  · -- no map
    rename_i hg
    obtain ⟨L', ob, g1, g2, g3⟩ := K.live _ _ hg
    rw [hL] at g1; cases g1
    cases hq
    cases g3 with
    | mapIterNil hb =>
    rw [hb]
    refine ⟨_, w, K, .refl _ _ _, .tuple_of (.cons (.bool _) (.nil ρ)), ?_⟩
    simp only [Instr.next, Nat.add_zero, Sem.run_bind, run_getObj g2 (fun _ _ _ e => by cases e), Result.andThen_ok, Sem.run_pure]
  · -- a map
    rename_i m since seen stepped hg
    obtain ⟨L', ob, g1, g2, g3⟩ := K.live _ _ hg
    rw [hL] at g1; cases g1
    split at hq
    case h_2 => cases hq
    rename_i es clock hm
    obtain ⟨_, hc, hq⟩ := R.b_ok hq
    have hc := R.must_ok hc
    cases g3 with
    | @mapIter _ _ _ M _ seen' hb hM hs =>
    obtain ⟨M', ob2, g4, g5, g6⟩ := K.live _ _ hm
    rw [hM] at g4; cases g4
    cases g6 with
    | @map _ es' _ hb2 hes =>
    rw [hb]
    have hseen : ∀ n : Nat, (seen.any fun b => Nat.beq b n) = seen'.contains n := by
      intro n
      rw [← hs, List.any_reverse, ← Array.contains_toList, Bool.eq_iff_iff, List.any_eq_true, List.contains_iff_mem]
      constructor
      · rintro ⟨x, hx, hb⟩
        rw [Nat.beq_eq] at hb
        rw [← hb]; exact hx
      · intro hx
        exact ⟨n, hx, Nat.beq_refl n⟩
    have hleft := EsRel.filter (ρ := ρ) (p := fun e => !(seen.any fun b => Nat.beq b e.born)) (p' := fun e => !seen'.contains e.born) (fun e e' r => by rw [hseen, r.born]) hes
    have hold := EsRel.filter (ρ := ρ) (p := fun e => Nat.blt e.born since) (p' := fun e => decide (e.born < since)) (fun e e' r => by rw [blt_eq, r.born]) hleft
    have hnew := EsRel.filter (ρ := ρ) (p := fun e => !Nat.blt e.born since) (p' := fun e => decide (e.born ≥ since)) (fun e e' r => by rw [blt_eq, r.born, ← decide_not]; congr 1; exact propext Nat.not_lt) hleft
    have hany := EsRel.any (ρ := ρ) (p := fun e => Nat.blt e.born stepped) (p' := fun e => decide (e.born < stepped)) (fun e e' r => by rw [blt_eq, r.born]) hes
    have hgate : (!seen'.isEmpty && !es'.isEmpty && es'.all fun e => decide (e.born ≥ stepped)) = false := by
      simp only [Bool.or_eq_true] at hc
      rcases hc with (h1 | h1) | h1
      · have : seen'.isEmpty = true := by
          rw [← hs] at h1
          simpa using h1
        rw [this]; rfl
      · have : es'.isEmpty = true := by
          have h2 : es.length = 0 := by simpa using h1
          have h3 := hes.1
          rw [h2] at h3
          simpa using h3.symm
        rw [this, Bool.not_true, Bool.and_false, Bool.false_and]
      · rw [hany] at h1
        have : (es'.all fun e => decide (e.born ≥ stepped)) = false := by
          rw [← Array.all_toList, ← Bool.not_eq_true, List.all_eq_true]
          intro hall
          rw [List.any_eq_true] at h1
          obtain ⟨x, hx, hlt⟩ := h1
          have := hall x hx
          rw [decide_eq_true_eq] at hlt this
          omega
        rw [this, Bool.and_false]
    have hl1 : ∀ f : MapEntry → Bool, (es'.filter f).toList = es'.toList.filter f := fun f => Array.toList_filter
    have hl2 : ∀ f g : MapEntry → Bool, ((es'.filter f).filter g).toList = (es'.toList.filter f).filter g := fun f g => by rw [Array.toList_filter, Array.toList_filter]
    have hc0 : ((if (#[] : Array MapEntry).isEmpty = true then #[none] else #[]) ++ Array.map some ((#[] : Array MapEntry) ++ #[])) = (#[none] : Array (Option MapEntry)) := by simp
    have hc1 : ∀ e : MapEntry, ((if (#[e] : Array MapEntry).isEmpty = true then #[none] else #[]) ++ Array.map some (#[e] ++ #[])) = (#[some e] : Array (Option MapEntry)) := by intro e; simp
    have hch : ∀ x : Option MapEntry, (choose (.mapNext (#[x] : Array (Option MapEntry)).size)).run P w = .ok 0 w := fun x => rfl
    dsimp only at hq
    split at hq
    · -- nothing is left
      rename_i ho hn
      cases hq
      rw [ho] at hold
      rw [hn] at hnew
      have ho' := hold.nil_inv
      have hn' := hnew.nil_inv
      rw [← hl2, Array.toList_eq_nil_iff] at ho' hn'
      refine ⟨_, w, K, .refl _ _ _, .tuple_of (.cons (.bool _) (.nil ρ)), ?_⟩
      simp only [Instr.next, Nat.add_zero, Sem.run_bind, run_getObj g2 (fun _ _ _ e => by cases e), run_getObj g5 (fun _ _ _ e => by cases e), Result.andThen_ok, hgate, Bool.false_eq_true, if_false, ho', hn', hc0, hch]
      rfl
    · -- one
      rename_i e0 ho hn
      cases hq
      rw [ho] at hold
      rw [hn] at hnew
      obtain ⟨e', l, ho', r1, r2⟩ := hold.cons_inv
      cases r2.nil_inv
      have hn' := hnew.nil_inv
      rw [← hl2] at ho' hn'
      rw [Array.toList_eq_nil_iff] at hn'
      have ho' : (es'.filter fun e => !seen'.contains e.born).filter (fun e => decide (e.born < since)) = #[e'] := by
        apply Array.ext'; exact ho'
      obtain ⟨q1, q2⟩ := K.set hg hL (.mapIter (m := m) (M := M) (since := since) (stepped := clock) (seen := e0.born :: seen) (seen' := seen'.push e'.born) hb hM (by simp [hs, r1.born]))
      refine ⟨_, _, q1, q2, .tuple_of (.cons (.bool _) (.cons r1.key (.cons r1.val (.nil ρ)))), ?_⟩
      simp only [Instr.next, Nat.add_zero, Sem.run_bind, run_getObj g2 (fun _ _ _ e => by cases e), run_getObj g5 (fun _ _ _ e => by cases e), Result.andThen_ok, hgate, Bool.false_eq_true, if_false, ho', hn', hc1, hch]
      show ((setObj L.b (.mapIter (some M.b) since (seen'.push e'.born) clock) >>= fun _ => pure (Value.tuple #[.bool true, e'.key, e'.val]) : Sem Value)).run P w = _
      rw [Sem.run_bind, run_setObj g2 (fun _ _ _ e => by cases e)]
      rfl
    · cases hq
  · cases hq

end
end Go.G

/- G against the model: maps that are written. -/
namespace Go.G

theorem vEqs_ok {eq : Value → Value → Bool} (h : ∀ a b, eq a b = true → a = b) : ∀ {x y : List Value}, vEqs eq x y = true → x = y
  | [], [], _ => rfl
  | [], _ :: _, h' => by cases h'
  | _ :: _, [], h' => by cases h'
  | a :: x, b :: y, h' => by
    simp only [vEqs, Bool.and_eq_true] at h'
    rw [h a b h'.1, vEqs_ok h h'.2]

theorem bytes_inj {a b : ByteArray} (h : bytesEq a b = true) : a = b := by
  unfold bytesEq at h
  rw [beq_iff_eq] at h
  exact ByteArray.ext (Array.ext' h)

theorem vFlat_ok {a b : Value} (h : vFlat a b = true) : a = b := by
  unfold vFlat at h
  split at h
  · rw [beq_iff_eq] at h; rw [h]
  · simp only [Bool.and_eq_true, beq_iff_eq, decide_eq_true_eq] at h; rw [h.1, h.2]
  · rw [bytes_inj h]
  · rw [decide_eq_true_eq] at h; rw [h]
  · simp only [Bool.and_eq_true, decide_eq_true_eq, Nat.beq_eq] at h; rw [h.1.1, h.1.2, h.2]
  · rw [decide_eq_true_eq] at h; rw [h]
  · rfl
  · rfl
  · cases h

theorem vEqStep_ok {eq : Value → Value → Bool} (he : ∀ a b, eq a b = true → a = b) {a b : Value} (h : vEqStep eq a b = true) : a = b := by
  unfold vEqStep at h
  split at h
  · simp only [Bool.and_eq_true, decide_eq_true_eq] at h
    rw [h.1.1, Array.ext' (vEqs_ok he h.1.2), Array.ext' (vEqs_ok he h.2)]
  · rw [Array.ext' (vEqs_ok he h)]
  · rw [Array.ext' (vEqs_ok he h)]
  · exact vFlat_ok h

theorem vEq_ok : ∀ (n : Nat) (a b : Value), vEq n a b = true → a = b
  | 0, _, _, h => vFlat_ok h
  | n + 1, _, _, h => vEqStep_ok (vEq_ok n) h

section
variable {P : Program} {env : Env} {ρ : Ren} {s : Tmps} {a : Act}

theorem EsRel.get {es es' : List MapEntry} (h : EsRel ρ es es') {i : Nat} {e : MapEntry} (he : es[i]? = some e) : ∃ e', es'[i]? = some e' ∧ ERel ρ e e' := by
  have hi : i < es.length := (List.getElem?_eq_some_iff.1 he).1
  have hj : i < es'.length := h.1 ▸ hi
  exact ⟨_, List.getElem?_eq_getElem hj, h.2 i e _ he (List.getElem?_eq_getElem hj)⟩

theorem EsRel.modify {es es' : List MapEntry} (h : EsRel ρ es es') (i : Nat) {f f' : MapEntry → MapEntry} (hf : ∀ e e', es[i]? = some e → es'[i]? = some e' → ERel ρ (f e) (f' e')) : EsRel ρ (es.modify i f) (es'.modify i f') := by
  refine ⟨by simp [h.1], fun j x y hx hy => ?_⟩
  rw [List.getElem?_modify] at hx hy
  by_cases hij : i = j
  · subst hij
    simp only [if_true] at hx hy
    cases h1 : es[i]? with
    | none => rw [h1] at hx; cases hx
    | some e =>
      cases h2 : es'[i]? with
      | none => rw [h2] at hy; cases hy
      | some e' =>
        rw [h1] at hx; rw [h2] at hy
        cases hx; cases hy
        exact hf e e' h1 h2
  · simp only [if_neg hij] at hx hy
    cases h1 : es[j]? with
    | none => rw [h1] at hx; cases hx
    | some e =>
      cases h2 : es'[j]? with
      | none => rw [h2] at hy; cases hy
      | some e' =>
        rw [h1] at hx; rw [h2] at hy
        cases hx; cases hy
        exact h.2 j e e' h1 h2

theorem EsRel.push {es es' : List MapEntry} (h : EsRel ρ es es') {e e' : MapEntry} (he : ERel ρ e e') : EsRel ρ (es ++ [e]) (es' ++ [e']) := by
  refine ⟨by simp [h.1], fun j x y hx hy => ?_⟩
  rcases Nat.lt_or_ge j es.length with hj | hj
  · rw [List.getElem?_append_left hj] at hx
    rw [List.getElem?_append_left (h.1 ▸ hj)] at hy
    exact h.2 j x y hx hy
  · rw [List.getElem?_append_right hj] at hx
    rw [List.getElem?_append_right (h.1 ▸ hj), ← h.1] at hy
    cases hk : j - es.length with
    | zero => rw [hk] at hx hy; cases hx; cases hy; exact he
    | succ k => rw [hk] at hx; simp at hx

theorem EsRel.erase {es es' : List MapEntry} (h : EsRel ρ es es') (i : Nat) : EsRel ρ (es.eraseIdx i) (es'.eraseIdx i) := by
  refine ⟨by rw [List.length_eraseIdx, List.length_eraseIdx, h.1], fun j x y hx hy => ?_⟩
  rw [List.getElem?_eraseIdx] at hx hy
  split at hx
  · rename_i hj; rw [if_pos hj] at hy; exact h.2 _ x y hx hy
  · rename_i hj; rw [if_neg hj] at hy; exact h.2 _ x y hx hy

theorem EsRel.findIdx {es es' : List MapEntry} {p p' : MapEntry → Bool} (hp : ∀ e e', ERel ρ e e' → p e = p' e') (h : EsRel ρ es es') : es.findIdx? p = es'.findIdx? p' := by
  induction es generalizing es' with
  | nil => cases h.nil_inv; rfl
  | cons e es ih =>
    obtain ⟨e', l, rfl, r1, r2⟩ := h.cons_inv
    rw [List.findIdx?_cons, List.findIdx?_cons, hp _ _ r1, ih r2]

/-- Which of two keys that are one abstract key stays. -/
theorem keyStays {k x y : Value} (hx : VRel ρ k x) (hy : VRel ρ k y) (w : World) :
    ∃ z w', (Instr.keyThatStays x y).run P w = .ok z w' ∧ VRel ρ k z ∧ w'.heap = w.heap ∧ w'.os = w.os ∧ w'.tape = w.tape ∧ w'.output = w.output := by
  unfold Instr.keyThatStays
  by_cases h : Instr.sameBits 10000 x y = true
  · rw [if_pos h]
    exact ⟨y, w, rfl, hy, rfl, rfl, rfl, rfl⟩
  · rw [if_neg h]
    simp only [Sem.run_bind, run_choose]
    have hf : (Question.extern "map.whichKeyStays" 2).forced = false := rfl
    rw [hf]
    simp only [Bool.false_eq_true, if_false, Result.andThen_ok, Sem.run_pure]
    refine ⟨_, _, rfl, ?_, rfl, rfl, rfl, rfl⟩
    split
    · exact hy
    · exact hx

theorem mapPut_ok (E : EnvOk P env) {h h' : Heap} {w : World} (K : Rel ρ h w.heap) {t : Nat} {m k m' k' : Value} {f : Value → Value} {zero : Bool} {x v : Value} {born : Nat} (hm : VRel ρ m m') (hk : VRel ρ k k')
    (hq : gMapPut env h t m k f zero x = .ok (v, born, h')) :
    ∃ r L es' clock kt el w1, m' = .map (some L.b) ∧ ρ r = some L ∧ P.underlying t = some (.map kt el) ∧ w.heap[L.b]? = some (.map es' clock) ∧ (Instr.checkKey false 10000 kt k').run P w = .ok () w ∧
      w1.heap = w.heap ∧ w1.os = w.os ∧ w1.tape = w.tape ∧ w1.output = w.output ∧
      ((∃ i v' kz e0, (Instr.findKey kt k' es'.toList).run P w = .ok (some (i, v')) w ∧ VRel ρ v v' ∧ es'[i]? = some e0 ∧ e0.born = born ∧ (Instr.keyThatStays (((es'[i]?).map (·.key)).getD k') k').run P w = .ok kz w1 ∧
          ∀ f' : Value → Value, (∀ u u', VRel ρ u u' → VRel ρ (f u) (f' u')) →
            Rel ρ h' (setBlk w1 L.b (.map (es'.modify i fun e => { e with key := kz, val := f' e.val }) clock)).heap ∧ Ext ρ h w ρ h' (setBlk w1 L.b (.map (es'.modify i fun e => { e with key := kz, val := f' e.val }) clock))) ∨
        ((Instr.findKey kt k' es'.toList).run P w = .ok none w ∧ w1 = w ∧ born = clock ∧ (zero = true → VRel ρ v v ∧ (zeroValue el).run P w = .ok v w) ∧ (zero = false → v = x) ∧
          ∀ v', VRel ρ v v' → Rel ρ h' (setBlk w L.b (.map (es'.push { key := k', val := v', born := clock }) (clock + 1))).heap ∧ Ext ρ h w ρ h' (setBlk w L.b (.map (es'.push { key := k', val := v', born := clock }) (clock + 1))))) := by
  unfold gMapPut at hq
  obtain ⟨d, hd, q⟩ := R.b_ok hq
  obtain ⟨D, d1, d2⟩ := Env.td_ok E hd
  clear hq
  split at q
  case h_2 => cases q
  rename_i kt el r
  cases tdOf_map d2.symm
  obtain ⟨ei, hei, q⟩ := R.b_ok q
  obtain ⟨_, hc, q⟩ := R.b_ok q
  cases hm with
  | @map _ L hL =>
  split at q
  case h_2 => cases q
  rename_i es clock hg
  obtain ⟨fd, hfd, q⟩ := R.b_ok q
  obtain ⟨L', ob, g1, g2, g3⟩ := K.live _ _ hg
  rw [hL] at g1; cases g1
  cases g3 with
  | @map _ es' clock hb hes =>
  obtain ⟨KD, kd1⟩ := keyCheck_und E hc
  obtain ⟨fd', f1, f2⟩ := findKey_ok E kd1 hfd hk hes w
  have hck := keyCheck_ok E (empty := false) hc hk w
  cases fd with
  | some p =>
    cases fd' with
    | none => exact f1.elim
    | some p' =>
    obtain ⟨i, u⟩ := p
    obtain ⟨i', u'⟩ := p'
    obtain ⟨rfl, ru⟩ := f1
    obtain ⟨e0, he0, q⟩ := R.b_ok q
    obtain ⟨_, hv, q⟩ := R.b_ok q
    cases q
    have he0 := R.of_ok he0
    have hv := vEq_ok _ _ _ (R.must_ok hv)
    obtain ⟨e1, h1, r1⟩ := hes.get he0
    rw [Array.getElem?_toList] at h1
    obtain ⟨kz, w1, s1, s2, s3, s4, s5, s6⟩ := keyStays (P := P) (hv ▸ r1.key) hk w
    refine ⟨r, L, es', _, kt, el, w1, rfl, hL, d1, g2, hck, s3, s4, s5, s6, .inl ⟨i, u', kz, e1, f2, ru, h1, r1.born.symm, ?_, fun f' hf => ?_⟩⟩
    · rw [h1]; exact s1
    · have hn : ∀ clock, BlkRel ρ L (.map (es.modify i fun en => { en with key := k, val := f en.val }) clock) (.map (es'.modify i fun e => { e with key := kz, val := f' e.val }) clock) := by
        intro clock
        refine .map hb ?_
        rw [Array.toList_modify]
        refine hes.modify i fun e e' a b => ?_
        have := hes.2 i e e' a b
        exact ⟨s2, hf _ _ this.val, this.born⟩
      have K1 : Rel ρ h w1.heap := by rw [s3]; exact K
      obtain ⟨q1, q2⟩ := K1.set hg hL (hn _)
      exact ⟨q1, (Ext.draw s3 s4 s5 s6).trans q2⟩
  | none =>
    cases fd' with
    | some p => exact f1.elim
    | none =>
    obtain ⟨z, hz, q⟩ := R.b_ok q
    cases q
    refine ⟨r, L, es', _, kt, el, w, rfl, hL, d1, g2, hck, rfl, rfl, rfl, rfl, .inr ⟨f2, rfl, rfl, ?_, ?_, fun v' hv => ?_⟩⟩
    · intro e
      rw [e] at hz
      exact valOf_ok (Env.ti_ok E hei) hz w
    · intro e
      rw [e] at hz
      cases hz
      rfl
    · refine K.set hg hL (.map hb ?_)
      rw [Array.toList_push]
      exact hes.push ⟨hk, hv, rfl⟩

end
end Go.G

/- G against the model: the loud operations on maps and iterators; copy and clear. -/
namespace Go.G

section
variable {P : Program} {env : Env} {ρ : Ren} {s : Tmps} {a : Act}

theorem mapUpdate_run (E : EnvOk P env) (T : TRel ρ s a) {h h' : Heap} {w : World} (K : Rel ρ h w.heap) {t : Nat} {m k x : Operand} {mv kv xv : Value} {r : Value × Nat × Heap}
    (hm : ev s m = .ok mv) (hk : ev s k = .ok kv) (hx : ev s x = .ok xv) (hq : gMapPut env h t mv kv (fun _ => xv) false xv = .ok r) (hh : r.2.2 = h') :
    ∃ w', (Instr.mapUpdate t (a.eval m) (a.eval k) (a.eval x)).run P w = .ok () w' ∧ Rel ρ h' w'.heap ∧ Ext ρ h w ρ h' w' := by
  obtain ⟨v, born, hp⟩ := r
  simp only at hh
  subst hh
  have rx := ev_ok T hx
  obtain ⟨r, L, es', clock, kt, el, w1, e1, hL, d1, g2, hck, s3, s4, s5, s6, hcase⟩ := mapPut_ok E K (ev_ok T hm) (ev_ok T hk) hq
  rcases hcase with ⟨i, v', kz, e0, f2, ru, h1, hb, hks, hfin⟩ | ⟨f2, rfl, rfl, _, hz, hfin⟩
  · obtain ⟨q1, q2⟩ := hfin (fun _ => a.eval x) (fun _ _ _ => rx)
    refine ⟨_, ?_, q1, q2⟩
    rw [e1]
    have g3 : w1.heap[L.b]? = some (.map es' clock) := by rw [s3]; exact g2
    simp only [Instr.mapUpdate, Sem.run_bind, run_und d1, Result.andThen_ok, run_getObj g2 (fun _ _ _ e => by cases e), hck, f2, hks, run_setObj g3 (fun _ _ _ e => by cases e)]
    rfl
  · have hv := hz rfl
    subst hv
    obtain ⟨q1, q2⟩ := hfin _ rx
    refine ⟨_, ?_, q1, q2⟩
    rw [e1]
    simp only [Instr.mapUpdate, Sem.run_bind, run_und d1, Result.andThen_ok, run_getObj g2 (fun _ _ _ e => by cases e), hck, f2, run_setObj g2 (fun _ _ _ e => by cases e)]
    rfl

theorem mapEntry_run (E : EnvOk P env) (T : TRel ρ s a) {h h' : Heap} {w : World} (K : Rel ρ h w.heap) {t : Nat} {m k : Operand} {mv kv : Value} {r : Value × Nat × Heap}
    (hm : ev s m = .ok mv) (hk : ev s k = .ok kv) (hq : gMapPut env h t mv kv id true undef = .ok r) (hh : r.2.2 = h') :
    ∃ w' v', (Instr.mapEntry t (a.eval m) (a.eval k)).run P w = .ok v' w' ∧ VRel ρ (.tuple #[r.1, goInt r.2.1]) v' ∧ Rel ρ h' w'.heap ∧ Ext ρ h w ρ h' w' := by
  obtain ⟨v, born, hp⟩ := r
  simp only at hh
  subst hh
  obtain ⟨r, L, es', clock, kt, el, w1, e1, hL, d1, g2, hck, s3, s4, s5, s6, hcase⟩ := mapPut_ok E K (ev_ok T hm) (ev_ok T hk) hq
  rcases hcase with ⟨i, v', kz, e0, f2, ru, h1, hb, hks, hfin⟩ | ⟨f2, rfl, rfl, hz, _, hfin⟩
  · obtain ⟨q1, q2⟩ := hfin id (fun _ _ h => h)
    refine ⟨_, .tuple #[v', goInt born], ?_, .tuple_of (.cons ru (.cons (.int _ _) (.nil ρ))), q1, q2⟩
    rw [e1]
    have g3 : w1.heap[L.b]? = some (.map es' clock) := by rw [s3]; exact g2
    rw [h1] at hks
    simp only [Option.map_some, Option.getD_some] at hks
    simp only [Instr.mapEntry, Sem.run_bind, run_und d1, Result.andThen_ok, run_getObj g2 (fun _ _ _ e => by cases e), hck, f2, hks, run_setObj g3 (fun _ _ _ e => by cases e), Sem.run_pure, h1, Option.map_some, Option.getD_some, hb]
    rfl
  · obtain ⟨z1, z2⟩ := hz rfl
    obtain ⟨q1, q2⟩ := hfin _ z1
    refine ⟨_, .tuple #[v, goInt born], ?_, .tuple_of (.cons z1 (.cons (.int _ _) (.nil ρ))), q1, q2⟩
    rw [e1]
    simp only [Instr.mapEntry, Sem.run_bind, run_und d1, Result.andThen_ok, run_getObj g2 (fun _ _ _ e => by cases e), hck, f2, z2, run_setObj g2 (fun _ _ _ e => by cases e), Sem.run_pure]
    rfl

/-- Writing by a slice's own address. -/
theorem write_slice (P : Program) {h h' : Heap} {w : World} (K : Rel ρ h w.heap) {p : Addr} {n cap k : Nat} {z : Value} {vs vs' : List Value} (hx : VRel ρ (.slice (some p) n cap) z) (hw : h.write ⟨p.block, p.off + k, none⟩ vs = .ok h') (hv : LRel ρ vs vs')
    (hnil : ∀ p' c', z = .slice (some p') n c' → c' = 0 → vs = []) :
    ∃ p' c' w', z = .slice (some p') n c' ∧ (storeCells (p'.add k) vs').run P w = .ok () w' ∧ Rel ρ h' w'.heap ∧ Ext ρ h w ρ h' w' := by
  by_cases hne : vs = []
  · subst hne
    cases hw
    cases hv.nil_inv
    cases hx with
    | slice _ _ _ _ => exact ⟨_, _, w, rfl, rfl, K, .refl _ _ _⟩
    | flex _ _ _ _ => exact ⟨_, _, w, rfl, rfl, K, .refl _ _ _⟩
  · obtain ⟨L, w', g1, g2, g3, g4⟩ := write_ok P K hw hne hv
    cases hx with
    | slice hL hc hn ha =>
      rw [hL] at g1; cases g1
      rcases ha with rfl | h0
      · refine ⟨_, _, w', rfl, ?_, g3, g4⟩
        rw [Addr.add_plain, Nat.add_assoc]
        exact g2
      · exact absurd (hnil _ _ rfl h0) hne
    | flex hL hc hn ha =>
      rw [hL] at g1; cases g1
      rcases ha with rfl | h0
      · refine ⟨_, _, w', rfl, ?_, g3, g4⟩
        rw [Addr.add_plain, Nat.add_assoc]
        exact g2
      · exact absurd (hnil _ _ rfl h0) hne

theorem lenOf_ok {v v' : Value} {n : Nat} (h : lenOf v = .ok n) (hv : VRel ρ v v') (w : World) : (Builtin.lenOf v').run P w = .ok n w := by
  cases v with
  | slice a m c => cases h; cases hv <;> rfl
  | string s => cases h; cases hv; simp only [Builtin.lenOf, Sem.run_pure, Lib.size_eq]
  | _ => cases h

theorem firstCells_ok {h : Heap} {w : World} (K : Rel ρ h w.heap) {v v' : Value} {size n m : Nat} {cs : List Value} (hf : firstCells h size n v = .ok cs) (hv : VRel ρ v v') (hl : lenOf v = .ok m) (hn : n ≤ m) :
    ∃ cs', LRel ρ cs cs' ∧ ∀ w1 : World, w1.heap = w.heap → (Builtin.firstCells size n v').run P w1 = .ok ⟨cs'⟩ w1 := by
  cases v with
  | slice a k c =>
    cases hl
    cases a with
    | none => cases hf; cases hv; exact ⟨[], .nil ρ, fun _ _ => rfl⟩
    | some p =>
      have h0 : m = 0 → n * size = 0 := by
        intro e
        have : n = 0 := by omega
        rw [this, Nat.zero_mul]
      obtain ⟨p', c', cs', rfl, q1, q2⟩ := read_slice (P := P) K hv hf h0
      exact ⟨cs', q1, q2⟩
  | string s =>
    cases hf
    cases hv
    refine ⟨(s.data.toList.take n).map fun b => .int .u8 b.toNat, ⟨rfl, fun i x y hx hy => ?_⟩, fun _ _ => ?_⟩
    · rw [hx] at hy; cases hy
      rw [List.getElem?_map] at hx
      cases h1 : (s.data.toList.take n)[i]? with
      | none => rw [h1] at hx; cases hx
      | some b => rw [h1] at hx; cases hx; exact .int _ _
    · simp only [Builtin.firstCells, Sem.run_pure]
      congr 1
      apply Array.ext'
      rw [Array.toList_map, Lib.extract_data]
      rfl
  | _ => cases hf

end
end Go.G

/- G against the model: append. -/
namespace Go.G

section
variable {P : Program} {env : Env} {ρ : Ren} {s : Tmps} {a : Act}

theorem growBy_le (n B : Nat) (hB : n + (n + 768) / 4 ≤ B) : ∀ (r c : Nat), c ≤ B → Builtin.growBy n r c ≤ B
  | 0, c, h => h
  | r + 1, c, h => by
    simp only [Builtin.growBy]
    split
    · exact h
    · exact growBy_le n B hB r _ (by omega)

theorem next_cap_le {need cap : Nat} (h : cap < need) : Builtin.nextslicecap need cap ≤ 2 * need + 2000 := by
  unfold Builtin.nextslicecap
  split
  · omega
  · split
    · omega
    · exact growBy_le need _ (by omega) 4 cap (by omega)

theorem cap_bytes {need cap bytes : Nat} (h : cap < need) (h1 : need * bytes ≤ 1000000) (h2 : need ≤ 1000000) : ¬(Builtin.nextslicecap need cap * bytes > 2 ^ 48) := by
  have h3 := next_cap_le h
  have h4 : bytes ≤ 1000000 := by
    have : 1 * bytes ≤ need * bytes := Nat.mul_le_mul_right _ (by omega)
    omega
  have h5 : Builtin.nextslicecap need cap * bytes ≤ (2 * need + 2000) * bytes := Nat.mul_le_mul_right _ h3
  have h6 : (2 * need + 2000) * bytes = 2 * (need * bytes) + 2000 * bytes := by rw [Nat.add_mul, Nat.mul_assoc]
  omega

theorem zeroCells_eq {z : List Value} (n : Nat) : Builtin.zeroCells ⟨z⟩ n = ⟨rep z n⟩ := rows_eq (z := z) (n := n) rfl

theorem append_run (E : EnvOk P env) {st xt e : Nat} {k : TI} {z new : List Value} {base : Option Addr} {len cap n : Nat} {x : Value} {w : World} {ty : Nat} {D : TypeDesc}
    (hs : P.underlying st = some (.slice e)) (hx : P.underlying xt = some D) (hk : env.ti e = .ok k) (hz : k.zero = some z) (hzl : z.length = k.size)
    (hb : (len + n) * k.bytes ≤ 1000000) (hn : len + n ≤ 1000000)
    (hsrc : ((∃ q, D = .int q) ∧ (∃ q l, x = .int q l ∧ 0 ≤ l ∧ l ≤ 1000000 ∧ n = l.toNat) ∧ new = rep z n ∧ (1 ≤ k.bytes)) ∨
      ((∀ q, D ≠ .int q) ∧ (Builtin.lenOf x).run P w = .ok n w ∧ (∀ d, (Builtin.firstCells k.size n x).run P { w with drawn := d } = .ok ⟨new⟩ { w with drawn := d }))) :
    (len + n ≤ cap → (Builtin.append_ #[st, xt] ty #[.slice base len cap, x]).run P w =
      (match base with
       | some a => ((storeCells (a.add (len * k.size)) new).run P w).andThen fun _ w' => .ok (.slice base (len + n) cap) w'
       | none => .ok (.slice base (len + n) cap) w)) ∧
    (cap < len + n → ∀ old, (∀ d, (Builtin.firstCells k.size len (.slice base len cap)).run P { w with drawn := d } = .ok ⟨old⟩ { w with drawn := d }) →
      ∃ c, len + n ≤ c ∧ (Builtin.append_ #[st, xt] ty #[.slice base len cap, x]).run P w =
        .ok (.slice (some ⟨w.heap.size, 0, none⟩) (len + n) c) { w with heap := w.heap.push (.cells ⟨old ++ new ++ rep z (c - (len + n))⟩ e), drawn := w.drawn + 1 }) := by
  have K := Env.ti_ok E hk
  obtain ⟨f, i1, i2, i3, _⟩ := K.info
  have hzv := fun w => K.run_zero hz w
  have hcut : ∀ t, len + n ≤ (Question.appendCap (len + n) cap e).cut t := fun t => Nat.le_add_right _ _
  have hforce : (Question.appendCap (len + n) cap e).forced = false := rfl
  have hbig : ¬((len + n : Nat) : Int) > IntKind.i64.max := by
    have : IntKind.i64.max = 9223372036854775807 := by decide
    omega
  rcases hsrc with ⟨⟨q0, rfl⟩, ⟨q, l, rfl, hl1, hl2, rfl⟩, rfl, hb1⟩ | ⟨hno, hlen, hfirst⟩
  · -- zeros
    have hw : IntKind.i64.wrap l = l := by unfold IntKind.wrap; simp [IntKind.bits, IntKind.signed]; omega
    have c1 : ¬(l < 0) := by omega
    have hlb : l * (f.bytes : Int) ≤ 1000000 := by
      rw [i3] at hb
      have h1 : l.toNat * f.bytes ≤ (len + l.toNat) * f.bytes := Nat.mul_le_mul_right _ (by omega)
      have h2 : ((l.toNat * f.bytes : Nat) : Int) = l * f.bytes := by rw [Int.natCast_mul, Int.toNat_of_nonneg hl1]
      omega
    have c2 : ¬(l * (f.bytes : Int) > 2 ^ 48) := by omega
    have hnew : ∀ w, (if l.toNat * k.size = 0 then pure #[] else do pure (Builtin.zeroCells (← zeroValue e).cells l.toNat) : Sem (Array Value)).run P w = .ok ⟨rep z l.toNat⟩ w := by
      intro w
      by_cases h0 : l.toNat * k.size = 0
      · have : rep z l.toNat = [] := List.length_eq_zero_iff.1 (by rw [rep_length, hzl, h0])
        rw [if_pos h0, this]
        rfl
      · obtain ⟨zv, z1, z2, _⟩ := hzv w
        rw [if_neg h0, Sem.run_bind, z1, Result.andThen_ok, z2, zeroCells_eq, Sem.run_pure]
    refine ⟨fun hle => ?_, fun hlt old hold => ?_⟩
    · unfold Builtin.append_
      simp only [List.getElem?_toArray, List.getElem?_cons_zero, List.getElem?_cons_succ, Sem.run_bind, run_und hs, run_und hx, Result.andThen_ok, K.run_size, Sem.run_pure, if_true, Go.asInt, asIntOf, hw, if_neg c1,
        run_typeInfo i1, if_neg c2, if_pos hle, Bool.not_true, Bool.false_eq_true, if_false]
      by_cases h0 : l.toNat * k.size = 0
      · have h1 := hnew w
        rw [if_pos h0] at h1
        simp only [if_pos h0, h1, Result.andThen_ok]
        cases base <;> simp only [Sem.run_bind, Sem.run_pure]
      · have h1 := hnew w
        rw [if_neg h0] at h1
        simp only [if_neg h0, h1, Result.andThen_ok]
        cases base <;> simp only [Sem.run_bind, Sem.run_pure]
    · refine ⟨(Question.appendCap (len + l.toNat) cap e).cut (w.tape w.drawn (.appendCap (len + l.toNat) cap e)), hcut _, ?_⟩
      have hgate : ¬(((len + l.toNat : Nat) : Int) > IntKind.i64.max ∧ (True ∨ f.bytes = 0)) := fun h => hbig h.1
      have hcb := cap_bytes hlt (by rw [i3] at hb; exact hb) hn
      unfold Builtin.append_
      simp only [List.getElem?_toArray, List.getElem?_cons_zero, List.getElem?_cons_succ, Sem.run_bind, run_und hs, run_und hx, Result.andThen_ok, K.run_size, Sem.run_pure, if_true, Go.asInt, asIntOf, hw, if_neg c1,
        run_typeInfo i1, if_neg c2, if_neg (Nat.not_le.2 hlt), Bool.not_true, Bool.false_eq_true, if_false, if_neg hgate, if_neg hcb, run_choose, hforce, run_askRoom, hold]
      obtain ⟨zv, z1, z2, _⟩ := hzv { w with drawn := w.drawn + 1 }
      by_cases h0 : l.toNat * k.size = 0
      · have h1 := hnew { w with drawn := w.drawn + 1 }
        rw [if_pos h0] at h1
        simp only [if_pos h0, h1, Result.andThen_ok, z1, z2, zeroCells_eq, newRow, Sem.run_bind, run_newObj, Sem.run_pure]
        simp
      · have h1 := hnew { w with drawn := w.drawn + 1 }
        rw [if_neg h0] at h1
        simp only [if_neg h0, h1, Result.andThen_ok, z1, z2, zeroCells_eq, newRow, Sem.run_bind, run_newObj, Sem.run_pure]
        simp
  · have hfirst0 : (Builtin.firstCells k.size n x).run P w = .ok ⟨new⟩ w := hfirst w.drawn
    refine ⟨fun hle => ?_, fun hlt old hold => ?_⟩
    · unfold Builtin.append_
      simp only [List.getElem?_toArray, List.getElem?_cons_zero, List.getElem?_cons_succ, Sem.run_bind, run_und hs, run_und hx, Result.andThen_ok, K.run_size, Sem.run_pure, Bool.false_eq_true, if_false, hlen, if_pos hle, Bool.not_false, if_true, hfirst0]
      cases base <;> simp only [Sem.run_bind, Sem.run_pure]
    · refine ⟨(Question.appendCap (len + n) cap e).cut (w.tape w.drawn (.appendCap (len + n) cap e)), hcut _, ?_⟩
      have hgate : ¬(((len + n : Nat) : Int) > IntKind.i64.max ∧ (False ∨ f.bytes = 0)) := fun h => hbig h.1
      have hcb := cap_bytes hlt (by rw [i3] at hb; exact hb) hn
      obtain ⟨zv, z1, z2, _⟩ := hzv { w with drawn := w.drawn + 1 }
      unfold Builtin.append_
      simp only [List.getElem?_toArray, List.getElem?_cons_zero, List.getElem?_cons_succ, Sem.run_bind, run_und hs, run_und hx, Result.andThen_ok, K.run_size, Sem.run_pure, Bool.false_eq_true, if_false, hlen, if_neg (Nat.not_le.2 hlt), Bool.not_false, if_true,
        run_typeInfo i1, if_neg hgate, if_neg hcb, run_choose, hforce, run_askRoom, hold, hfirst, z1, z2, zeroCells_eq, newRow, run_newObj]
      simp

end
end Go.G

/- G against the model: append, whole. -/
namespace Go.G

section
variable {P : Program} {env : Env} {ρ : Ren} {s : Tmps} {a : Act}

theorem Ext.drop (ρ : Ren) (h : Heap) (w : World) (i : Nat) : Ext ρ h w ρ (h.drop i) w := by
  refine ⟨ρ.sub_refl, Nat.le_refl _, Nat.le_refl _, fun b hb hl => ⟨rfl, ?_⟩, rfl, rfl, rfl, fun _ _ => rfl, rfl⟩
  rintro ⟨j, k, L, hj, hL, e⟩
  rw [Heap.get_drop] at hj
  split at hj
  · cases hj
  · exact hl ⟨j, k, L, hj, hL, e⟩

theorem setBlk_self {w : World} {b : Nat} {o : Obj} (h : w.heap[b]? = some o) : setBlk w b o = w := by
  unfold setBlk
  have : w.heap.setIfInBounds b o = w.heap := by
    apply Array.ext_getElem?
    intro j
    by_cases e : j = b
    · subst e
      have hlt := (Array.getElem?_eq_some_iff.1 h).1
      rw [h]; simp [hlt]
    · rw [Array.getElem?_setIfInBounds_ne (Ne.symm e)]
  rw [this]

/-- The old number dies, and the same block goes on under a new one. -/
theorem Rel.rebirth {h : Heap} {w : World} (K : Rel ρ h w.heap) {i : Nat} {b b' : Blk} {L L' : Loc} {o' : Obj} (hb : h.get i = some b) (hL : ρ i = some L) (hl : L'.b = L.b) (hn : BlkRel (ρ.upd h.next L') L' b' o') :
    Rel (ρ.upd h.next L') ((h.drop i).add b') (setBlk w L.b o').heap ∧ Ext ρ h w (ρ.upd h.next L') ((h.drop i).add b') (setBlk w L.b o') := by
  have hs := Ren.sub_upd K.fresh L'
  have hlt : L.b < w.heap.size := K.low _ _ hL
  have hg : ∀ j, ((h.drop i).add b').get j = if j = h.next then some b' else if j = i then none else h.get j := fun j => by
    rw [Heap.get_add, Heap.next_drop, Heap.get_drop]
  have hold : ∀ j c, ((h.drop i).add b').get j = some c → j ≠ h.next → j ≠ i ∧ h.get j = some c := by
    intro j c hj hne
    rw [hg, if_neg hne] at hj
    split at hj
    · cases hj
    · rename_i e; exact ⟨e, hj⟩
  have keep : ∀ k, k < w.heap.size → ¬LiveB ρ h k → (setBlk w L.b o').heap[k]? = w.heap[k]? ∧ ¬LiveB (ρ.upd h.next L') ((h.drop i).add b') k := by
    intro k hk hlive
    have hne : k ≠ L.b := fun e => hlive ⟨i, b, L, hb, hL, e.symm⟩
    refine ⟨by rw [getElem?_setBlk hlt, if_neg hne], ?_⟩
    rintro ⟨j, c, M, hj, hM, e⟩
    unfold Ren.upd at hM
    by_cases ej : j = h.next
    · rw [if_pos ej] at hM
      cases hM
      exact hne (by rw [← e, hl])
    · rw [if_neg ej] at hM
      exact hlive ⟨j, c, M, (hold j c hj ej).2, hM, e⟩
  refine ⟨⟨?_, ?_, ?_, ?_, K.glob_keep rfl keep⟩, ⟨hs, Nat.le_succ _, by simp [setBlk], keep, rfl, rfl, rfl, fun j hj => if_neg (by omega), rfl⟩⟩
  · intro j c hj
    by_cases e : j = h.next
    · subst e
      rw [hg, if_pos rfl] at hj
      cases hj
      exact ⟨L', o', Ren.upd_same _ _ _, by rw [hl, getElem?_setBlk hlt, if_pos rfl], hn⟩
    · obtain ⟨e2, hj⟩ := hold j c hj e
      obtain ⟨M, o, h1, h2, h3⟩ := K.live j c hj
      refine ⟨M, o, hs _ _ h1, ?_, h3.mono hs⟩
      rw [getElem?_setBlk hlt, if_neg (fun e' => e2 (K.inj j i c b M L hj hb h1 hL e'))]
      exact h2
  · intro j k c d M N hj hk hM hN e
    by_cases ej : j = h.next
    · by_cases ek : k = h.next
      · rw [ej, ek]
      · obtain ⟨e2, hk⟩ := hold k d hk ek
        unfold Ren.upd at hM hN
        rw [if_pos ej] at hM; rw [if_neg ek] at hN
        cases hM
        exact absurd (K.inj k i d b N L hk hb hN hL (by rw [← e, hl])) e2
    · obtain ⟨e2, hj⟩ := hold j c hj ej
      unfold Ren.upd at hM hN
      rw [if_neg ej] at hM
      by_cases ek : k = h.next
      · rw [if_pos ek] at hN
        cases hN
        exact absurd (K.inj j i c b M L hj hb hM hL (by rw [e, hl])) e2
      · obtain ⟨e3, hk⟩ := hold k d hk ek
        rw [if_neg ek] at hN
        exact K.inj j k c d M N hj hk hM hN e
  · intro j M hj
    unfold Ren.upd at hj
    split at hj
    · rename_i e; rw [e]; exact Nat.lt_succ_self _
    · exact Nat.lt_succ_of_lt (K.dom j M hj)
  · intro j M hj
    unfold Ren.upd at hj
    simp only [setBlk, Array.size_setIfInBounds]
    split at hj
    · cases hj; rw [hl]; exact hlt
    · exact K.low j M hj

theorem readN_all : ∀ {n : Nat} {l : List Value}, l.length = n → readN n l = .ok l
  | 0, l, h => by rw [List.length_eq_zero_iff.1 h]; rfl
  | n + 1, [], h => by simp at h
  | n + 1, v :: l, h => by
    simp only [readN, readN_all (n := n) (l := l) (by simpa using h)]
    rfl

/-- A new row of so many cells, of which the first ones are known. -/
theorem grown_row {h : Heap} {w : World} (K : Rel ρ h w.heap) {size need c e : Nat} {cs cs' rest : List Value} (hr : LRel ρ cs cs') (hc : cs.length = need * size) (hle : need ≤ c) (hrest : rest.length = (c - need) * size) :
    Rel (ρ.upd h.next ⟨w.heap.size, 0, c * size, size⟩) (h.add (.cells size cs)) ({ w with heap := w.heap.push (.cells ⟨cs' ++ rest⟩ e), drawn := w.drawn + 1 } : World).heap ∧
      Ext ρ h w (ρ.upd h.next ⟨w.heap.size, 0, c * size, size⟩) (h.add (.cells size cs)) { w with heap := w.heap.push (.cells ⟨cs' ++ rest⟩ e), drawn := w.drawn + 1 } ∧
      VRel (ρ.upd h.next ⟨w.heap.size, 0, c * size, size⟩) (.slice (some ⟨h.next, 0, none⟩) need flexCap) (.slice (some ⟨w.heap.size, 0, none⟩) need c) := by
  have hmul : need * size + (c - need) * size = c * size := by rw [← Nat.add_mul, Nat.add_sub_cancel' hle]
  have hn : BlkRel (ρ.upd h.next ⟨w.heap.size, 0, c * size, size⟩) ⟨w.heap.size, 0, c * size, size⟩ (.cells size cs) (.cells ⟨cs' ++ rest⟩ e (0, 0)) := by
    refine .cells ?_ rfl (.inl rfl) (fun _ => rfl) fun k v hv => ?_
    · show (cs' ++ rest).length = _
      rw [List.length_append, ← hr.1, hc, hrest, hmul]
    · obtain ⟨v', h1, h2⟩ := hr.get hv
      refine ⟨v', ?_, h2.mono (Ren.sub_upd K.fresh _)⟩
      have hlt := (List.getElem?_eq_some_iff.1 h1).1
      rw [← Array.getElem?_toList, Nat.zero_add]
      show (cs' ++ rest)[k]? = _
      rw [List.getElem?_append_left hlt]
      exact h1
  obtain ⟨r1, r2⟩ := K.add (w' := { w with heap := w.heap.push (.cells ⟨cs' ++ rest⟩ e), drawn := w.drawn + 1 }) ⟨w.heap.size, 0, c * size, size⟩ rfl rfl rfl rfl rfl hn
  exact ⟨r1, r2, .flex (off := 0) (Ren.upd_same _ _ _) (by simp) hle (.inl rfl)⟩

theorem isInt_true {X : TypeDesc} (h : isIntTD (tdOf X) = true) : ∃ q, X = .int q := by
  cases X <;> first | exact ⟨_, rfl⟩ | (cases h; done)
theorem isInt_false {X : TypeDesc} (h : isIntTD (tdOf X) = false) : ∀ q, X ≠ .int q := by
  intro q e; subst e; cases h

theorem append_ok (E : EnvOk P env) {h h' : Heap} {w : World} (K : Rel ρ h w.heap) {types : List Nat} {vs vs' : List Value} {v : Value} {ty : Nat} (hq : gAppend env h types vs = .ok (v, h')) (rl : LRel ρ vs vs') :
    ∃ ρ' v' w', Rel ρ' h' w'.heap ∧ Ext ρ h w ρ' h' w' ∧ VRel ρ' v v' ∧ (Builtin.append_ ⟨types⟩ ty ⟨vs'⟩).run P w = .ok v' w' := by
  unfold gAppend at hq
  split at hq
  case h_2 => cases hq
  rename_i st xt base len cap x
  obtain ⟨d, hd, q1⟩ := R.b_ok hq
  obtain ⟨xd, hxd, q2⟩ := R.b_ok q1
  obtain ⟨D, d1, d2⟩ := Env.td_ok E hd
  obtain ⟨X, x1, x2⟩ := Env.td_ok E hxd
  clear hq q1
  split at q2
  case h_2 => cases q2
  rename_i e
  cases tdOf_slice d2.symm
  obtain ⟨k, hk, q3⟩ := R.b_ok q2
  obtain ⟨z, hz, q4⟩ := R.b_ok q3
  obtain ⟨n, hn, q5⟩ := R.b_ok q4
  obtain ⟨new, hnew, q6⟩ := R.b_ok q5
  obtain ⟨_, hm, q7⟩ := R.b_ok q6
  clear q2 q3 q4 q5 q6
  have hz := R.of_ok hz
  have hm := R.must_ok hm
  simp only [Bool.and_eq_true, Nat.ble_eq, Bool.not_eq_true'] at hm
  obtain ⟨⟨⟨⟨⟨⟨m1, m2⟩, m3⟩, m4⟩, m5⟩, m6⟩, m7⟩ := hm
  have hnl : new.length = n * k.size := Nat.eq_of_beq_eq_true m7
  have m3 : z.length = k.size := Nat.eq_of_beq_eq_true m3
  have m4 : 0 < k.size := by
    rcases Nat.eq_zero_or_pos k.size with h0 | h0
    · rw [h0] at m4; exact absurd m4 (by decide)
    · exact h0
  have m5 : 1 ≤ k.bytes := by
    rcases Nat.eq_zero_or_pos k.bytes with h0 | h0
    · rw [h0] at m5; exact absurd m5 (by decide)
    · exact h0
  obtain ⟨sv, l1, rfl, rs, rl⟩ := rl.cons_inv
  obtain ⟨xv, l2, rfl, rx, rl⟩ := rl.cons_inv
  cases rl.nil_inv
  obtain ⟨_, _, _, hzl, _⟩ := (Env.ti_ok E hk).run_zero hz w
  -- what is put behind
  have hsrc : ∃ new', LRel ρ new new' ∧
      (((∃ q, X = .int q) ∧ (∃ q l, xv = .int q l ∧ 0 ≤ l ∧ l ≤ 1000000 ∧ n = l.toNat) ∧ new' = rep z n ∧ (1 ≤ k.bytes)) ∨
        ((∀ q, X ≠ .int q) ∧ (Builtin.lenOf xv).run P w = .ok n w ∧ (∀ d, (Builtin.firstCells k.size n xv).run P { w with drawn := d } = .ok ⟨new'⟩ { w with drawn := d }))) := by
    cases hzr : isIntTD xd with
    | true =>
      rw [hzr] at hn hnew
      rw [x2] at hzr
      obtain ⟨l, hl, hn⟩ := R.b_ok (show (asInt x).b _ = .ok n from hn)
      obtain ⟨_, hb, hn⟩ := R.b_ok hn
      cases hn
      have hb := R.must_ok hb
      simp only [Bool.and_eq_true, decide_eq_true_eq] at hb
      obtain ⟨q, hq⟩ := asInt_ok hl
      subst hq
      cases rx
      cases hnew
      exact ⟨rep z l.toNat, LRel.lits (rep_lits hzl _), .inl ⟨isInt_true hzr, ⟨_, _, rfl, hb.1, hb.2, rfl⟩, rfl, m5⟩⟩
    | false =>
      rw [hzr] at hn hnew
      rw [x2] at hzr
      have hn : lenOf x = .ok n := hn
      have hnew : firstCells h k.size n x = .ok new := hnew
      obtain ⟨cs', g1, g2⟩ := firstCells_ok (P := P) K hnew rx hn (Nat.le_refl _)
      exact ⟨cs', g1, .inr ⟨isInt_false hzr, lenOf_ok hn rx w, fun d => g2 { w with drawn := d } rfl⟩⟩
  obtain ⟨new', rn, hsrc⟩ := hsrc
  have hrun := fun b c => append_run E (ty := ty) (base := b) (len := len) (cap := c) d1 x1 hk hz m3 m1 m2 hsrc
  have hres : ∀ (old old' : List Value) (b : Option Addr) (c : Nat), LRel ρ old old' → old.length = len * k.size → c < len + n →
      (∀ d, (Builtin.firstCells k.size len (.slice b len c)).run P { w with drawn := d } = .ok ⟨old'⟩ { w with drawn := d }) →
      ∀ (h1 : Heap), h1.next = h.next → Rel ρ h1 w.heap → Ext ρ h w ρ h1 w →
      ∃ ρ' v' w', Rel ρ' (h1.add (.cells k.size (old ++ new))) w'.heap ∧ Ext ρ h w ρ' (h1.add (.cells k.size (old ++ new))) w' ∧ VRel ρ' (.slice (some ⟨h.next, 0, none⟩) (len + n) flexCap) v' ∧
        (Builtin.append_ #[st, xt] ty #[.slice b len c, xv]).run P w = .ok v' w' := by
    intro old old' b c ro hol hlt hold h1 hnx K1 X1
    obtain ⟨c1, hle, hr⟩ := (hrun b c).2 hlt old' hold
    obtain ⟨r1, r2, r3⟩ := grown_row K1 (size := k.size) (need := len + n) (c := c1) (e := e) (cs := old ++ new) (cs' := old' ++ new') (rest := rep z (c1 - (len + n))) (ro.append rn)
      (by rw [List.length_append, hol, hnl, Nat.add_mul]) hle (by rw [rep_length, m3])
    rw [hnx] at r1 r2 r3
    exact ⟨_, _, _, r1, X1.trans r2, r3, hr⟩
  split at q7
  · -- nil
    cases rs
    rcases cond_ok q7 with ⟨e0, q8⟩ | ⟨e0, q8⟩
    · cases q8
      have hn0 : n = 0 := by have := Nat.eq_of_beq_eq_true e0; omega
      have hr := (hrun none 0).1 (by omega)
      refine ⟨ρ, _, w, K, .refl _ _ _, ?_, hr⟩
      rw [hn0]
      exact .sliceNil
    · cases q8
      have hpos : 0 < 0 + n := by
        rcases Nat.eq_zero_or_pos (0 + n) with h0 | h0
        · rw [h0] at e0; exact absurd e0 (by decide)
        · exact h0
      exact hres [] [] none 0 (.nil ρ) (by simp) hpos (fun d => rfl) h rfl K (.refl _ _ _)
  · rename_i p
    rcases cond_ok q7 with ⟨e0, q8⟩ | ⟨e0, q8⟩
    · -- a capacity that is not known
      have e0 : cap = flexCap := Nat.eq_of_beq_eq_true e0
      subst e0
      cases rs with
      | slice _ hlt _ _ => exact absurd hlt (Nat.lt_irrefl _)
      | @flex i off _ c L a' hL heq hle ha =>
      dsimp only at q8
      obtain ⟨pc, hpc, q9⟩ := R.b_ok q8
      obtain ⟨_, hsz, q10⟩ := R.b_ok q9
      clear q7 q8 q9
      have hsz := Nat.eq_of_beq_eq_true (R.must_ok hsz)
      have hget := Heap.cells_ok hpc
      obtain ⟨M, arr, el, lo, hi, g1, g2, g3, g4, g5, g6⟩ := K.cells hget
      rw [hL] at g1; cases g1
      have hes : L.esz = k.size := g4.trans hsz
      rw [hes] at heq
      rcases cond_ok q10 with ⟨e1, q11⟩ | ⟨e1, q11⟩
      · -- there is room that is known
        obtain ⟨h2, hw, q12⟩ := R.b_ok q11
        cases q12
        rw [Nat.ble_eq] at e1
        have hneed : len + n ≤ c := by
          rcases Nat.eq_zero_or_pos ((len + n) * k.size) with h0 | h0
          · rcases Nat.mul_eq_zero.1 h0 with h3 | h3 <;> omega
          · have := cells_end g6 e1 (by omega)
            have : (len + n) * k.size ≤ c * k.size := by omega
            exact Nat.le_of_mul_le_mul_right this m4
        have hr := (hrun (some a') c).1 hneed
        obtain ⟨p', c', w', e2, s1, s2, s3⟩ := write_slice P K (.flex (ρ := ρ) (n := len) hL (by rw [hes]; exact heq) hle ha) hw rn (by
          intro p2 c2 e2 h0
          cases e2
          have : n = 0 := by omega
          exact List.length_eq_zero_iff.1 (by rw [hnl, this, Nat.zero_mul]))
        cases e2
        refine ⟨ρ, .slice (some a') (len + n) c, w', s2, s3, .flex hL (by rw [hes]; exact heq) hneed ha, ?_⟩
        rw [hr]
        show Result.andThen (Sem.run P (storeCells (a'.add (len * k.size)) new') w) _ = _
        rw [s1]
        rfl
      · -- at the end
        obtain ⟨_, hend, q12⟩ := R.b_ok q11
        cases q12
        have hend := Nat.eq_of_beq_eq_true (R.must_ok hend)
        by_cases hneed : len + n ≤ c
        · -- the same block
          have hmul : len * k.size + n * k.size ≤ c * k.size := by rw [← Nat.add_mul]; exact Nat.mul_le_mul_right _ hneed
          have hnl' : new'.length = n * k.size := by rw [← rn.1]; exact hnl
          have hb : L.base + off + len * k.size + new'.length ≤ arr.size := by rw [g3, hnl']; omega
          have hobj : (storeCells (a'.add (len * k.size)) new').run P w = .ok () (setBlk w L.b (.cells (wr arr (L.base + off + len * k.size + 0) new') el (lo, hi))) := by
            by_cases hne : new' = []
            · subst hne
              rw [show wr arr (L.base + off + len * k.size + 0) [] = arr from rfl, setBlk_self g2]
              rfl
            · have hc0 : c ≠ 0 := by
                intro h0
                have : n = 0 := by omega
                rw [this, Nat.zero_mul] at hnl'
                exact hne (List.length_eq_zero_iff.1 hnl')
              rcases ha with rfl | h0
              · rw [Addr.add_plain]
                exact run_storeCells new' 0 w arr g2 (by omega) (by rw [g3]; exact g5) (flat_all rn m6) hne
              · exact absurd h0 hc0
          have hn2 : BlkRel (ρ.upd h.next ⟨L.b, L.base + off, L.tot, L.esz⟩) ⟨L.b, L.base + off, L.tot, L.esz⟩ (.cells k.size (pc.2.drop off ++ new)) (.cells (wr arr (L.base + off + len * k.size + 0) new') el (lo, hi)) := by
            refine .cells (by rw [wr_size]; exact g3) hes g5 (fun e0 => absurd e0 (Nat.pos_iff_ne_zero.1 m4)) fun j v hv => ?_
            have hs := Ren.sub_upd K.fresh ⟨L.b, L.base + off, L.tot, L.esz⟩
            have hdl : (pc.2.drop off).length = len * k.size := by rw [List.length_drop]; omega
            show ∃ v', (wr arr (L.base + off + len * k.size + 0) new')[L.base + off + j]? = some v' ∧ _
            rw [wr_get _ _ _ (by omega)]
            rcases Nat.lt_or_ge j (len * k.size) with hj | hj
            · rw [List.getElem?_append_left (by omega), List.getElem?_drop] at hv
              obtain ⟨v', r1, r2⟩ := g6 _ _ hv
              rw [if_neg (by omega), Nat.add_assoc]
              exact ⟨v', r1, r2.mono hs⟩
            · rw [List.getElem?_append_right (by omega), hdl] at hv
              obtain ⟨v', r1, r2⟩ := rn.get hv
              have hjl := (List.getElem?_eq_some_iff.1 hv).1
              rw [if_pos (by rw [← rn.1]; omega), show L.base + off + j - (L.base + off + len * k.size + 0) = j - len * k.size from by omega]
              exact ⟨v', r1, r2.mono hs⟩
          obtain ⟨r1, r2⟩ := K.rebirth (L' := ⟨L.b, L.base + off, L.tot, L.esz⟩) hget hL rfl hn2
          refine ⟨_, .slice (some a') (len + n) c, _, r1, r2, .flex (off := 0) (Ren.upd_same _ _ _) (by show L.base + off + 0 + c * L.esz = L.tot; rw [hes]; exact heq) hneed (ha.imp id id), ?_⟩
          rw [(hrun (some a') c).1 hneed]
          show Result.andThen (Sem.run P (storeCells (a'.add (len * k.size)) new') w) _ = _
          rw [hobj]
          rfl
        · -- a new one
          have hol : (pc.2.drop off).length = len * k.size := by rw [List.length_drop]; omega
          have hrd : h.read ⟨i, off, none⟩ (len * k.size) = .ok (pc.2.drop off) := by
            simp only [Heap.read, hpc, R.b]
            exact readN_all hol
          obtain ⟨p', c', cs', e2, s1, s2⟩ := read_slice (P := P) K (.flex (ρ := ρ) (n := len) hL (by rw [hes]; exact heq) hle ha) hrd (fun e => by rw [e, Nat.zero_mul])
          cases e2
          exact hres _ cs' (some a') c s1 hol (by omega) (fun d => s2 { w with drawn := d } rfl) (h.drop i) rfl (K.drop i) (Ext.drop ρ h w i)
    · -- a known one
      have hcf : cap ≠ flexCap := by
        intro e
        rw [e] at e0
        exact absurd e0 (by decide)
      cases rs with
      | flex _ _ _ _ => exact absurd rfl hcf
      | @slice i off _ _ L a' hL hlt hle ha =>
      rcases cond_ok q8 with ⟨e1, q9⟩ | ⟨e1, q9⟩
      · rw [Nat.ble_eq] at e1
        obtain ⟨h2, hw, q12⟩ := R.b_ok q9
        cases q12
        obtain ⟨p', c', w', e2, s1, s2, s3⟩ := write_slice P K (.slice (ρ := ρ) hL hlt hle ha) hw rn (by
          intro p2 c2 e2 h0
          cases e2
          have : n = 0 := by omega
          exact List.length_eq_zero_iff.1 (by rw [hnl, this, Nat.zero_mul]))
        cases e2
        refine ⟨ρ, .slice (some a') (len + n) cap, w', s2, s3, .slice hL hlt e1 ha, ?_⟩
        rw [(hrun (some a') cap).1 e1]
        show Result.andThen (Sem.run P (storeCells (a'.add (len * k.size)) new') w) _ = _
        rw [s1]
        rfl
      · have e1 : cap < len + n := by
          rcases Nat.lt_or_ge cap (len + n) with h0 | h0
          · exact h0
          · rw [Nat.ble_eq_true_of_le h0] at e1; cases e1
        obtain ⟨old, hrd, q10⟩ := R.b_ok q9
        cases q10
        have hol : old.length = len * k.size := by
          unfold Heap.read at hrd
          obtain ⟨p1, _, hrd⟩ := R.b_ok (show (h.cells i).b _ = .ok old from hrd)
          exact (readN_ok hrd).2
        obtain ⟨p', c', cs', e2, s1, s2⟩ := read_slice (P := P) K (.slice (ρ := ρ) hL hlt hle ha) hrd (fun e => by rw [e, Nat.zero_mul])
        cases e2
        exact hres _ cs' (some a') cap s1 hol e1 (fun d => s2 { w with drawn := d } rfl) h rfl K (.refl _ _ _)

end
end Go.G

/- G against the model: copy, clear, delete, and what is left of the loud operations but calls. -/
namespace Go.G

section
variable {P : Program} {env : Env} {ρ : Ren} {s : Tmps} {a : Act}

/-- The values of a builtin's arguments. -/
theorem args_eq (args : Array Operand) : args.map a.eval = ⟨args.toList.map a.eval⟩ := map_mk args

theorem copy_run (E : EnvOk P env) {h h' : Heap} {w : World} (K : Rel ρ h w.heap) {dt e : Nat} {k : TI} {base : Option Addr} {dLen dc sl ty : Nat} {src : Value} {rest : List Nat} {cs : List Value} {v' : List Value}
    (hd : env.td dt = .ok (.slice e)) (hk : env.ti e = .ok k) (hl : lenOf src = .ok sl) (hf : firstCells h k.size (min sl dLen) src = .ok cs)
    (hw : writeOpt h base cs = .ok h') (rl : LRel ρ [.slice base dLen dc, src] v') (hcl : cs.length = min sl dLen * k.size) :
    ∃ w', Rel ρ h' w'.heap ∧ Ext ρ h w ρ h' w' ∧ (Builtin.copy_ ⟨dt :: rest⟩ ty ⟨v'⟩).run P w = .ok (goInt ((min sl dLen : Nat) : Int)) w' := by
  obtain ⟨D, d1, d2⟩ := Env.td_ok E hd
  cases tdOf_slice d2.symm
  have T := Env.ti_ok E hk
  obtain ⟨dv, l1, rfl, rd, rl⟩ := rl.cons_inv
  obtain ⟨sv, l2, rfl, rs, rl⟩ := rl.cons_inv
  cases rl.nil_inv
  have h1 := lenOf_ok (P := P) hl rs w
  obtain ⟨cs', g1, g2⟩ := firstCells_ok (P := P) K hf rs hl (Nat.min_le_left _ _)
  have h2 := g2 w rfl
  have hm : Nat.min sl dLen = min sl dLen := rfl
  cases base with
  | none =>
    cases hw
    cases rd
    refine ⟨w, K, .refl _ _ _, ?_⟩
    simp only [Builtin.copy_, List.getElem?_toArray, List.getElem?_cons_zero, List.getElem?_cons_succ, Sem.run_bind, run_und d1, Result.andThen_ok, h1, T.run_size, show Nat.min sl 0 = min sl 0 from rfl, h2, Sem.run_pure]
  | some p =>
    have hp : ∃ b o, p = ⟨b, o, none⟩ := by cases rd <;> exact ⟨_, _, rfl⟩
    obtain ⟨b, o, rfl⟩ := hp
    have hnil : ∀ p' c', dv = .slice (some p') dLen c' → c' = 0 → cs = [] := by
      intro p' c' e h0
      subst e
      have hle : dLen ≤ c' := by cases rd <;> assumption
      have : dLen = 0 := by omega
      rw [this, Nat.min_zero, Nat.zero_mul] at hcl
      exact List.length_eq_zero_iff.1 hcl
    obtain ⟨p', c', w', e2, s1, s2, s3⟩ := write_slice (k := 0) P K rd hw g1 hnil
    subst e2
    refine ⟨w', s2, s3, ?_⟩
    have ha : p'.add 0 = p' := rfl
    rw [ha] at s1
    simp only [Builtin.copy_, List.getElem?_toArray, List.getElem?_cons_zero, List.getElem?_cons_succ, Sem.run_bind, run_und d1, Result.andThen_ok, h1, T.run_size, hm, h2, s1, Sem.run_pure]

theorem clear_run (E : EnvOk P env) {h h' : Heap} {w : World} (K : Rel ρ h w.heap) {t e : Nat} {k : TI} {p : Addr} {n c ty : Nat} {rest : List Nat} {z : List Value} {v' : List Value}
    (hd : env.td t = .ok (.slice e)) (hk : env.ti e = .ok k) (hz : k.zero = some z)
    (hw : h.write p (rep z n) = .ok h') (rl : LRel ρ [.slice (some p) n c] v') :
    ∃ w', Rel ρ h' w'.heap ∧ Ext ρ h w ρ h' w' ∧ (Builtin.clear_ ⟨t :: rest⟩ ty ⟨v'⟩).run P w = .ok (.tuple #[]) w' := by
  obtain ⟨D, d1, d2⟩ := Env.td_ok E hd
  cases tdOf_slice d2.symm
  have T := Env.ti_ok E hk
  obtain ⟨dv, l1, rfl, rd, rl⟩ := rl.cons_inv
  cases rl.nil_inv
  obtain ⟨zv, z1, z2, z3, _, _⟩ := T.run_zero hz w
  have hp : ∃ b o, p = ⟨b, o, none⟩ := by cases rd <;> exact ⟨_, _, rfl⟩
  obtain ⟨b, o, rfl⟩ := hp
  have hnil : ∀ p' c', dv = .slice (some p') n c' → c' = 0 → rep z n = [] := by
    intro p' c' e h0
    subst e
    have hle : n ≤ c' := by cases rd <;> assumption
    have : n = 0 := by omega
    rw [this]; rfl
  obtain ⟨p', c', w', e2, s1, s2, s3⟩ := write_slice (k := 0) P K rd hw (LRel.lits (rep_lits z3 n)) hnil
  subst e2
  have ha : p'.add 0 = p' := rfl
  rw [ha] at s1
  cases n with
  | zero =>
    cases hw
    refine ⟨w, K, .refl _ _ _, ?_⟩
    simp only [Builtin.clear_, List.getElem?_toArray, List.getElem?_cons_zero, Sem.run_bind, run_und d1, Result.andThen_ok, Sem.run_pure]
  | succ n =>
    refine ⟨w', s2, s3, ?_⟩
    simp only [Builtin.clear_, List.getElem?_toArray, List.getElem?_cons_zero, Sem.run_bind, run_und d1, Result.andThen_ok, z1, z2, zeroCells_eq, s1, Sem.run_pure]

theorem delete_run (E : EnvOk P env) {h h' : Heap} {w : World} (K : Rel ρ h w.heap) {t kt el r clock ty : Nat} {k k' : Value} {mv : Value} {rest : List Nat} {es : List MapEntry} {fd : Option (Nat × Value)} {u : Unit}
    (hd : env.td t = .ok (.map kt el)) (hg : h.get r = some (.map es clock)) (hc : keyCheck env kt k = .ok u) (hfd : findKey env kt k es 0 = .ok fd) (rm : VRel ρ (.map (some r)) mv) (rk : VRel ρ k k')
    (hh : h' = (match fd with | some (i, _) => h.put r (.map (es.eraseIdx i) clock) | none => h)) :
    ∃ w', Rel ρ h' w'.heap ∧ Ext ρ h w ρ h' w' ∧ (Builtin.delete_ ⟨t :: rest⟩ ty ⟨[mv, k']⟩).run P w = .ok (.tuple #[]) w' := by
  obtain ⟨D, d1, d2⟩ := Env.td_ok E hd
  cases tdOf_map d2.symm
  cases rm with
  | @map _ L hL =>
  obtain ⟨L', ob, g1, g2, g3⟩ := K.live _ _ hg
  rw [hL] at g1; cases g1
  cases g3 with
  | @map _ es' _ hb hes =>
  obtain ⟨KD, kd1⟩ := keyCheck_und E hc
  obtain ⟨fd', f1, f2⟩ := findKey_ok E kd1 hfd rk hes w
  have hck := keyCheck_ok E (empty := es'.isEmpty) hc rk w
  cases fd with
  | some p =>
    cases fd' with
    | none => exact f1.elim
    | some p' =>
    obtain ⟨i, x⟩ := p
    obtain ⟨i', x'⟩ := p'
    obtain ⟨rfl, _⟩ := f1
    subst hh
    have hn : ∀ c, BlkRel ρ L (.map (es.eraseIdx i) c) (.map (es'.eraseIdxIfInBounds i) c) := by
      intro c
      refine .map hb ?_
      have : (es'.eraseIdxIfInBounds i).toList = es'.toList.eraseIdx i := by
        unfold Array.eraseIdxIfInBounds
        split
        · exact Array.toList_eraseIdx
        · rename_i hlt
          rw [List.eraseIdx_of_length_le (by simpa using hlt)]
      rw [this]
      exact hes.erase i
    obtain ⟨q1, q2⟩ := K.set hg hL (hn _)
    refine ⟨_, q1, q2, ?_⟩
    simp only [Builtin.delete_, List.getElem?_toArray, List.getElem?_cons_zero, List.getElem?_cons_succ, Sem.run_bind, run_und d1, Result.andThen_ok, run_getObj g2 (fun _ _ _ e => by cases e), hck, f2, run_setObj g2 (fun _ _ _ e => by cases e), Sem.run_pure]
    rfl
  | none =>
    cases fd' with
    | some p => exact f1.elim
    | none =>
    subst hh
    refine ⟨w, K, .refl _ _ _, ?_⟩
    have hself := setBlk_self g2
    unfold setBlk at hself
    simp only [Builtin.delete_, List.getElem?_toArray, List.getElem?_cons_zero, List.getElem?_cons_succ, Sem.run_bind, run_und d1, Result.andThen_ok, run_getObj g2 (fun _ _ _ e => by cases e), hck, f2, run_setObj g2 (fun _ _ _ e => by cases e), Sem.run_pure, hself]

end
end Go.G

/- G against the model: calls, and all loud operations. -/
namespace Go.G

def exitOf : Ex → Exit
  | .normal => .normal
  | .exit i => .exit i
  | .ret => .ret

/-- A call that G ran. -/
def Contract (P : Program) (f : Nat) (args' : List Value) (w : World) (ρ : Ren) (h : Heap) (v : Value) (h' : Heap) : Prop :=
  Calls P f ⟨args'⟩ w fun e w' => ∃ ρ' v', e = .returned v' ∧ Rel ρ' h' w'.heap ∧ Ext ρ h w ρ' h' w' ∧ VRel ρ' v v'

/-- Is a function one that is entered by its body? -/
def Entered (P : Program) (f : Nat) : Prop := ∃ fn : Func, P.funcs[f]? = some fn ∧ (fn.name == "runtime.NumGoroutine") = false ∧ fn.body.isNone = false

def PrimOk (P : Program) (env : Env) : Prop :=
  ∀ (f : Nat) (p : Prim), env.prim f = some p → Entered P f ∧
    ∀ (args : List Value) (h : Heap) (v : Value) (h' : Heap), p args h = .ok (v, h') → ∀ (ρ : Ren) (w : World) (args' : List Value), Rel ρ h w.heap → LRel ρ args args' → Contract P f args' w ρ h v h'

def RecOk (P : Program) (rec : Rec) : Prop :=
  ∀ (c : Code) (st : St) (e : Ex) (st' : St), rec c st = .ok (e, st') → ∀ (n : Nat), dstsOk n c = true → ∀ (ρ : Ren) (a : Act) (w : World), a.tmps.size = n → a.defers = [] → TRel ρ st.s a → Rel ρ st.h w.heap →
    ∀ Q : Exit → Act → World → Prop, (∀ (ρ' : Ren) (a' : Act) (w' : World), a'.tmps.size = n → a'.defers = [] → TRel ρ' st'.s a' → Rel ρ' st'.h w'.heap → Ext ρ st.h w ρ' st'.h w' → Q (exitOf e) a' w') → c.wp P Q a w

section
variable {P : Program} {env : Env} {ρ : Ren} {s : Tmps} {a : Act} {rec : Rec}

theorem initTmps_get : ∀ (l : List Value) (n : Nat) (t : Tmps) (m : Nat), (initTmps l n t).get m = if n ≤ m ∧ m < n + l.length then l[m - n]? else t.get m
  | [], n, t, m => by rw [if_neg (by simp only [List.length_nil]; omega)]; rfl
  | v :: l, n, t, m => by
    simp only [initTmps]
    rw [initTmps_get l (n + 1), Tree.get_put]
    simp only [List.length_cons]
    by_cases h1 : m = n
    · subst h1
      rw [if_neg (by omega), if_pos rfl, if_pos (by omega)]
      simp
    · rw [if_neg h1]
      by_cases h2 : n + 1 ≤ m ∧ m < n + 1 + l.length
      · rw [if_pos h2, if_pos (by omega)]
        have : m - n = (m - (n + 1)) + 1 := by omega
        rw [this, List.getElem?_cons_succ]
      · rw [if_neg h2, if_neg (by omega)]

def resRun (a : Act) (r : ResultVar) : Sem Value :=
  match r with
  | .tmp t => pure (a.tmps.getD t undef)
  | .cell b t => do Go.loadVar t (← Go.asAddr (a.tmps.getD b undef))

theorem oneResult_ok (E : EnvOk P env) {st : St} {w : World} (T : TRel ρ st.s a) (K : Rel ρ st.h w.heap) {r : ResultVar} {v : Value} (h : oneResult env st r = .ok v) :
    ∃ v', VRel ρ v v' ∧ (resRun a r).run P w = .ok v' w := by
  cases r with
  | tmp t =>
    obtain ⟨v', e, r⟩ := T t v (R.of_ok h)
    refine ⟨v', r, ?_⟩
    simp only [resRun, Array.getD_eq_getD_getElem?, e, Option.getD_some, Sem.run_pure]
  | cell b t =>
    obtain ⟨u, hu, h1⟩ := R.b_ok h
    obtain ⟨p, hp, h2⟩ := R.b_ok h1
    have hp := asAddr_ok hp
    subst hp
    obtain ⟨u', e, r⟩ := T b _ (R.of_ok hu)
    obtain ⟨i, off, L, rfl, hL, rfl⟩ := r.ptr_inv
    obtain ⟨v', g1, g2⟩ := loadVar_ok E K hL h2
    refine ⟨v', g1, ?_⟩
    simp only [resRun, Array.getD_eq_getD_getElem?, e, Option.getD_some, Go.asAddr, Sem.run_bind, Sem.run_pure, Result.andThen_ok, g2]

theorem manyResults_ok (E : EnvOk P env) {st : St} {w : World} (T : TRel ρ st.s a) (K : Rel ρ st.h w.heap) : ∀ {rs : List ResultVar} {vs : List Value}, manyResults env st rs = .ok vs →
    ∃ vs', LRel ρ vs vs' ∧ (rs.mapM (resRun a)).run P w = .ok vs' w
  | [], vs, h => by cases h; exact ⟨[], .nil ρ, rfl⟩
  | r :: rs, vs, h => by
    obtain ⟨v, hv, h1⟩ := R.b_ok h
    obtain ⟨us, hu, h2⟩ := R.b_ok h1
    cases h2
    obtain ⟨v', r1, r2⟩ := oneResult_ok E T K hv
    obtain ⟨us', r3, r4⟩ := manyResults_ok E T K hu
    refine ⟨v' :: us', .cons r1 r3, ?_⟩
    simp only [List.mapM_cons, Sem.run_bind, r2, Result.andThen_ok, r4, Sem.run_pure]

theorem results_ok (E : EnvOk P env) {st : St} {w : World} (T : TRel ρ st.s a) (K : Rel ρ st.h w.heap) {fn : Func} {vs : List Value} (h : manyResults env st fn.results.toList = .ok vs) :
    ∃ v', VRel ρ (match vs with | [v] => v | _ => .tuple ⟨vs⟩) v' ∧ (results fn a.tmps).run P w = .ok v' w := by
  obtain ⟨vs', r1, r2⟩ := manyResults_ok E T K h
  unfold results
  rw [Sem.run_bind, Array.mapM_eq_mapM_toList, Sem.run_map]
  have r2' : ∀ f : ResultVar → Sem Value, (∀ r, f r = resRun a r) → (fn.results.toList.mapM f).run P w = .ok vs' w := by
    intro f hf
    have : f = resRun a := funext hf
    rw [this]; exact r2
  rw [r2' _ (fun r => by cases r <;> rfl)]
  simp only [Result.andThen_ok, Sem.run_pure]
  cases vs with
  | nil =>
    cases r1.nil_inv
    exact ⟨_, .tuple_of (.nil ρ), rfl⟩
  | cons v l =>
    obtain ⟨v', l', rfl, q1, q2⟩ := r1.cons_inv
    cases l with
    | nil =>
      cases q2.nil_inv
      exact ⟨v', q1, rfl⟩
    | cons u l =>
      obtain ⟨u', l2, rfl, q3, q4⟩ := q2.cons_inv
      refine ⟨.tuple ⟨v' :: u' :: l2⟩, .tuple_of (.cons q1 (.cons q3 q4)), ?_⟩
      simp

theorem callFn_ok (E : EnvOk P env) (hP : PrimOk P env) (hR : RecOk P rec) {f : Nat} {args args' : List Value} {h h' : Heap} {v : Value} {w : World} (hq : callFn env rec f args h = .ok (v, h')) (K : Rel ρ h w.heap) (ra : LRel ρ args args') :
    Entered P f ∧ Contract P f args' w ρ h v h' := by
  unfold callFn at hq
  split at hq
  · rename_i p hp
    obtain ⟨h1, h2⟩ := hP f p hp
    exact ⟨h1, h2 _ _ _ _ hq ρ w args' K ra⟩
  · obtain ⟨fn, hfn, q1⟩ := R.b_ok hq
    obtain ⟨c, hc, q2⟩ := R.b_ok q1
    obtain ⟨_, hm, q3⟩ := R.b_ok q2
    obtain ⟨r, hr, q4⟩ := R.b_ok q3
    obtain ⟨_, he, q5⟩ := R.b_ok q4
    obtain ⟨vs, hvs, q6⟩ := R.b_ok q5
    cases q6
    obtain ⟨g1, g2, g3⟩ := E.fn _ _ (R.of_ok hfn)
    have hc := R.of_ok hc
    have hm := R.must_ok hm
    simp only [Bool.and_eq_true, Nat.ble_eq] at hm
    refine ⟨⟨fn, g1, g2, g3⟩, calls_of_wp g1 hc ?_⟩
    have hlen : args'.length ≤ fn.ntmps := by rw [← ra.1]; exact hm.1
    obtain ⟨e, st'⟩ := r
    refine hR c _ e st' hr fn.ntmps hm.2 ρ _ w ?_ rfl ?_ K _ ?_
    · simp
      omega
    · intro t u hu
      rw [initTmps_get, Tree.get_leaf] at hu
      split at hu
      · obtain ⟨u', r1, r2⟩ := ra.get hu
        refine ⟨u', ?_, r2⟩
        rw [Nat.sub_zero] at r1
        have hlt := (List.getElem?_eq_some_iff.1 r1).1
        rw [Array.getElem?_append_left (by simpa using hlt), ← Array.getElem?_toList]
        exact r1
      · cases hu
    · intro ρ' a' w' hsz hd T' K' X
      obtain ⟨v', r1, r2⟩ := results_ok E T' K' hvs
      have hends := R.must_ok he
      cases e with
      | exit i => cases hends
      | normal => exact ⟨hd, v', r2, ρ', v', rfl, K', X, r1⟩
      | ret => exact ⟨hd, v', r2, ρ', v', rfl, K', X, r1⟩

end
end Go.G

/- G against the model: every loud operation. -/
namespace Go.G

/-- What a loud operation comes to. -/
def Goes (P : Program) (a : Act) (o : Oper) (ρ : Ren) (h : Heap) (w : World) (v : Value) (h' : Heap) : Prop :=
  Done P a o ρ h w v h' ∨ ∃ f args', (execOp a.eval o).run P w = .ok (.enter f ⟨args'⟩) w ∧ Contract P f args' w ρ h v h'

theorem Goes.wp {P : Program} {a : Act} {o : Oper} {ρ : Ren} {h h' : Heap} {w : World} {v : Value} (H : Goes P a o ρ h w v h') {next : Act → World → Prop} {Q : Exit → Act → World → Prop}
    (hn : ∀ (ρ' : Ren) (v' : Value) (w' : World), Rel ρ' h' w'.heap → Ext ρ h w ρ' h' w' → VRel ρ' v v' → next (a.put o.dst v') w') : o.wp P a w next Q := by
  unfold Oper.wp
  rcases H with ⟨ρ', v', w', r1, r2, r3, e | ⟨e, rfl⟩⟩ | ⟨f, args', e, c⟩
  · rw [e]; exact hn _ _ _ r1 r2 r3
  · rw [e]; exact hn _ _ _ r1 r2 r3
  · rw [e]
    exact Calls.mono c fun e w' ⟨ρ', v', e1, r1, r2, r3⟩ => by subst e1; exact hn _ _ _ r1 r2 r3

section
variable {P : Program} {env : Env} {ρ : Ren} {s : Tmps} {a : Act} {rec : Rec}

theorem Done.of_value {o : Oper} {h h' : Heap} {w : World} {v : Value} {x : Sem Value} (e : execOp a.eval o = (do pure (.value (← x)))) 
    (H : ∃ ρ' v' w', Rel ρ' h' w'.heap ∧ Ext ρ h w ρ' h' w' ∧ VRel ρ' v v' ∧ x.run P w = .ok v' w') : Done P a o ρ h w v h' :=
  let ⟨ρ', v', w', r1, r2, r3, r4⟩ := H
  ⟨ρ', v', w', r1, r2, r3, .inl (by rw [e]; exact run_v r4)⟩

theorem undef_rel (ρ : Ren) : VRel ρ undef undef := .tuple_of (.nil ρ)

theorem Done.of_unit {o : Oper} {h h' : Heap} {w : World} {x : Sem Unit} (e : execOp a.eval o = (do x; pure .skip))
    (H : ∃ w', x.run P w = .ok () w' ∧ Rel ρ h' w'.heap ∧ Ext ρ h w ρ h' w') : Done P a o ρ h w undef h' :=
  let ⟨w', r1, r2, r3⟩ := H
  ⟨ρ, undef, w', r2, r3, undef_rel ρ, .inr ⟨by rw [e]; exact run_u r1, rfl⟩⟩

theorem call_run {f : Nat} (hE : Entered P f) {w : World} {args : List Value} : (callFunc f ⟨args⟩).run P w = .ok (.enter f ⟨args⟩) w := by
  obtain ⟨fn, g1, g2, g3⟩ := hE
  unfold callFunc
  simp only [Sem.run_bind, run_program, Result.andThen_ok, g1, g2, g3]
  rfl

theorem mark_ok {h : Heap} {w : World} (K : Rel ρ h w.heap) {b off n c : Nat} {v' : Value} {p : Nat × List Value} (hc : h.cells b = .ok p) (hn : Nat.beq n 0 = false) (hv : VRel ρ (.slice (some ⟨b, off, none⟩) n c) v') :
    ∃ a' c' w', v' = .slice (some a') n c' ∧ (markStringish a').run P w = .ok () w' ∧ Rel ρ h w'.heap ∧ Ext ρ h w ρ h w' := by
  have hg := Heap.cells_ok hc
  have hn0 : n ≠ 0 := fun e => by subst e; cases hn
  obtain ⟨L, ob, g1, g2, g3⟩ := K.live _ _ hg
  have hv' : ∃ c', v' = .slice (some ⟨L.b, L.base + off, none⟩) n c' := by
    cases hv with
    | slice h1 h2 h3 h4 =>
      rw [h1] at g1; cases g1
      rcases h4 with rfl | h4
      · exact ⟨_, rfl⟩
      · omega
    | flex h1 h2 h3 h4 =>
      rw [h1] at g1; cases g1
      rcases h4 with rfl | h4
      · exact ⟨_, rfl⟩
      · omega
  obtain ⟨c', rfl⟩ := hv'
  cases g3 with
  | @cells _ _ arr e lo hi hs he hf hb0 hcs =>
  have hfz := freeze_eq (n := arr.size) g2
  have hb : BlkRel ρ L (.cells p.1 p.2) (.cells arr e (if lo == hi then (arr.size, arr.size + 1) else (min lo arr.size, max hi (arr.size + 1)))) := by
    have : ∃ lo' hi', (if lo == hi then (arr.size, arr.size + 1) else (min lo arr.size, max hi (arr.size + 1))) = (lo', hi') ∧ L.tot ≤ lo' := by
      split
      · exact ⟨_, _, rfl, by omega⟩
      · rename_i hne
        refine ⟨_, _, rfl, ?_⟩
        rcases hf with h0 | h0
        · exact absurd (by rw [h0]; exact beq_self_eq_true hi) hne
        · omega
    obtain ⟨lo', hi', e1, e2⟩ := this
    rw [e1]
    exact .cells hs he (.inr e2) hb0 hcs
  obtain ⟨r1, r2⟩ := K.set hg g1 hb
  have hput : Rel ρ h (setBlk w L.b (.cells arr e (if lo == hi then (arr.size, arr.size + 1) else (min lo arr.size, max hi (arr.size + 1))))).heap := by
    refine ⟨fun i b hi => ?_, K.inj, K.dom, fun i M hi => by simpa [setBlk] using K.low i M hi, K.glob_keep rfl fun k hk hl => ⟨(r2.keep k hk hl).1, hl⟩⟩
    refine r1.live i b ?_
    rw [Heap.get_put]
    split
    · rename_i e'; subst e'; rw [hg] at hi; exact hi
    · exact hi
  refine ⟨_, c', _, rfl, run_markStringish g2, ?_, ?_⟩
  · rw [hfz]; exact hput
  · rw [hfz]
    refine ⟨ρ.sub_refl, Nat.le_refl _, r2.size, fun k hk hl => ⟨(r2.keep k hk hl).1, hl⟩, rfl, rfl, rfl, fun _ _ => rfl, rfl⟩

theorem entryStore_ok {h : Heap} {w : World} (K : Rel ρ h w.heap) {r i clock : Nat} {k : IntKind} {born : Int} {es : List MapEntry} {t : Nat} {m' b' x x' : Value}
    (hg : h.get r = some (.map es clock)) (hf : (es.findIdx? fun e => decide ((e.born : Int) = born)) = some i) (rm : VRel ρ (.map (some r)) m') (rb : VRel ρ (.int k born) b') (rx : VRel ρ x x') :
    ∃ w', (Instr.entryStore t m' b' x').run P w = .ok () w' ∧ Rel ρ (h.put r (.map (es.modify i fun e => { e with val := x }) clock)) w'.heap ∧ Ext ρ h w ρ (h.put r (.map (es.modify i fun e => { e with val := x }) clock)) w' := by
  cases rm with
  | @map _ L hL =>
  cases rb
  obtain ⟨L', ob, g1, g2, g3⟩ := K.live _ _ hg
  rw [hL] at g1; cases g1
  cases g3 with
  | @map _ es' _ hb hes =>
  have hfi : es'.findIdx? (fun e => (e.born : Int) == born) = some i := by
    obtain ⟨l⟩ := es'
    rw [List.findIdx?_toArray, ← hf]
    refine (EsRel.findIdx (fun e e' he => ?_) hes).symm
    rw [he.born]
    rfl
  have hn : BlkRel ρ L (.map (es.modify i fun e => { e with val := x }) clock) (.map (es'.modify i fun e => { e with val := x' }) clock) := by
    refine .map hb ?_
    rw [Array.toList_modify]
    exact hes.modify i fun e e' he he' => by
      obtain ⟨e2, q1, q2⟩ := hes.get he
      rw [he'] at q1; cases q1
      exact ⟨q2.key, rx, q2.born⟩
  obtain ⟨q1, q2⟩ := K.set hg hL hn
  refine ⟨_, ?_, q1, q2⟩
  simp only [Instr.entryStore, Sem.run_bind, run_getObj g2 (fun _ _ _ e => by cases e), Result.andThen_ok, Go.asInt, Go.asIntOf, Sem.run_pure, hfi, run_setObj g2 (fun _ _ _ e => by cases e)]
  rfl

theorem loud_ok (E : EnvOk P env) (hP : PrimOk P env) (hR : RecOk P rec) (T : TRel ρ s a) {h h' : Heap} {w : World} (K : Rel ρ h w.heap) {o : Oper} {v : Value} (hq : loudOp env rec s h o.op = .ok (v, h')) :
    Goes P a o ρ h w v h' := by
  obtain ⟨dst, op, ty, pos, after, guard⟩ := o
  simp only at hq
  cases op
  case store t x y => exact .inl (store_done E T K hq)
  case range t x => exact .inl (range_done E T K hq)
  all_goals (simp only [loudOp] at hq)
  all_goals try (cases hq; done)
  case convert src dst' x =>
    obtain ⟨xv, hx, h1⟩ := R.b_ok hq
    obtain ⟨d, hd, h2⟩ := R.b_ok h1
    obtain ⟨D, d1, d2⟩ := Env.td_ok E hd
    have rx := ev_ok T hx
    clear hq h1
    split at h2
    case h_2 => cases h2
    rename_i e b off n c
    obtain ⟨ed, hed, h3⟩ := R.b_ok h2
    obtain ⟨D3, e1, e2⟩ := Env.td_ok E hed
    split at h3
    case h_2 => cases h3
    obtain ⟨_, hm, h4⟩ := R.b_ok h3
    obtain ⟨p, hp, h5⟩ := R.b_ok h4
    cases h5
    have hm := R.must_ok hm
    simp only [Bool.and_eq_true, Bool.not_eq_true'] at hm
    have hsd : src = dst' := Nat.eq_of_beq_eq_true hm.1
    subst hsd
    cases tdOf_slice d2.symm
    cases tdOf_int e2.symm
    obtain ⟨a', c', w', f1, f2, f3, f4⟩ := mark_ok (P := P) K hp hm.2 rx
    refine .inl ⟨ρ, _, w', f3, f4, rx, .inl (run_v ?_)⟩
    rw [f1]
    simp only [Go.convert, Sem.run_bind, run_und d1, run_und e1, Result.andThen_ok, beq_self_eq_true, f2, Sem.run_pure]
  case mapUpdate t m k x =>
    obtain ⟨mv, hm, h1⟩ := R.b_ok hq
    obtain ⟨kv, hk, h2⟩ := R.b_ok h1
    obtain ⟨xv, hx, h3⟩ := R.b_ok h2
    obtain ⟨r, hr, h4⟩ := R.b_ok h3
    cases h4
    exact .inl (.of_unit rfl (mapUpdate_run E T K hm hk hx hr rfl))
  case insert t m k x =>
    obtain ⟨mv, hm, h1⟩ := R.b_ok hq
    obtain ⟨kv, hk, h2⟩ := R.b_ok h1
    obtain ⟨xv, hx, h3⟩ := R.b_ok h2
    obtain ⟨r, hr, h4⟩ := R.b_ok h3
    cases h4
    exact .inl (.of_unit rfl (mapUpdate_run E T K hm hk hx hr rfl))
  case mapEntry t m k =>
    obtain ⟨mv, hm, h1⟩ := R.b_ok hq
    obtain ⟨kv, hk, h2⟩ := R.b_ok h1
    obtain ⟨r, hr, h3⟩ := R.b_ok h2
    cases h3
    obtain ⟨w', v', f1, f2, f3, f4⟩ := mapEntry_run E T K hm hk hr rfl
    exact .inl (.of_value rfl ⟨ρ, v', w', f3, f4, f2, f1⟩)
  case entryStore t m b x =>
    obtain ⟨mv, hm, h1⟩ := R.b_ok hq
    obtain ⟨bv, hb, h2⟩ := R.b_ok h1
    obtain ⟨xv, hx, h3⟩ := R.b_ok h2
    have rm := ev_ok T hm
    have rb := ev_ok T hb
    have rx := ev_ok T hx
    clear hq h1 h2
    split at h3
    case h_2 => cases h3
    split at h3
    case h_2 => cases h3
    rename_i hg
    split at h3
    case h_2 => cases h3
    rename_i hf
    cases h3
    exact .inl (.of_unit rfl (entryStore_ok K hg hf rm rb rx))
  case next it isString =>
    obtain ⟨iv, hi, h1⟩ := R.b_ok hq
    obtain ⟨v', w', f1, f2, f3, f4⟩ := next_ok (P := P) (ty := ty) K (ev_ok T hi) h1
    exact .inl (.of_value rfl ⟨ρ, v', w', f1, f2, f3, f4⟩)
  case call c =>
    obtain ⟨callee, args, argTypes⟩ := c
    cases callee <;> simp only at hq <;> try (cases hq; done)
    case value f =>
      obtain ⟨fv, hf, h1⟩ := R.b_ok hq
      obtain ⟨vs, hvs, h2⟩ := R.b_ok h1
      have rf := ev_ok T hf
      have rl := evs_ok T hvs
      clear hq h1
      split at h2
      case h_2 => cases h2
      rename_i g first cap
      obtain ⟨first⟩ := first
      obtain ⟨cap⟩ := cap
      generalize he : a.eval f = z at rf
      cases rf with
      | @func _ _ _ xs' ys' hl hm hx hy =>
      have r1 : LRel ρ first xs' := ⟨hl, hx⟩
      have r2 : LRel ρ cap ys' := ⟨hm, hy⟩
      obtain ⟨c1, c2⟩ := callFn_ok E hP hR h2 K ((r1.append rl).append r2)
      refine .inr ⟨g, _, ?_, c2⟩
      simp only [execOp, resolve, he, Deferred.ofValue, Sem.run_bind, Sem.run_pure, Result.andThen_ok, invoke]
      have : (⟨xs'⟩ : Array Value) ++ args.map a.eval ++ ⟨ys'⟩ = ⟨xs' ++ args.toList.map a.eval ++ ys'⟩ := by
        apply Array.ext'; simp
      rw [this]
      exact call_run c1
    case builtin b =>
      obtain ⟨vs, hvs, h1⟩ := R.b_ok hq
      have rl := evs_ok T hvs
      clear hq
      split at h1
      · obtain ⟨ρ', v', w', f1, f2, f3, f4⟩ := append_ok E K (ty := ty) h1 rl
        refine .inl (.of_value (x := Builtin.append_ argTypes ty (args.map a.eval)) rfl ⟨ρ', v', w', f1, f2, f3, ?_⟩)
        rw [args_eq]; exact f4
      · split at h1
        case h_2 => cases h1
        rename_i dt rest base dLen dc src hty
        obtain ⟨d, hd, h2⟩ := R.b_ok h1
        split at h2
        case h_2 => cases h2
        obtain ⟨k, hk, h3⟩ := R.b_ok h2
        obtain ⟨sl, hl, h4⟩ := R.b_ok h3
        obtain ⟨cs, hf, h5⟩ := R.b_ok h4
        obtain ⟨_, hm, h6⟩ := R.b_ok h5
        obtain ⟨h7, hw, h8⟩ := R.b_ok h6
        cases h8
        have hm := R.must_ok hm
        simp only [Bool.and_eq_true] at hm
        obtain ⟨w', f1, f2, f3⟩ := copy_run (P := P) (ty := ty) (rest := rest) E K hd hk hl hf hw rl (Nat.eq_of_beq_eq_true hm.1)
        refine .inl (.of_value (x := Builtin.copy_ argTypes ty (args.map a.eval)) rfl ⟨ρ, _, w', f1, f2, .int _ _, ?_⟩)
        rw [args_eq, ← hty] at *
        exact f3
      · split at h1
        case h_2 => cases h1
        rename_i t rest base n c hty
        obtain ⟨d, hd, h2⟩ := R.b_ok h1
        clear h1
        split at h2
        · obtain ⟨k, hk, h3⟩ := R.b_ok h2
          obtain ⟨z, hz, h4⟩ := R.b_ok h3
          obtain ⟨_, hm, h5⟩ := R.b_ok h4
          obtain ⟨h6, hw, h7⟩ := R.b_ok h5
          cases h7
          obtain ⟨w', f1, f2, f3⟩ := clear_run (P := P) (ty := ty) (rest := rest) E K hd hk (R.of_ok hz) hw rl
          refine .inl (.of_value (x := Builtin.clear_ argTypes ty (args.map a.eval)) rfl ⟨ρ, _, w', f1, f2, .tuple_of (.nil ρ), ?_⟩)
          rw [args_eq, ← hty] at *
          exact f3
        · cases h2
          obtain ⟨D, d1, d2⟩ := Env.td_ok E hd
          cases tdOf_slice d2.symm
          obtain ⟨dv, l1, hl1, rd, rl⟩ := rl.cons_inv
          cases rl.nil_inv
          refine .inl (.of_value (x := Builtin.clear_ argTypes ty (args.map a.eval)) rfl ⟨ρ, _, w, K, .refl _ _ _, .tuple_of (.nil ρ), ?_⟩)
          cases rd
          rw [args_eq, hl1]
          have hty' : argTypes[0]? = some t := by rw [← Array.getElem?_toList, hty]; rfl
          simp only [Builtin.clear_, hty', List.getElem?_toArray, List.getElem?_cons_zero, Sem.run_bind, run_und d1, Result.andThen_ok, Sem.run_pure]
        · cases h2
      · split at h1
        case h_2 => cases h1
        rename_i t rest r k hty
        obtain ⟨d, hd, h2⟩ := R.b_ok h1
        clear h1
        split at h2
        case h_2 => cases h2
        rename_i es clock hg
        obtain ⟨u, hc, h3⟩ := R.b_ok h2
        obtain ⟨fd, hfd, h4⟩ := R.b_ok h3
        obtain ⟨mv, l1, hl1, rm, rl⟩ := rl.cons_inv
        obtain ⟨k', l2, rfl, rk, rl⟩ := rl.cons_inv
        cases rl.nil_inv
        have hcase : v = .tuple #[] ∧ h' = (match fd with | some (i, _) => h.put r (.map (es.eraseIdx i) clock) | none => h) := by
          cases fd with
          | none => cases h4; exact ⟨rfl, rfl⟩
          | some p => cases h4; exact ⟨rfl, rfl⟩
        obtain ⟨rfl, hh⟩ := hcase
        obtain ⟨w', f1, f2, f3⟩ := delete_run (P := P) (ty := ty) (rest := rest) E K hd hg hc hfd rm rk (by cases fd <;> exact hh)
        refine .inl (.of_value (x := Builtin.delete_ argTypes ty (args.map a.eval)) rfl ⟨ρ, _, w', f1, f2, .tuple_of (.nil ρ), ?_⟩)
        rw [args_eq, hl1, ← hty] at *
        exact f3
      · cases h1

end
end Go.G

/- G against the model: a region in the order of the text, and code. -/
namespace Go.G

theorem put_tmps_size (a : Act) (d : Option Nat) (v : Value) : (a.put d v).tmps.size = a.tmps.size := by
  cases d <;> simp [Act.put]
theorem put_defers (a : Act) (d : Option Nat) (v : Value) : (a.put d v).defers = a.defers := by
  cases d <;> rfl

def dstIn (n : Nat) (d : Option Nat) : Bool :=
  match d with
  | some d => Nat.blt d n
  | none => true

theorem TRel.put {ρ : Ren} {s : Tmps} {a : Act} (T : TRel ρ s a) {d : Option Nat} {v v' : Value} (hd : dstIn a.tmps.size d = true) (hv : VRel ρ v v') : TRel ρ (putDst s d v) (a.put d v') := by
  cases d with
  | none => exact T
  | some d =>
    intro t u hu
    simp only [putDst, Tree.get_put] at hu
    have hlt : d < a.tmps.size := by simpa only [dstIn, Nat.blt_eq] using hd
    split at hu
    · rename_i e
      subst e
      cases hu
      exact ⟨v', by simp [Act.put, hlt], hv⟩
    · rename_i e
      obtain ⟨u', h1, h2⟩ := T t u hu
      refine ⟨u', ?_, h2⟩
      simp only [Act.put]
      rw [Array.getElem?_setIfInBounds_ne (Ne.symm e)]
      exact h1

section
variable {P : Program} {env : Env} {ρ : Ren} {s : Tmps} {a : Act} {rec : Rec}

theorem runs_ok (T : TRel ρ s a) {ops : Array Oper} {o : Oper} {b : Bool} (h : runs ops.toList s o = .ok b) : Region.wanted o (yielded ops a.tmps) = b := by
  unfold runs at h
  unfold Region.wanted
  split at h
  · rename_i hg; cases h; rw [hg]
  · rename_i j want hg
    rw [hg]
    obtain ⟨t, ht, h1⟩ := R.b_ok h
    obtain ⟨v, hv, h2⟩ := R.b_ok h1
    obtain ⟨v', e1, r1⟩ := T t v (R.of_ok hv)
    have ht := R.of_ok ht
    rw [Array.getElem?_toList] at ht
    simp only [yielded, ht, Option.bind_some, e1]
    clear h h1 ht hv e1
    split at h2
    · cases h2; cases r1
      rfl
    · rename_i hne
      cases h2
      cases r1 <;> first | rfl | exact absurd rfl (hne _)

/-- What an operation that G ran comes to. -/
theorem oneOp_ok (E : EnvOk P env) (hP : PrimOk P env) (hR : RecOk P rec) {st st' : St} (T : TRel ρ st.s a) {w : World} (K : Rel ρ st.h w.heap) {o : Oper} (hd : dstIn a.tmps.size o.dst = true) (hq : oneOp env rec o.op o.dst st = .ok st')
    {next : Act → World → Prop} {Q : Exit → Act → World → Prop}
    (hn : ∀ (ρ' : Ren) (a' : Act) (w' : World), a'.tmps.size = a.tmps.size → a'.defers = a.defers → TRel ρ' st'.s a' → Rel ρ' st'.h w'.heap → Ext ρ st.h w ρ' st'.h w' → next a' w') : o.wp P a w next Q := by
  unfold oneOp at hq
  split at hq
  · obtain ⟨v, hv, h1⟩ := R.b_ok hq
    cases h1
    obtain ⟨v', r1, r2⟩ := quiet_ok E K T hv
    unfold Oper.wp
    rw [r2]
    exact hn ρ _ w (put_tmps_size _ _ _) (put_defers _ _ _) (T.put hd r1) K (.refl _ _ _)
  · obtain ⟨⟨v, b⟩, hv, h1⟩ := R.b_ok hq
    cases h1
    obtain ⟨v', L, ob, w', m⟩ := makes_ok E T hv K.fresh w
    obtain ⟨r1, r2⟩ := K.add (w' := w') (o := ob) L m.lb m.heap m.os m.tape m.output m.blk
    unfold Oper.wp
    rw [m.run]
    exact hn _ _ w' (put_tmps_size _ _ _) (put_defers _ _ _) ((T.mono r2.sub).put hd m.val) r1 r2
  · obtain ⟨⟨v, h'⟩, hv, h1⟩ := R.b_ok hq
    cases h1
    refine (loud_ok E hP hR T K hv).wp fun ρ' v' w' r1 r2 r3 => ?_
    exact hn ρ' _ w' (put_tmps_size _ _ _) (put_defers _ _ _) ((T.mono r2.sub).put hd r3) r1 r2

theorem inOrder_ok (E : EnvOk P env) (hP : PrimOk P env) (hR : RecOk P rec) {ops : Array Oper} {n : Nat} {Q : Exit → Act → World → Prop} : ∀ (l : List Oper) (i : Nat), ops.toList.drop i = l → (∀ o ∈ l, dstIn n o.dst = true) →
    ∀ (st st' : St), inOrder env rec ops.toList l st = .ok st' → ∀ (ρ : Ren) (a : Act) (w : World), a.tmps.size = n → TRel ρ st.s a → Rel ρ st.h w.heap →
    (∀ (ρ' : Ren) (a' : Act) (w' : World), a'.tmps.size = n → a'.defers = a.defers → TRel ρ' st'.s a' → Rel ρ' st'.h w'.heap → Ext ρ st.h w ρ' st'.h w' → Q .normal a' w') →
    wpOps P ops Q (List.range' i l.length) a w
  | [], i, hl, hd, st, st', hq, ρ, a, w, hn, T, K, hQ => by
    cases hq
    exact hQ ρ a w hn rfl T K (.refl _ _ _)
  | o :: l, i, hl, hd, st, st', hq, ρ, a, w, hn, T, K, hQ => by
    have hi : ops[i]? = some o := by
      have : (ops.toList.drop i)[0]? = some o := by rw [hl]; rfl
      rw [List.getElem?_drop, Nat.add_zero, Array.getElem?_toList] at this
      exact this
    have hl' : ops.toList.drop (i + 1) = l := by
      rw [← List.drop_drop, hl]; rfl
    have hdo := hd o (List.mem_cons_self ..)
    have hdl : ∀ x ∈ l, dstIn n x.dst = true := fun x hx => hd x (List.mem_cons_of_mem _ hx)
    rw [List.length_cons, List.range'_succ]
    simp only [wpOps, hi]
    obtain ⟨go, hgo, h1⟩ := R.b_ok hq
    rw [runs_ok T hgo]
    cases go with
    | true =>
      obtain ⟨st1, hs1, h2⟩ := R.b_ok (show _ = R.ok st' from h1)
      rw [if_pos rfl]
      refine .inl (oneOp_ok E hP hR T K (hn ▸ hdo) (R.at_ok hs1) fun ρ1 a1 w1 s1 d1 T1 K1 X1 => ?_)
      refine inOrder_ok E hP hR l (i + 1) hl' hdl st1 st' h2 ρ1 a1 w1 (s1.trans hn) T1 K1 fun ρ' a' w' s2 d2 T2 K2 X2 => ?_
      exact hQ ρ' a' w' s2 (d2.trans d1) T2 K2 (X1.trans X2)
    | false =>
      rw [if_neg (by decide)]
      refine inOrder_ok E hP hR l (i + 1) hl' hdl _ st' h1 ρ _ w ((put_tmps_size _ _ _).trans hn) (T.put (hn ▸ hdo) (undef_rel ρ)) K fun ρ' a' w' s2 d2 T2 K2 X2 => ?_
      exact hQ ρ' a' w' s2 (d2.trans (put_defers _ _ _)) T2 K2 X2

def DrawOk (P : Program) (env : Env) : Prop :=
  ∀ (rec : Rec), RecOk P rec → ∀ (id : Nat) (ops : Array Oper) (st st' : St), gDraw env rec ops.toList st = .ok st' → ∀ (n : Nat), (∀ o ∈ ops.toList, dstIn n o.dst = true) → ∀ (ρ : Ren) (a : Act) (w : World), a.tmps.size = n → TRel ρ st.s a → Rel ρ st.h w.heap →
    ∀ Q : Exit → Act → World → Prop, (∀ (ρ' : Ren) (a' : Act) (w' : World), a'.tmps.size = n → a'.defers = a.defers → TRel ρ' st'.s a' → Rel ρ' st'.h w'.heap → Ext ρ st.h w ρ' st'.h w' → Q .normal a' w') →
    (Code.region id ops true).wp P Q a w

/-- The rounds of a loop that G ran. -/
def LoopOk (P : Program) (rec : Rec) (m : Nat) : Prop :=
  ∀ (c : Code) (st : St) (e : Ex) (st' : St), rec (.loop c) st = .ok (e, st') → ∀ (n : Nat), dstsOk n c = true → ∀ (ρ : Ren) (a : Act) (w : World), a.tmps.size = n → a.defers = [] → TRel ρ st.s a → Rel ρ st.h w.heap →
    ∀ Q : Exit → Act → World → Prop, (∀ (ρ' : Ren) (a' : Act) (w' : World), a'.tmps.size = n → a'.defers = [] → TRel ρ' st'.s a' → Rel ρ' st'.h w'.heap → Ext ρ st.h w ρ' st'.h w' → Q (exitOf e) a' w') → Code.rounds P c Q m a w

theorem step_loop (hR : RecOk P rec) {m : Nat} (hL : LoopOk P rec m) : LoopOk P (gStep env rec) (m + 1) := by
  intro c st e st' hq n hd ρ a w hn hdf T K Q hQ
  rw [rounds_succ]
  obtain ⟨⟨e1, st1⟩, h1, h2⟩ := R.b_ok (show (rec c st).b _ = .ok (e, st') from hq)
  refine hR c st e1 st1 h1 n hd ρ a w hn hdf T K _ fun ρ1 a1 w1 n1 d1 T1 K1 X1 => ?_
  cases e1 with
  | normal =>
    refine hL c st1 e st' h2 n hd ρ1 a1 w1 n1 d1 T1 K1 Q fun ρ' a' w' n2 d2 T2 K2 X2 => ?_
    exact hQ ρ' a' w' n2 d2 T2 K2 (X1.trans X2)
  | exit i => cases h2; exact hQ ρ1 a1 w1 n1 d1 T1 K1 X1
  | ret => cases h2; exact hQ ρ1 a1 w1 n1 d1 T1 K1 X1

theorem step_code (E : EnvOk P env) (hP : PrimOk P env) (hD : DrawOk P env) (hR : RecOk P rec) {m : Nat} (hL : LoopOk P (gStep env rec) m) : RecOk P (gStep env rec) := by
  intro c st e st' hq n hd ρ a w hn hdf T K Q hQ
  cases c <;> simp only [gStep] at hq <;> try (cases hq; done)
  case skip => cases hq; exact wp_skip (hQ ρ a w hn hdf T K (.refl _ _ _))
  case label l => cases hq; exact wp_label (hQ ρ a w hn hdf T K (.refl _ _ _))
  case exit i => cases hq; exact wp_exit (hQ ρ a w hn hdf T K (.refl _ _ _))
  case ret => cases hq; exact wp_ret (hQ ρ a w hn hdf T K (.refl _ _ _))
  case region id ops draw =>
    obtain ⟨st1, h1, h2⟩ := R.b_ok hq
    cases h2
    have hd' : ∀ o ∈ ops.toList, dstIn n o.dst = true := by
      simp only [dstsOk, List.all_eq_true] at hd
      exact hd
    cases draw with
    | true => exact hD rec hR id ops st st' h1 n hd' ρ a w hn T K Q fun ρ' a' w' n1 d1 T1 K1 X1 => hQ ρ' a' w' n1 (d1.trans hdf) T1 K1 X1
    | false =>
      refine wp_region ?_
      rw [List.range_eq_range', ← Array.length_toList]
      exact inOrder_ok E hP hR ops.toList 0 rfl hd' st st' h1 ρ a w hn T K fun ρ' a' w' n1 d1 T1 K1 X1 => hQ ρ' a' w' n1 (d1.trans hdf) T1 K1 X1
  case seq x y =>
    simp only [dstsOk, Bool.and_eq_true] at hd
    obtain ⟨⟨e1, st1⟩, h1, h2⟩ := R.b_ok hq
    refine wp_seq (hR x st e1 st1 h1 n hd.1 ρ a w hn hdf T K _ fun ρ1 a1 w1 n1 d1 T1 K1 X1 => ?_)
    cases e1 with
    | normal => exact hR y st1 e st' h2 n hd.2 ρ1 a1 w1 n1 d1 T1 K1 Q fun ρ' a' w' n2 d2 T2 K2 X2 => hQ ρ' a' w' n2 d2 T2 K2 (X1.trans X2)
    | exit i => cases h2; exact hQ ρ1 a1 w1 n1 d1 T1 K1 X1
    | ret => cases h2; exact hQ ρ1 a1 w1 n1 d1 T1 K1 X1
  case cond c x y =>
    simp only [dstsOk, Bool.and_eq_true] at hd
    obtain ⟨v, hv, h1⟩ := R.b_ok hq
    obtain ⟨t, ht, h2⟩ := R.b_ok h1
    have rv := ev_ok T hv
    have hvb : v = .bool t := by cases v <;> cases ht; rfl
    subst hvb
    generalize he : a.eval c = z at rv
    cases rv
    refine wp_cond he ?_
    cases t with
    | true => exact hR x st e st' h2 n hd.1 ρ a w hn hdf T K Q hQ
    | false => exact hR y st e st' h2 n hd.2 ρ a w hn hdf T K Q hQ
  case block id x =>
    obtain ⟨⟨e1, st1⟩, h1, h2⟩ := R.b_ok hq
    refine wp_block (hR x st e1 st1 h1 n hd ρ a w hn hdf T K _ fun ρ1 a1 w1 n1 d1 T1 K1 X1 => ?_)
    cases e1 with
    | normal => cases h2; exact hQ ρ1 a1 w1 n1 d1 T1 K1 X1
    | ret => cases h2; exact hQ ρ1 a1 w1 n1 d1 T1 K1 X1
    | exit i =>
      simp only at h2
      simp only [exitOf, Exit.inBlock]
      cases hb : Nat.beq i id with
      | true =>
        rw [hb] at h2
        cases h2
        rw [if_pos (Nat.eq_of_beq_eq_true hb)]
        exact hQ ρ1 a1 w1 n1 d1 T1 K1 X1
      | false =>
        rw [hb] at h2
        cases h2
        rw [if_neg (fun e => by subst e; rw [Nat.beq_refl] at hb; cases hb)]
        exact hQ ρ1 a1 w1 n1 d1 T1 K1 X1
  case loop x =>
    exact wp_loop_rounds m (hL x st e st' hq n hd ρ a w hn hdf T K Q hQ)

theorem run_ok (E : EnvOk P env) (hP : PrimOk P env) (hD : DrawOk P env) : ∀ k, RecOk P (run env k) ∧ LoopOk P (run env k) k
  | 0 => ⟨fun _ _ _ _ hq => (by cases hq), fun _ _ _ _ hq => (by cases hq)⟩
  | k + 1 =>
    let ⟨h1, h2⟩ := run_ok E hP hD k
    let h3 := step_loop (env := env) h1 h2
    ⟨step_code E hP hD h1 h3, h3⟩

theorem call_ok (E : EnvOk P env) (hP : PrimOk P env) (hD : DrawOk P env) {k f : Nat} {args args' : List Value} {h h' : Heap} {v : Value} {w : World} (hq : callFn env (run env k) f args h = .ok (v, h')) (K : Rel ρ h w.heap) (ra : LRel ρ args args') :
    Contract P f args' w ρ h v h' := (callFn_ok E hP (run_ok E hP hD k).1 hq K ra).2

end
end Go.G

/- G: an operation looks at its operands alone. -/
namespace Go.G

section
variable {env : Env} {rec : Rec} {s s' : Tmps}

theorem evs_same : ∀ {l : List Operand}, (∀ x ∈ l, ev s x = ev s' x) → evs s l = evs s' l
  | [], _ => rfl
  | o :: l, h => by
    simp only [evs]
    rw [h o (List.mem_cons_self ..), evs_same fun x hx => h x (List.mem_cons_of_mem _ hx)]

theorem evParts_same : ∀ {l : List (Nat × Operand)}, (∀ p ∈ l, ev s p.2 = ev s' p.2) → evParts s l = evParts s' l
  | [], _ => rfl
  | (i, o) :: l, h => by
    simp only [evParts]
    rw [h (i, o) (List.mem_cons_self ..), evParts_same fun x hx => h x (List.mem_cons_of_mem _ hx)]

theorem evOpt_same {o : Option Operand} (h : ∀ x ∈ o, ev s x = ev s' x) : evOpt s o = evOpt s' o := by
  cases o with
  | none => rfl
  | some o => simp only [evOpt]; rw [h o rfl]

theorem quiet_same {o : Op} (H : ∀ x ∈ o.operands, ev s x = ev s' x) (h : Heap) : quietOp env s h o = quietOp env s' h o := by
  cases o <;> simp only [quietOp] <;> simp only [Op.operands] at H
  case move x => exact H x (by simp)
  case assign x => exact H x (by simp)
  case pick c a b => rw [H c (by simp), H a (by simp), H b (by simp)]
  case build t ps => rw [evParts_same fun p hp => H p.2 (by simp only [List.mem_toArray, List.mem_map]; exact ⟨p, hp, rfl⟩)]
  case load t a => rw [H a (by simp)]
  case nilCheck x => rw [H x (by simp)]
  case binOp op t x y c => rw [H x (by simp), H y (by simp)]
  case unOp op t x => rw [H x (by simp)]
  case convert a b x => rw [H x (by simp)]
  case makeInterface t x => rw [H x (by simp)]
  case makeFunc f first cap =>
    cases f <;> simp only
    rw [evs_same fun x hx => H x (by simp only [Array.mem_append]; exact .inl (Array.mem_toList_iff.1 hx)), evs_same fun x hx => H x (by simp only [Array.mem_append]; exact .inr (Array.mem_toList_iff.1 hx))]
  case slice t x l u m =>
    rw [H x (by simp), evOpt_same (o := l) fun y hy => H y (by simp only [Option.mem_def] at hy; subst hy; simp), evOpt_same (o := u) fun y hy => H y (by simp only [Option.mem_def] at hy; subst hy; simp), evOpt_same (o := m) fun y hy => H y (by simp only [Option.mem_def] at hy; subst hy; simp)]
  case fieldAddr t x f => rw [H x (by simp)]
  case field t x f => rw [H x (by simp)]
  case indexAddr t x y => rw [H x (by simp), H y (by simp)]
  case index t x y => rw [H x (by simp), H y (by simp)]
  case lookup t x y ok => rw [H x (by simp), H y (by simp)]
  case extract x i => rw [H x (by simp)]
  case entry x => rw [H x (by simp)]
  case call c =>
    obtain ⟨callee, args, argTypes⟩ := c
    cases callee <;> simp only
    simp only [Call.operands] at H
    rw [evs_same fun x hx => H x (by simp only [Array.mem_append]; exact .inr (Array.mem_toList_iff.1 hx))]

theorem makes_same {o : Op} (H : ∀ x ∈ o.operands, ev s x = ev s' x) (i : Nat) : makesOp env s i o = makesOp env s' i o := by
  cases o <;> simp only [makesOp] <;> simp only [Op.operands] at H
  case box t x => rw [H x (by simp)]
  case buildSlice t n ps => rw [evParts_same fun p hp => H p.2 (by simp only [List.mem_toArray, List.mem_map]; exact ⟨p, hp, rfl⟩)]
  case makeSlice t l c => rw [H l (by simp), H c (by simp)]
  case convert a b x => rw [H x (by simp)]

theorem loud_same {o : Op} (H : ∀ x ∈ o.operands, ev s x = ev s' x) (h : Heap) : loudOp env rec s h o = loudOp env rec s' h o := by
  cases o <;> simp only [loudOp] <;> simp only [Op.operands] at H
  case store t a x => rw [H a (by simp), H x (by simp)]
  case convert a b x => rw [H x (by simp)]
  case mapUpdate t m k x => rw [H m (by simp), H k (by simp), H x (by simp)]
  case insert t m k x => rw [H m (by simp), H k (by simp), H x (by simp)]
  case mapEntry t m k => rw [H m (by simp), H k (by simp)]
  case entryStore t m k x => rw [H m (by simp), H k (by simp), H x (by simp)]
  case range t x => rw [H x (by simp)]
  case next x b => rw [H x (by simp)]
  case call c =>
    obtain ⟨callee, args, argTypes⟩ := c
    simp only [Call.operands] at H
    cases callee <;> simp only
    case value f =>
      rw [H f (by simp), evs_same fun x hx => H x (by simp only [Array.mem_append]; exact .inr (Array.mem_toList_iff.1 hx))]
    case builtin b =>
      rw [evs_same fun x hx => H x (by simp only [Array.mem_append]; exact .inr (Array.mem_toList_iff.1 hx))]

theorem quiet_deaf {o : Op} (hr : readsHeap o = false) (h h' : Heap) : quietOp env s h o = quietOp env s h' o := by
  cases o <;> first | (cases hr; done) | rfl | (rename_i f _ _; cases f <;> rfl)

/-- The temporaries, as far as they are looked at. -/
def keepT (s : Tmps) : List Nat → Tmps
  | [] => .leaf
  | t :: l => (keepT s l).put t (s.get t)

theorem keepT_get (s : Tmps) : ∀ (l : List Nat) (t : Nat), (keepT s l).get t = if t ∈ l then s.get t else none
  | [], t => by simp [keepT, Tree.get]
  | u :: l, t => by
    simp only [keepT, Tree.get_put, keepT_get s l t, List.mem_cons]
    by_cases h : t = u
    · subst h; simp
    · simp [h]

theorem ev_keep {l : List Nat} {x : Operand} (h : ∀ t, x = .tmp t → t ∈ l) : ev (keepT s l) x = ev s x := by
  cases x with
  | tmp t => simp only [ev, keepT_get]; rw [if_pos (h t rfl)]
  | const v => rfl
  | func f => rfl
  | global g => rfl

theorem looks_op {ops : Array Oper} {o : Oper} {t : Nat} (h : Operand.tmp t ∈ o.op.operands) : t ∈ o.looksAt ops := by
  unfold Oper.looksAt
  rw [List.mem_append]
  left
  rw [List.mem_filterMap]
  exact ⟨.tmp t, Array.mem_toList_iff.2 h, rfl⟩

theorem looks_guard {ops : Array Oper} {o : Oper} {j : Nat} {b : Bool} {t : Nat} (hg : o.guard = some (j, b)) (hd : (ops[j]?).bind (·.dst) = some t) : t ∈ o.looksAt ops := by
  unfold Oper.looksAt
  rw [List.mem_append]
  right
  rw [hg]
  simp [hd]

theorem keep_operands {ops : Array Oper} {o : Oper} (x : Operand) (hx : x ∈ o.op.operands) : ev (keepT s (o.looksAt ops)) x = ev s x :=
  ev_keep fun _ e => looks_op (e ▸ hx)

theorem keep_runs {ops : Array Oper} {o : Oper} : runs ops.toList (keepT s (o.looksAt ops)) o = runs ops.toList s o := by
  unfold runs
  cases hg : o.guard with
  | none => rfl
  | some p =>
    obtain ⟨j, b⟩ := p
    simp only
    cases hd : ops.toList[j]?.bind (·.dst) with
    | none => rfl
    | some t =>
      rw [Array.getElem?_toList] at hd
      simp only [R.of, R.b]
      rw [keepT_get, if_pos (looks_guard hg hd)]

end
end Go.G

/- G: what a region's masks say, and what the reading in the order of the text leaves behind. -/
namespace Go.G

theorem testBit_fold (acc : List Nat) (p : Nat) : ∀ (l : List Edge) (s : Nat),
    (l.foldl (fun s e => cond (Region.binds .any e) (s ||| 2 ^ e.on ||| acc.getD e.on 0) s) s).testBit p = true ↔ s.testBit p = true ∨ ∃ e ∈ l, Region.binds .any e = true ∧ (e.on = p ∨ (acc.getD e.on 0).testBit p = true)
  | [], s => by simp
  | e :: l, s => by
    rw [List.foldl_cons, testBit_fold acc p l]
    cases hb : Region.binds .any e with
    | false =>
      simp only [cond_false, List.mem_cons]
      constructor
      · rintro (h | ⟨x, hx, h⟩)
        · exact .inl h
        · exact .inr ⟨x, .inr hx, h⟩
      · rintro (h | ⟨x, rfl | hx, h⟩)
        · exact .inl h
        · rw [hb] at h; cases h.1
        · exact .inr ⟨x, hx, h⟩
    | true =>
      simp only [cond_true, List.mem_cons, Nat.testBit_or, Nat.testBit_two_pow, Bool.or_eq_true, decide_eq_true_eq]
      constructor
      · rintro (((h | h) | h) | ⟨x, hx, h⟩)
        · exact .inl h
        · exact .inr ⟨e, .inl rfl, hb, .inl h⟩
        · exact .inr ⟨e, .inl rfl, hb, .inr h⟩
        · exact .inr ⟨x, .inr hx, h⟩
      · rintro (h | ⟨x, rfl | hx, h1, h2 | h2⟩)
        · exact .inl (.inl (.inl h))
        · exact .inl (.inl (.inr h2))
        · exact .inl (.inr h2)
        · exact .inr ⟨x, hx, h1, .inl h2⟩
        · exact .inr ⟨x, hx, h1, .inr h2⟩

theorem mask_bit {acc : List Nat} {o : Oper} {p : Nat} : (maskOf acc o).testBit p = true ↔ ∃ e ∈ o.after.toList, Region.binds .any e = true ∧ (e.on = p ∨ (acc.getD e.on 0).testBit p = true) := by
  unfold maskOf
  rw [testBit_fold]
  simp

theorem masks_len : ∀ (l : List Oper) (acc : List Nat), (masksOf l acc).length = acc.length + l.length
  | [], acc => rfl
  | o :: l, acc => by simp only [masksOf]; rw [masks_len l]; simp; omega

theorem masks_take : ∀ (l : List Oper) (acc : List Nat), (masksOf l acc).take acc.length = acc
  | [], acc => by simp [masksOf]
  | o :: l, acc => by
    simp only [masksOf]
    have := masks_take l (acc ++ [maskOf acc o])
    have h2 : (masksOf l (acc ++ [maskOf acc o])).take acc.length = ((masksOf l (acc ++ [maskOf acc o])).take (acc ++ [maskOf acc o]).length).take acc.length := by
      rw [List.take_take]; congr 1; simp
    rw [h2, this]
    simp

theorem masks_at : ∀ (l : List Oper) (acc : List Nat) (k : Nat) (o : Oper), l[k]? = some o → (masksOf l acc)[acc.length + k]? = some (maskOf ((masksOf l acc).take (acc.length + k)) o)
  | [], acc, k, o, h => by simp at h
  | x :: l, acc, 0, o, h => by
    have e : o = x := by simpa using h.symm
    subst e
    have h1 := masks_take l (acc ++ [maskOf acc o])
    have h0 := masks_take (o :: l) acc
    simp only [Nat.add_zero]
    rw [h0]
    simp only [masksOf]
    have : ((masksOf l (acc ++ [maskOf acc o])).take (acc ++ [maskOf acc o]).length)[acc.length]? = some (maskOf acc o) := by rw [h1]; simp
    rw [List.getElem?_take] at this
    split at this
    · exact this
    · cases this
  | x :: l, acc, k + 1, o, h => by
    have := masks_at l (acc ++ [maskOf acc x]) k o h
    simp only [List.length_append, List.length_singleton] at this
    simp only [masksOf]
    rw [show acc.length + (k + 1) = acc.length + 1 + k from by omega]
    exact this

/-- The masks of a region. -/
structure Masks (ops : List Oper) (ms : List Nat) : Prop where
  bit : ∀ i o, ops[i]? = some o → (ms.getD i 0) < 2 ^ i → ∀ p, (ms.getD i 0).testBit p = true ↔ ∃ e ∈ o.after.toList, Region.binds .any e = true ∧ (e.on = p ∨ (e.on < i ∧ (ms.getD e.on 0).testBit p = true))

theorem masks_ok (ops : List Oper) : Masks ops (masksOf ops []) := by
  refine ⟨fun i o hi _ p => ?_⟩
  have h := masks_at ops [] i o hi
  simp only [List.length_nil, Nat.zero_add] at h
  have hg : (masksOf ops []).getD i 0 = maskOf ((masksOf ops []).take i) o := by rw [List.getD_eq_getElem?_getD, h]; rfl
  rw [hg, mask_bit]
  have key : ∀ e : Edge, (((masksOf ops []).take i).getD e.on 0).testBit p = true ↔ e.on < i ∧ ((masksOf ops []).getD e.on 0).testBit p = true := by
    intro e
    rw [List.getD_eq_getElem?_getD, List.getElem?_take]
    split
    · rename_i h; simp [h]
    · rename_i h; simp [h]
  constructor
  · rintro ⟨e, h1, h2, h3 | h3⟩
    · exact ⟨e, h1, h2, .inl h3⟩
    · exact ⟨e, h1, h2, .inr ((key e).1 h3)⟩
  · rintro ⟨e, h1, h2, h3 | h3⟩
    · exact ⟨e, h1, h2, .inl h3⟩
    · exact ⟨e, h1, h2, .inr ((key e).2 h3)⟩

theorem bit_lt {m i p : Nat} (h : m < 2 ^ i) (hb : m.testBit p = true) : p < i := by
  rcases Nat.lt_or_ge p i with h1 | h1
  · exact h1
  · have : m < 2 ^ p := Nat.lt_of_lt_of_le h (Nat.pow_le_pow_right (by decide) h1)
    rw [Nat.testBit_lt_two_pow this] at hb
    cases hb

/-- What the check of a region's text says. -/
structure Plan (env : Env) (ops : List Oper) (ms : List Nat) : Prop where
  low : ∀ i o, ops[i]? = some o → ms.getD i 0 < 2 ^ i
  guard : ∀ i o j b, ops[i]? = some o → o.guard = some (j, b) → (ms.getD i 0).testBit j = true
  pair : ∀ i j x y, ops[j]? = some x → ops[i]? = some y → j < i → dstsApart x y = true ∧ ((ms.getD i 0).testBit j = true ∨ (sepOf ops x y = true ∧ (isLoud env x.op = true → isLoud env y.op = true → False)))

theorem pairs_ok {env : Env} {ops : List Oper} {m : Nat} {y : Oper} : ∀ {l : List Oper} {j i : Nat}, pairsOk env ops m y l j i = true → ∀ k x, l[k]? = some x → j + k < i → pairOk env ops m (j + k) x y = true
  | [], j, i, _, k, x, h, _ => by simp at h
  | z :: l, j, i, hp, k, x, h, hk => by
    simp only [pairsOk, Bool.or_eq_true, Nat.ble_eq, Bool.and_eq_true] at hp
    rcases hp with hp | hp
    · omega
    · cases k with
      | zero => cases h; exact hp.1
      | succ k =>
        have := pairs_ok hp.2 k x h (by omega)
        rw [show j + (k + 1) = j + 1 + k from by omega]
        exact this

theorem plan_at {env : Env} {ops : List Oper} {ms : List Nat} : ∀ {l : List Oper} {i : Nat}, planOk env ops ms l i = true → ∀ k o, l[k]? = some o →
    ms.getD (i + k) 0 < 2 ^ (i + k) ∧ guardOk (ms.getD (i + k) 0) o = true ∧ pairsOk env ops (ms.getD (i + k) 0) o ops 0 (i + k) = true
  | [], i, _, k, o, h => by simp at h
  | x :: l, i, hp, k, o, h => by
    simp only [planOk, Bool.and_eq_true, Nat.blt_eq] at hp
    cases k with
    | zero => cases h; exact ⟨hp.1.1.1, hp.1.1.2, hp.1.2⟩
    | succ k =>
      have := plan_at hp.2 k o h
      rw [show i + (k + 1) = i + 1 + k from by omega]
      exact this

theorem plan_ok {env : Env} {ops : List Oper} {ms : List Nat} (h : planOk env ops ms ops 0 = true) : Plan env ops ms := by
  refine ⟨fun i o hi => ?_, fun i o j b hi hg => ?_, fun i j x y hj hi hlt => ?_⟩
  · have := (plan_at h i o hi).1; rwa [Nat.zero_add] at this
  · have := (plan_at h i o hi).2.1
    rw [Nat.zero_add] at this
    simpa [guardOk, hg] using this
  · have := (plan_at h i y hi).2.2
    rw [Nat.zero_add] at this
    have := pairs_ok this j x hj (by omega)
    rw [Nat.zero_add] at this
    simp only [pairOk, Bool.and_eq_true, Bool.or_eq_true, Bool.not_eq_true', Bool.and_eq_false_iff] at this
    refine ⟨this.1, this.2.imp id fun h => ⟨h.1, fun h1 h2 => ?_⟩⟩
    rcases h.2 with h3 | h3
    · rw [h1] at h3; cases h3
    · rw [h2] at h3; cases h3

end Go.G

/- G: the facts that the reading of a region in the order of the text leaves behind. -/
namespace Go.G

def after (s : Tmps) (l : List Item) : Tmps := l.foldl (fun s x => putDst s x.o.dst x.v) s

/-- Nothing loud among the first k must come behind item p. -/
def Pend (ms : List Nat) (it : List Item) (p k : Nat) : Prop :=
  ∀ r y, it[r]? = some y → y.loud = true → (it.take r).countP Item.loud < k → (ms.getD r 0).testBit p = false

def BackOk (ms : List Nat) (it : List Item) (i k : Nat) (back : List (Nat × Blk)) : Prop :=
  ∀ p b, (p, b) ∈ back → (ms.getD i 0).testBit p = true ∧ (∃ y, it[p]? = some y ∧ y.b = some b) ∧ Pend ms it p k

def EndOk (ms : List Nat) (it : List Item) (back : List (Nat × Blk)) : Prop :=
  ∀ p b, (p, b) ∈ back → (∃ y, it[p]? = some y ∧ y.b = some b) ∧ ∀ r y, it[r]? = some y → y.loud = true → (ms.getD r 0).testBit p = false

structure Fact (env : Env) (rec : Rec) (ops : List Oper) (ms : List Nat) (base : Nat) (s0 : Tmps) (it : List Item) (hs : List Heap) (i : Nat) (x : Item) : Prop where
  o : ops[i]? = some x.o
  s : x.s = after s0 (it.take i)
  q : x.q = (it.take i).countP Item.loud
  run : runs ops x.s x.o = .ok x.act
  idle : x.act = false → x.v = undef ∧ x.b = none
  quiet : x.act = true → kindOf env x.o.op = .quiet → x.kd = .quiet ∧ x.b = none ∧ ∃ back h, BackOk ms it i x.q back ∧ hs[x.q]? = some h ∧ quietOp env x.s (adopt base back h) x.o.op = .ok x.v
  makes : x.act = true → kindOf env x.o.op = .makes → x.kd = .makes ∧ ∃ b, x.b = some b ∧ makesOp env x.s (base + i) x.o.op = .ok (x.v, b)
  loud : x.act = true → kindOf env x.o.op = .loud → x.kd = .loud ∧ x.b = none ∧ ∃ back h h', BackOk ms it i x.q back ∧ hs[x.q]? = some h ∧ hs[x.q + 1]? = some h' ∧ loudOp env rec x.s (adopt base back h) x.o.op = .ok (x.v, h')

structure Traced (env : Env) (rec : Rec) (ops : List Oper) (ms : List Nat) (base : Nat) (s0 : Tmps) (past : List Item) (pasths : List Heap) (l : List Oper) (h : Heap) (items : List Item) (heaps : List Heap) (st : St) : Prop where
  len : items.length = l.length
  head : heaps[0]? = some h
  hlen : heaps.length = items.countP Item.loud + 1
  fact : ∀ k x, items[k]? = some x → Fact env rec ops ms base s0 (past ++ items) (pasths ++ heaps) (past.length + k) x
  fin_s : st.s = after s0 (past ++ items)
  fin_h : ∃ back hl, heaps[items.countP Item.loud]? = some hl ∧ st.h = adopt base back hl ∧ EndOk ms (past ++ items) back

theorem Traced.cons {env : Env} {rec : Rec} {ops : List Oper} {ms : List Nat} {base : Nat} {s0 : Tmps} {past : List Item} {pasths hadd : List Heap} {o : Oper} {l : List Oper} {h h' : Heap} {x : Item} {items : List Item} {heaps : List Heap} {st : St}
    (H : Traced env rec ops ms base s0 (past ++ [x]) (pasths ++ hadd) l h' items heaps st) (hx : Fact env rec ops ms base s0 (past ++ x :: items) (pasths ++ (hadd ++ heaps)) past.length x)
    (hh : (hadd = [] ∧ h' = h ∧ x.loud = false) ∨ (hadd = [h] ∧ x.loud = true)) : Traced env rec ops ms base s0 past pasths (o :: l) h (x :: items) (hadd ++ heaps) st := by
  refine ⟨by simp [H.len], ?_, ?_, ?_, ?_, ?_⟩
  · rcases hh with ⟨rfl, rfl, _⟩ | ⟨rfl, _⟩
    · exact H.head
    · rfl
  · rcases hh with ⟨rfl, rfl, e⟩ | ⟨rfl, e⟩
    · rw [List.countP_cons, e]; simpa using H.hlen
    · rw [List.countP_cons, e]; simp [H.hlen]
  · intro k y hk
    cases k with
    | zero => cases hk; exact hx
    | succ k =>
      have := H.fact k y hk
      simp only [List.append_assoc, List.singleton_append, List.length_append, List.length_singleton] at this
      rw [show past.length + (k + 1) = past.length + 1 + k from by omega]
      exact this
  · have := H.fin_s
    simpa only [List.append_assoc, List.singleton_append] using this
  · obtain ⟨back, hl, h1, h2, h3⟩ := H.fin_h
    refine ⟨back, hl, ?_, h2, by simpa only [List.append_assoc, List.singleton_append] using h3⟩
    rw [List.countP_cons]
    rcases hh with ⟨rfl, rfl, e⟩ | ⟨rfl, e⟩
    · rw [e]; simpa using h1
    · rw [e]; simpa using h1

def PendOk (ms : List Nat) (past : List Item) (pend : List (Nat × Blk)) : Prop :=
  ∀ p b, (p, b) ∈ pend → (∃ y, past[p]? = some y ∧ y.b = some b) ∧ ∀ r y, past[r]? = some y → y.loud = true → (ms.getD r 0).testBit p = false

theorem take_count_le {past rest : List Item} {r : Nat} (h : past.length ≤ r) : past.countP Item.loud ≤ ((past ++ rest).take r).countP Item.loud := by
  have : past = (past ++ rest).take past.length := by simp
  rw (occs := .pos [1]) [this]
  exact (List.take_sublist_take_left h).countP_le

theorem PendOk.back {ms : List Nat} {past rest : List Item} {pend : List (Nat × Blk)} (H : PendOk ms past pend) {q : Nat} (hq : q = past.countP Item.loud) (i : Nat) :
    BackOk ms (past ++ rest) i q (pend.filter fun p => (ms.getD i 0).testBit p.1) := by
  intro p b hp
  rw [List.mem_filter] at hp
  obtain ⟨⟨y, h1, h2⟩, h3⟩ := H p b hp.1
  have hlt : p < past.length := (List.getElem?_eq_some_iff.1 h1).1
  refine ⟨hp.2, ⟨y, by rw [List.getElem?_append_left hlt]; exact h1, h2⟩, fun r z hr hz hc => ?_⟩
  rcases Nat.lt_or_ge r past.length with hr' | hr'
  · rw [List.getElem?_append_left hr'] at hr
    exact h3 r z hr hz
  · have := take_count_le (rest := rest) hr'
    omega

theorem PendOk.snoc {ms : List Nat} {past : List Item} {pend : List (Nat × Blk)} (H : PendOk ms past pend) {x : Item} (hx : x.loud = false) : PendOk ms (past ++ [x]) pend := by
  intro p b hp
  obtain ⟨⟨y, h1, h2⟩, h3⟩ := H p b hp
  have hlt : p < past.length := (List.getElem?_eq_some_iff.1 h1).1
  refine ⟨⟨y, by rw [List.getElem?_append_left hlt]; exact h1, h2⟩, fun r z hr hz => ?_⟩
  rcases Nat.lt_or_ge r past.length with hr' | hr'
  · rw [List.getElem?_append_left hr'] at hr
    exact h3 r z hr hz
  · rw [List.getElem?_append_right hr'] at hr
    have : r - past.length = 0 := by
      have := (List.getElem?_eq_some_iff.1 hr).1
      simpa using this
    rw [this] at hr
    cases hr
    rw [hx] at hz; cases hz

theorem PendOk.filt {ms : List Nat} {past : List Item} {pend : List (Nat × Blk)} (H : PendOk ms past pend) {x : Item} : PendOk ms (past ++ [x]) (pend.filter fun p => !(ms.getD past.length 0).testBit p.1) := by
  intro p b hp
  rw [List.mem_filter] at hp
  obtain ⟨⟨y, h1, h2⟩, h3⟩ := H p b hp.1
  have hlt : p < past.length := (List.getElem?_eq_some_iff.1 h1).1
  refine ⟨⟨y, by rw [List.getElem?_append_left hlt]; exact h1, h2⟩, fun r z hr hz => ?_⟩
  rcases Nat.lt_or_ge r past.length with hr' | hr'
  · rw [List.getElem?_append_left hr'] at hr
    exact h3 r z hr hz
  · rw [List.getElem?_append_right hr'] at hr
    have : r - past.length = 0 := by
      have := (List.getElem?_eq_some_iff.1 hr).1
      simpa using this
    have : r = past.length := by omega
    subst this
    simpa using hp.2

theorem PendOk.more {ms : List Nat} {past : List Item} {pend : List (Nat × Blk)} (H : PendOk ms past pend) {x : Item} {b : Blk} (hx : x.loud = false) (hb : x.b = some b)
    (hms : ∀ r, r < past.length → (ms.getD r 0) < 2 ^ r) : PendOk ms (past ++ [x]) (pend ++ [(past.length, b)]) := by
  intro p c hp
  rw [List.mem_append] at hp
  rcases hp with hp | hp
  · exact (H.snoc hx) p c hp
  · rw [List.mem_singleton] at hp
    cases hp
    refine ⟨⟨x, by simp, hb⟩, fun r z hr hz => ?_⟩
    rcases Nat.lt_or_ge r past.length with hr' | hr'
    · cases ht : (ms.getD r 0).testBit past.length with
      | false => rfl
      | true => have := bit_lt (hms r hr') ht; omega
    · rw [List.getElem?_append_right hr'] at hr
      have : r - past.length = 0 := by
        have := (List.getElem?_eq_some_iff.1 hr).1
        simpa using this
      rw [this] at hr
      cases hr
      rw [hx] at hz; cases hz

theorem after_snoc (s0 : Tmps) (past : List Item) (x : Item) : after s0 (past ++ [x]) = putDst (after s0 past) x.o.dst x.v := by
  simp [after]

theorem drawGo_ok {env : Env} {rec : Rec} {ops : List Oper} {ms : List Nat} {base : Nat} {s0 : Tmps} (hms : ∀ i o, ops[i]? = some o → ms.getD i 0 < 2 ^ i) :
    ∀ (l : List Oper) (i : Nat) (s : Tmps) (h : Heap) (q : Nat) (pend : List (Nat × Blk)) (items : List Item) (heaps : List Heap) (st : St), drawGo env rec ops ms base l i s h q pend = .ok (items, heaps, st) →
    ∀ (past : List Item) (pasths : List Heap), past.length = i → ops.drop i = l → s = after s0 past → q = past.countP Item.loud → pasths.length = q → PendOk ms past pend →
    Traced env rec ops ms base s0 past pasths l h items heaps st
  | [], i, s, h, q, pend, items, heaps, st, hq, past, pasths, e1, e2, e3, e4, e5, hp => by
    cases hq
    refine ⟨rfl, rfl, rfl, fun k x hk => by simp at hk, by simp [e3], pend, h, rfl, rfl, ?_⟩
    rw [List.append_nil]
    exact hp
  | o :: l, i, s, h, q, pend, items, heaps, st, hq, past, pasths, e1, e2, e3, e4, e5, hp => by
    have hi : ops[i]? = some o := by
      have : (ops.drop i)[0]? = some o := by rw [e2]; rfl
      rw [List.getElem?_drop, Nat.add_zero] at this
      exact this
    have e2' : ops.drop (i + 1) = l := by rw [← List.drop_drop, e2]; rfl
    have hlow : ∀ r, r < past.length → ms.getD r 0 < 2 ^ r := fun r hr => by
      have hlt : r < ops.length := by
        have := (List.getElem?_eq_some_iff.1 hi).1
        omega
      exact hms r _ (List.getElem?_eq_getElem hlt)
    obtain ⟨go, hgo, h1⟩ := R.b_ok hq
    have take : ∀ (x : Item) (its : List Item), (past ++ x :: its).take i = past := fun x its => by rw [← e1]; simp
    cases go with
    | false =>
      obtain ⟨⟨its, hps, st1⟩, h2, h3⟩ := R.b_ok (show _ = R.ok (items, heaps, st) from h1)
      injection h3 with h3
      injection h3 with e6 e7
      injection e7 with e7 e8
      subst e6 e7 e8
      let x : Item := { o, act := false, kd := .quiet, q, s, v := undef, b := none }
      have H := drawGo_ok hms l (i + 1) _ h q pend its hps st1 h2 (past ++ [x]) (pasths ++ []) (by simp [e1]) e2' (by rw [after_snoc, ← e3]) (by simp [x, Item.loud, e4]) (by simp [e5]) (hp.snoc rfl)
      refine H.cons (hadd := []) (x := x) ?_ (.inl ⟨rfl, rfl, rfl⟩)
      rw [e1]
      exact ⟨hi, by rw [take]; exact e3, by rw [take]; exact e4, hgo, fun _ => ⟨rfl, rfl⟩, fun e => (by cases e), fun e => (by cases e), fun e => (by cases e)⟩
    | true =>
      replace h1 : (match kindOf env o.op with
        | .quiet => _
        | .makes => _
        | .loud => _) = R.ok (items, heaps, st) := h1
      split at h1
      · rename_i hk
        obtain ⟨v, hv, h2⟩ := R.b_ok h1
        obtain ⟨⟨its, hps, st1⟩, h3, h4⟩ := R.b_ok h2
        injection h4 with h4
        injection h4 with e6 e7
        injection e7 with e7 e8
        subst e6 e7 e8
        let x : Item := { o, act := true, kd := .quiet, q, s, v, b := none }
        have H := drawGo_ok hms l (i + 1) _ h q pend its hps st1 h3 (past ++ [x]) (pasths ++ []) (by simp [e1]) e2' (by rw [after_snoc, ← e3]) (by simp [x, Item.loud, e4]) (by simp [e5]) (hp.snoc rfl)
        refine H.cons (hadd := []) (x := x) ?_ (.inl ⟨rfl, rfl, rfl⟩)
        rw [e1]
        refine ⟨hi, by rw [take]; exact e3, by rw [take]; exact e4, hgo, fun e => (by cases e), fun _ _ => ⟨rfl, rfl, _, h, hp.back e4 i, ?_, R.at_ok hv⟩, fun _ e => (by rw [hk] at e; cases e), fun _ e => (by rw [hk] at e; cases e)⟩
        have := H.head
        show (pasths ++ ([] ++ hps))[q]? = some h
        rw [List.nil_append, List.getElem?_append_right (by omega), e5, Nat.sub_self]
        exact this
      · rename_i hk
        obtain ⟨⟨v, b⟩, hv, h2⟩ := R.b_ok h1
        obtain ⟨⟨its, hps, st1⟩, h3, h4⟩ := R.b_ok h2
        injection h4 with h4
        injection h4 with e6 e7
        injection e7 with e7 e8
        subst e6 e7 e8
        let x : Item := { o, act := true, kd := .makes, q, s, v, b := some b }
        have H := drawGo_ok hms l (i + 1) _ h q (pend ++ [(i, b)]) its hps st1 h3 (past ++ [x]) (pasths ++ []) (by simp [e1]) e2' (by rw [after_snoc, ← e3]) (by simp [x, Item.loud, e4]) (by simp [e5]) (by rw [← e1]; exact hp.more rfl rfl hlow)
        refine H.cons (hadd := []) (x := x) ?_ (.inl ⟨rfl, rfl, rfl⟩)
        rw [e1]
        exact ⟨hi, by rw [take]; exact e3, by rw [take]; exact e4, hgo, fun e => (by cases e), fun _ e => (by rw [hk] at e; cases e), fun _ _ => ⟨rfl, b, rfl, R.at_ok hv⟩, fun _ e => (by rw [hk] at e; cases e)⟩
      · rename_i hk
        obtain ⟨⟨v, h'⟩, hv, h2⟩ := R.b_ok h1
        obtain ⟨⟨its, hps, st1⟩, h3, h4⟩ := R.b_ok h2
        injection h4 with h4
        injection h4 with e6 e7
        injection e7 with e7 e8
        subst e6 e7 e8
        let x : Item := { o, act := true, kd := .loud, q, s, v, b := none }
        have H := drawGo_ok hms l (i + 1) _ h' (q + 1) _ its hps st1 h3 (past ++ [x]) (pasths ++ [h]) (by simp [e1]) e2' (by rw [after_snoc, ← e3]) (by simp [x, Item.loud, e4]) (by simp [e5]) (by rw [← e1]; exact hp.filt)
        refine H.cons (hadd := [h]) (x := x) ?_ (.inr ⟨rfl, rfl⟩)
        rw [e1]
        refine ⟨hi, by rw [take]; exact e3, by rw [take]; exact e4, hgo, fun e => (by cases e), fun _ e => (by rw [hk] at e; cases e), fun _ e => (by rw [hk] at e; cases e), fun _ _ => ⟨rfl, rfl, _, h, h', hp.back e4 i, ?_, ?_, R.at_ok hv⟩⟩
        · show (pasths ++ ([h] ++ hps))[q]? = some h
          rw [List.getElem?_append_right (by omega), e5, Nat.sub_self]
          rfl
        · show (pasths ++ ([h] ++ hps))[q + 1]? = some h'
          rw [List.getElem?_append_right (by omega), e5, show q + 1 - q = 1 from by omega]
          exact H.head

end Go.G
