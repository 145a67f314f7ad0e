/- A reckoner of Go code over told values: append onto a full slice of frozen memory. -/
import Derived.Test.YtfnjijnaogbgmaaSx35
namespace Go.Sx
open Go Go.RowKit
set_option linter.unusedVariables false
set_option linter.unusedSimpArgs false

/-- From here on a slot holds a slice without room behind it. -/
structure AMg (G : Gl) (d : Nat) (K : Kd) (l : List K.T) (c : Cfg) : Prop where
  go : ∀ S a w, CfgR G.W G.S0 S c.fr c.h a w → (∃ A, a.tmps.getD d undef = .slice A l.length l.length ∧ VR S (.ro K fun _ => l) (a.tmps.getD d undef)) → wpK G.Fe G.P G.Fin c.k .normal a w
section
variable {G : Gl} {E : Env} {P : Program} {rs : List ResultVar}
theorem op_okS (hE : EnvOk G.P G.E) {S : Sg} {fr fr' : List AV} {h : List Blk} {a : Act} {w : World} (hc : CfgR G.W G.S0 S fr h a w) (hfr : FrR S fr' a) {o : Oper} {r : Res} (hs : step1 G.E (ev fr') h h.length o = some r) (ho : allO r.obs)
    {K : Act → World → Prop} {Q : Exit → Act → World → Prop} (hK : ∀ S' v w', S.le S' → CfgR G.W G.S0 S' (putO fr o.dst r.v) (hsets h r.up) (a.put o.dst v) w' → K (a.put o.dst v) w') : o.wpIn G.Fe 0 G.P a w K Q := by
  refine wpIn_of_wp (step1_nodefer hs) ?_
  unfold step1 at hs
  split at hs
  · rename_i x obs hp
    obtain rfl := Option.some.inj hs
    obtain ⟨v, h1, h2⟩ := pop_ok (w := w) hE.rows hfr.ev hp ho
    unfold Oper.wp
    rw [h1]
    exact hK S v w (.refl _) (hc.next (us := []) (.refl _) (fun _ _ => rfl) (fun _ _ => rfl) hc.rel o.dst h2)
  · split at hs
    · rename_i r' hr'
      obtain rfl := Option.some.inj hs
      exact mop_ok hE hc.rel hfr.ev hr' ho (fun id _ hid => hc.fresh id hid) fun v w' S' h1 h2 h3 h4 h5 => hK S' v w' h1 (hc.next h1 h2 h3 h4 o.dst h5)
    · cases hs
theorem AMg.step (hG : GOk P G E rs) {d : Nat} {K : Kd} {l : List K.T} {fr : List AV} {h : List Blk} {R rest : List Oper} {o : Oper} {k : List It} {r : Res} (hw : wantedA R fr o = .yes) (hs : step1 E (ev fr) h h.length o = some r) (ho : allO r.obs) (hd : o.dst ≠ some d)
    (h1 : AMg G d K l ⟨putO fr o.dst r.v, hsets h r.up, .ops R rest :: k⟩) : AMg G d K l ⟨fr, h, .ops R (o :: rest) :: k⟩ := by
  refine ⟨fun S a w hcfg hA => ?_⟩
  simp only [wpK]
  unfold wpListIn
  rw [if_pos (wantedA_yes hcfg.fr hw)]
  have he := hG.e
  subst he
  refine op_okS hG.ok hcfg hcfg.fr hs ho fun S' v w' hle hc' => ?_
  obtain ⟨A, e1, e2⟩ := hA
  have := h1.go S' _ _ hc' ⟨A, by rw [Act.put_get, if_neg (fun q => hd q.1)]; exact e1, by rw [Act.put_get, if_neg (fun q => hd q.1)]; exact VR.mono hle _ _ e2⟩
  simp only [wpK] at this
  exact this
/-- A full slice of what is frozen. -/
theorem AM.sliceFull (hG : GOk P G E rs) {fr : List AV} {h : List Blk} {R rest : List Oper} {o : Oper} {k : List It} {s n m : Operand} {t e : TypeId} {rt re : TRow} {K : Kd} {l : Unit → List K.T} {kn km : IntKind} {x y : SI} {d : Nat} (hw : wantedA R fr o = .yes)
    (hop : o.op = .slice t s none (some n) (some m)) (hdst : o.dst = some d) (hd : d < fr.length) (hs : ev fr s = .ro K l) (hn : ev fr n = .int kn x) (hm : ev fr m = .int km y) (ht : E.row t = some rt) (hdt : rt.d = .slice e) (he : E.row e = some re) (hx : x.d = nI (l ()).length) (hy : y.d = nI (l ()).length)
    (h1 : AMg G d K (l ()) ⟨putO fr o.dst .any, h, .ops R rest :: k⟩) : AM G ⟨fr, h, .ops R (o :: rest) :: k⟩ := by
  refine ⟨fun S a w hcfg => ?_⟩
  simp only [wpK]
  unfold wpListIn
  rw [if_pos (wantedA_yes hcfg.fr hw)]
  refine wpIn_of_wp (by rw [hop]; simp) ?_
  have hp := hG.p
  subst hp
  have hE : EnvRows G.P E := by
    have := hG.ok.rows
    rw [hG.e] at this
    exact this
  have e1 := hcfg.fr.ev s
  have e2 := hcfg.fr.ev n
  have e3 := hcfg.fr.ev m
  rw [hs] at e1
  rw [hn] at e2
  rw [hm] at e3
  have e1' := e1
  simp only [VR, KR] at e1'
  simp only [VR] at e2 e3
  obtain ⟨A, c, h3, h4, h5⟩ := e1'
  simp only [List.cons.injEq, and_true] at h3
  have hsl := row_slice hE ht hdt
  have hse := row_size (w := w) hE he
  have hv : VR S (.ro K fun _ => l ()) (.slice A (l ()).length (l ()).length) := by
    simp only [VR, KR]
    exact ⟨A, (l ()).length, rfl, Nat.le_refl _, h5⟩
  have hrun : (execOp a.eval o).run G.P w = .ok (.value (.slice A (l ()).length (l ()).length)) w := by
    have q : (Instr.sliceAt t (a.eval s) none (some (a.eval n)) (some (a.eval m))).run G.P w = .ok (.slice A (l ()).length (l ()).length) w := by
      rw [h3, e2, e3, hx, hy]
      have q2 : (nI (l ()).length).toNat = (l ()).length := Int.toNat_natCast _
      have q3 : 0 ≤ nI (l ()).length := Int.natCast_nonneg _
      have q4 : nI (l ()).length ≤ ((l ()).length : Int) := Int.le_refl _
      have q5 : nI (l ()).length ≤ (c : Int) := by show ((l ()).length : Int) ≤ c; omega
      have q6 : ∀ ad : Addr, ¬ l () = [] → A = some ad → ad.add 0 = ad := fun ad hne hA => by
        rcases h5 with h5 | ⟨b, cells, T, fz, hb, h6, h7⟩
        · exact absurd h5 hne
        · rw [hA] at hb
          cases hb
          cases ad with
          | mk g o sp =>
            simp only at h6
            subst h6
            rw [add_none, Nat.add_zero]
      simp [Instr.sliceAt, Instr.slice, Instr.sliceBounds, Instr.sliceBound, asIntOf, run_underlying hsl, hse, q2, q3, q4, q5, h4]
      cases A with
      | none => simp
      | some ad =>
        by_cases hne : l () = []
        · simp [hne]
        · simp [hne, q6 ad hne rfl]
    simp only [execOp, hop]
    exact value_of' q
  unfold Oper.wp
  rw [hrun]
  have := h1.go S _ _ (hcfg.next (us := []) (.refl _) (fun _ _ => rfl) (fun _ _ => rfl) hcfg.rel o.dst (x := .any) (v := .slice A (l ()).length (l ()).length) (by simp only [VR])) (by
    have hsz : d < a.tmps.size := by rw [hcfg.fr.size]; exact hd
    refine ⟨A, ?_, ?_⟩
    · rw [Act.put_get, if_pos ⟨hdst, hsz⟩]
    · rw [Act.put_get, if_pos ⟨hdst, hsz⟩]
      exact hv)
  simp only [wpK] at this
  exact this
/-- Onto such a slice: into new memory. -/
theorem AMg.append (hG : GOk P G E rs) {fr : List AV} {h : List Blk} {R rest : List Oper} {o : Oper} {k : List It} {x : Operand} {t e : TypeId} {rt re : TRow} {K : Kd} {l : List K.T} {l2 : Unit → List K.T} {d : Nat} (hw : wantedA R fr o = .yes)
    (hop : o.op = .call { callee := .builtin .append, args := #[.tmp d, x], argTypes := #[t, t] }) (hx : newsOf K (roOf h (ev fr x)) = some l2) (hob : allO (slObs h (ev fr x))) (ht : E.row t = some rt) (hdt : rt.d = .slice e) (he : E.row e = some re) (hK : re.kd = some K)
    (hb : (l.length + (l2 ()).length) * re.bytes ≤ 140737488355328) (hmax : l.length + (l2 ()).length ≤ maxLen) (hne : 0 < (l2 ()).length)
    (h1 : AM G ⟨putO fr o.dst (.sl h.length K.size (.l 0) (.t fun _ => l.length + (l2 ()).length)), hset h h.length (.row e K fun _ => l ++ l2 ()), .ops R rest :: k⟩) : AMg G d K l ⟨fr, h, .ops R (o :: rest) :: k⟩ := by
  refine ⟨fun S a w hcfg hA => ?_⟩
  simp only [wpK]
  unfold wpListIn
  rw [if_pos (wantedA_yes hcfg.fr hw)]
  refine wpIn_of_wp (by rw [hop]; simp) ?_
  have hp := hG.p
  subst hp
  have hE : EnvRows G.P E := by
    have := hG.ok.rows
    rw [hG.e] at this
    exact this
  obtain ⟨A, a1, a2⟩ := hA
  have hr := hcfg.rel
  have hxv := hcfg.fr.ev x
  have hk := (hE.rows e re he).kd K hK
  have hpos : 0 < K.size := by rw [hk.1]; exact (hE.rows e re he).pos
  obtain ⟨i, hi, hi1, hi2, hi3⟩ := row_info hE he
  have hisz : i.size = K.size := by rw [hi1, hk.1]
  have hsl := row_slice hE ht hdt
  have hf : S.σ h.length = none := hcfg.fresh _ (Nat.le_refl _)
  have fin : ∀ v w' r, (Builtin.append_ #[t, t] o.type #[.slice A l.length l.length, a.eval x]).run G.P w = .ok v w' → Rel G.W ⟨upd S.σ h.length r, S.F⟩ (hset h h.length (.row e K fun _ => l ++ l2 ())) w' → VR ⟨upd S.σ h.length r, S.F⟩ (.sl h.length K.size (.l 0) (.t fun _ => l.length + (l2 ()).length)) v → o.wp G.P a w (wpListIn G.Fe 0 G.P R.toArray (wpK G.Fe G.P G.Fin k) rest) (wpK G.Fe G.P G.Fin k) := fun v w' r h2 h3 h4 => by
    have hrun : (execOp a.eval o).run G.P w = .ok (.value v) w' := by
      have q : (Builtin.append_ #[t, t] o.type (#[.tmp d, x].map a.eval)).run G.P w = .ok v w' := by
        have : #[.tmp d, x].map a.eval = #[.slice A l.length l.length, a.eval x] := by
          have : a.eval (.tmp d) = .slice A l.length l.length := a1
          simp [this]
        rw [this]
        exact h2
      simp only [execOp, hop]
      exact value_of' (s := Builtin.append_ #[t, t] o.type (#[.tmp d, x].map a.eval)) q
    unfold Oper.wp
    rw [hrun]
    have := h1.go _ _ _ (hcfg.next (us := [(h.length, .row e K fun _ => l ++ l2 ())]) (upd_le (r := r) hf) (fun _ _ => rfl) (fun id hid => by simp only [upd]; rw [if_neg (by simpa using hid)]) h3 o.dst h4)
    simp only [wpK] at this
    exact this
  by_cases hl : l = []
  · subst hl
    obtain ⟨v, w', r, h2, _, h3, h4⟩ := append_empty (P := G.P) (ty := o.type) hE hr ht hdt he hK A hxv hx hob (by simpa using hb) (by simpa using hmax) hf (f := fun _ => [] ++ l2 ()) rfl (ln := .t fun _ => ([] : List K.T).length + (l2 ()).length) (by simp)
    exact fin v w' r h2 h3 h4
  · obtain ⟨B, cx, hB1, hB⟩ := news_ok hr hpos hxv hx hob
    rcases hB with hB | ⟨ad2, news, rfl, n1, n2, n3, n4⟩
    · rw [hB] at hne; simp at hne
    rw [a1] at a2
    simp only [VR, KR] at a2
    obtain ⟨A', c', g1, g2, g3⟩ := a2
    simp only [List.cons.injEq, Value.slice.injEq, and_true] at g1
    obtain ⟨rfl, _, rfl⟩ := g1
    rcases g3 with g3 | ⟨ad, cells, T, fz, rfl, g5, g6, g7⟩
    · exact absurd g3 hl
    obtain ⟨olds, o1, o2, o3, o4⟩ := news_of (w := w) hpos g5 (hr.fv _ _ g6) g7
    have hge := grownCap_ge w (l.length + (l2 ()).length) l.length e
    have hcm := grownCap_le_maxLen w (l.length + (l2 ()).length) l.length e hmax
    have hrun := run_append_grow (P := G.P) w t o.type e i re.z hsl hi hi3 ad l.length l.length olds (by rw [o1, hisz]) o2 ad2 (l2 ()).length cx news (by rw [n1, hisz]) n2 (by omega) (by simp only [maxLen] at hmax; omega) (by rw [hi2]; exact growslice_fits (by omega) hb)
    refine fin _ _ (some (w.heap.size, grownCap w (l.length + (l2 ()).length) l.length e)) (by rw [hB1]; exact hrun) ?_ ?_
    · exact hr.new (X := fun _ => False) (w' := w.drew.alloc (.cells (olds.toArray ++ news.toArray ++ Builtin.zeroCells re.z.cells (grownCap w (l.length + (l2 ()).length) l.length e - (l.length + (l2 ()).length))) e)) ⟨rfl, rfl, rfl, by simp, fun k hk _ => Below.heap_alloc w.drew _ k hk⟩ (fun _ h => h) hf (b := .row e K fun _ => l ++ l2 ()) (r := some (w.heap.size, grownCap w (l.length + (l2 ()).length) l.length e)) ⟨_, heap_alloc_new w.drew _, by
          rw [Array.size_append, Array.size_append, zeroCells_size, (hE.rows e re he).z, ← hk.1]
          simp only [List.size_toArray]
          rw [o1, n1, ← Nat.add_mul, ← Nat.add_mul]
          congr 1
          omega, by rw [List.length_append]; exact hge, hcm, RowAt.app' o4 o1 n4⟩ (fun g c h => by cases h; exact Nat.le_refl _)
    · simp only [VR]
      exact ⟨some (w.heap.size, grownCap w (l.length + (l2 ()).length) l.length e), by simp [upd], by simp only [SN.d_l, SN.d_t]; omega, 0, by simp, .inl (by simp)⟩
/-- The room of nothing. -/
theorem AM.capNil (hG : GOk P G E rs) {fr : List AV} {h : List Blk} {R rest : List Oper} {o : Oper} {k : List It} {s : Operand} {t e : TypeId} {rt : TRow} (hw : wantedA R fr o = .yes) (hop : o.op = .call { callee := .builtin .cap, args := #[s], argTypes := #[t] }) (hs : ev fr s = .nils) (ht : E.row t = some rt) (hdt : rt.d = .slice e)
    (h1 : AM G ⟨putO fr o.dst (.int .i64 (.l 0)), h, .ops R rest :: k⟩) : AM G ⟨fr, h, .ops R (o :: rest) :: k⟩ := by
  refine ⟨fun S a w hcfg => ?_⟩
  simp only [wpK]
  unfold wpListIn
  rw [if_pos (wantedA_yes hcfg.fr hw)]
  refine wpIn_of_wp (by rw [hop]; simp) ?_
  have hp := hG.p
  subst hp
  have hE : EnvRows G.P E := by
    have := hG.ok.rows
    rw [hG.e] at this
    exact this
  have e1 := hcfg.fr.ev s
  rw [hs] at e1
  simp only [VR] at e1
  have hsl := row_slice hE ht hdt
  have hrun : (execOp a.eval o).run G.P w = .ok (.value (.int .i64 0)) w := by
    have q : (Builtin.cap_ #[t] o.type (#[s].map a.eval)).run G.P w = .ok (.int .i64 0) w := by
      have : #[s].map a.eval = #[.slice none 0 0] := by simp [e1]
      rw [this]
      simp [Builtin.cap_, run_underlying hsl, goInt]
    simp only [execOp, hop]
    exact value_of' (s := Builtin.cap_ #[t] o.type (#[s].map a.eval)) q
  unfold Oper.wp
  rw [hrun]
  have := h1.go S _ _ (hcfg.next (us := []) (.refl _) (fun _ _ => rfl) (fun _ _ => rfl) hcfg.rel o.dst (x := .int .i64 (.l 0)) (v := .int .i64 0) (by simp [VR]))
  simp only [wpK] at this
  exact this
end
end Go.Sx
