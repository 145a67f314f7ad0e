/- A reckoner of Go code over told values: loops over functions. -/
import Derived.Test.YtfnjijnaogbgmaaSx32
namespace Go.Sx
open Go Go.RowKit
set_option linter.unusedVariables false
set_option linter.unusedSimpArgs false

/-- A loop's record: where it lies, and what it holds. -/
structure LoopOk (G : Gl) (id l : Nat) (rec : Loop) (ps : Array Tmp) (assign body : Code) (fr : List AV) : Prop where
  σ : G.S0.σ id = some (some (l, 0))
  size : rec.tmps.size = fr.length
  get : ∀ i, VR G.S0 (get fr i) (rec.tmps.getD i undef)
  st : rec.state = .ready
  pe : rec.pending = none
  ps : rec.params = ps
  as : rec.assign = assign
  bo : rec.body = body
/-- The parameters of a round. -/
def setPs : List AV → List Tmp → List AV → List AV
  | fr, t :: ts, x :: xs => setPs (put fr t x) ts xs
  | fr, _, _ => fr
theorem setPs_ok {S : Sg} : ∀ (ts : List Tmp) (xs : List AV) (vs : List Value) (fr : List AV) (a : Act), FrR S fr a → VRs S xs vs → ts.length = xs.length →
    FrR S (setPs fr ts xs) { a with tmps := (ts.zip vs).foldl (fun tmps p => tmps.setIfInBounds p.1 p.2) a.tmps }
  | [], xs, vs, fr, a, hf, hv, hl => by
    cases xs <;> simp at hl
    exact hf
  | t :: ts, [], vs, fr, a, hf, hv, hl => by simp at hl
  | t :: ts, x :: xs, vs, fr, a, hf, hv, hl => by
    simp only [VRs] at hv
    obtain ⟨v, vs', rfl, h1, h2⟩ := hv
    have := setPs_ok ts xs vs' (put fr t x) (a.put (some t) v) (hf.put (some t) h1) h2 (by simpa using hl)
    simpa [setPs, Act.put] using this
theorem Marks.none_of {W : World} {S0 S : Sg} {w : World} (hF : FV S.F w) : ∀ {ds : List Deferred}, Marks W S0 S ds → ∀ d' ∈ ds, d'.target ≠ .collected w.heap.size
  | [], _, d', hd' => by simp at hd'
  | d :: ds, ⟨⟨r, h1, h2, _⟩, h⟩, d', hd' => by
    rcases List.mem_cons.1 hd' with rfl | hd'
    · subst h1
      intro e
      simp only [Target.collected.injEq] at e
      subst e
      have := (Array.getElem?_eq_some_iff.1 (hF _ _ h2)).1
      omega
    · exact Marks.none_of hF h d' hd'
section
variable {P : Program} {G : Gl} {E : Env} {rs : List ResultVar}

/-- A loop over a function: the function's body is run. -/
theorem AM.rangeFunc (hG : GOk P G E rs) {fr : List AV} {h : List Blk} {k : List It} {g : Operand} {ps : Array Tmp} {assign body : Code} {f : FuncId} {cap : List AV}
    {fn : Func} {bodyF : Code} {rs' : List ResultVar} {n : Nat} (hg : ev fr g = .fn (.func f) [] cap)
    (hf : P.funcs[f]? = some fn) (hname : (fn.name == "runtime.NumGoroutine") = false) (hb : fn.body = some bodyF) (hrs : fn.results.toList = rs') (hn : fn.ntmps = n)
    (h1 : ∀ (l : Nat) (rec : Loop) (G' : Gl), GOk P G' E rs' → GB G' (h.length + 1) → LoopOk G' h.length l rec ps assign body fr →
      (∀ v h', hget h' h.length = .obj (fun _ => .loop rec) → AM G ⟨fr, hset h' h.length .dead, k⟩ → G'.Q v h') →
      AM G' ⟨app (.fn (.yield l) [] [] :: cap) (anys (n - (cap.length + 1))), hset h h.length (.obj fun _ => .loop rec), [.code bodyF]⟩) (hnr : isRound rs = false := by rfl) : AM G ⟨fr, h, .code (.rangeFunc g ps assign body) :: k⟩ := by
  refine ⟨fun S a w hc => ?_⟩
  have hp := hG.p
  subst hp
  have hro := (hG.rs hnr).1
  have hFe : G.Fe = Fence.wide := by unfold Gl.Fe; rw [hro]
  have hgv := hc.fr.ev g
  rw [hg] at hgv
  simp only [VR, VRs] at hgv
  obtain ⟨as0, bs, hgv, has, hbs⟩ := hgv
  have has : as0 = #[] := by simpa using has
  subst has
  simp only [wpK]
  rw [hFe]
  refine wpIn_rangeFunc ?_
  intro fn0 _
  -- the record and the block
  obtain ⟨rec, hrec⟩ : ∃ rec : Loop, rec = { state := .ready, pending := none, fn := fn0, tmps := a.tmps, params := ps, assign, body, defers := w.heap.size } := ⟨_, rfl⟩
  have eg : ∀ args w, (callFunc f args).run G.P w = .ok (.enter f args) w := by
    intro args w
    have h3' : fn.body.isNone = false := by rw [hb]; rfl
    simp only [callFunc, Sem.run_bind, run_program, Result.andThen, hf, hname, h3', Bool.false_eq_true, if_false, Sem.run_pure]
  have hfresh : S.σ h.length = none := hc.fresh _ (Nat.le_refl _)
  have hFD : S.F w.heap.size = none := by
    cases hF : S.F w.heap.size with
    | none => rfl
    | some o => have := (Array.getElem?_eq_some_iff.1 (hc.rel.fv _ _ hF)).1; omega
  -- the world with the block for deferred calls
  obtain ⟨wD, hwD⟩ : ∃ wD, w.alloc (.deferred (some [])) = wD := ⟨_, rfl⟩
  have hchD : Chg w wD (fun _ => False) := by rw [← hwD]; exact Chg.alloc _ _
  have hsD : wD.heap.size = w.heap.size + 1 := by rw [← hwD]; exact World.size_alloc ..
  have hnD : wD.heap[w.heap.size]? = some (.deferred (some [])) := by rw [← hwD]; exact World.alloc_heap_new w _
  let F1 : Frozen := fun b => if b = w.heap.size then some (.deferred (some [])) else S.F b
  have hle1 : S.le ⟨S.σ, F1⟩ := ⟨fun _ _ h => h, fun b o hb => by
    have : b ≠ w.heap.size := by rintro rfl; rw [hFD] at hb; cases hb
    simp only [F1, if_neg this]; exact hb⟩
  have hrelD : Rel G.W ⟨S.σ, F1⟩ h wD := by
    refine ⟨hchD.below hc.rel.below (fun k hk => hk.elim), ?_, ?_, ?_, hc.rel.inj⟩
    · intro b o hb
      simp only [F1] at hb
      by_cases e : b = w.heap.size
      · rw [if_pos e] at hb; cases hb; rw [e]; exact hnD
      · rw [if_neg e] at hb
        have h0 := hc.rel.fv b o hb
        rw [hchD.block b (Array.getElem?_eq_some_iff.1 h0).1 (fun x => x)]
        exact h0
    · intro id ha
      obtain ⟨q, e1, e2⟩ := hc.rel.blk id ha
      refine ⟨q, e1, e2.mono hle1 fun g c hq => ?_⟩
      subst hq
      exact hchD.block g (e2.lt ha) (fun x => x)
    · intro id g c ha hσ
      obtain ⟨e1, e2⟩ := hc.rel.own id g c ha hσ
      refine ⟨e1, ?_⟩
      obtain ⟨q, e3, e4⟩ := hc.rel.blk id ha
      have hσ' : S.σ id = some (some (g, c)) := hσ
      rw [hσ'] at e3
      cases e3
      have := e4.lt ha
      have : g ≠ w.heap.size := by omega
      simp only [F1, if_neg this]; exact e2
  -- the record
  obtain ⟨W1, hW1⟩ : ∃ W1, wD.alloc (.loop rec) = W1 := ⟨_, rfl⟩
  have hL1 : W1.heap[w.heap.size + 1]? = some (.loop rec) := by rw [← hW1, ← hsD]; exact World.alloc_heap_new wD _
  have hfresh1 : (⟨S.σ, F1⟩ : Sg).σ h.length = none := hfresh
  have hrel1 : Rel G.W ⟨upd S.σ h.length (some (w.heap.size + 1, 0)), F1⟩ (hset h h.length (.obj fun _ => .loop rec)) W1 := by
    have := hrelD.new (w' := W1) (X := fun _ => False) (by rw [← hW1]; exact Chg.alloc _ _) (fun _ h => h) hfresh1 (b := .obj fun _ => .loop rec) (r := some (w.heap.size + 1, 0)) ⟨_, _, rfl, hL1⟩ (fun g c h => by cases h; omega)
    exact this
  have hle2 : (⟨S.σ, F1⟩ : Sg).le ⟨upd S.σ h.length (some (w.heap.size + 1, 0)), F1⟩ := upd_le hfresh1
  have hle := hle1.trans hle2
  have hWle : G.W.heap.size ≤ w.heap.size := hc.rel.below.size
  have hen := run_enterLoop_outer (P := G.P) (w := w) fn0 a.tmps ps assign body
  rw [hwD, ← hrec, hW1] at hen
  have key := h1 (w.heap.size + 1) rec { P := G.P, E := G.E, fn := fn, W := G.W, S0 := ⟨upd S.σ h.length (some (w.heap.size + 1, 0)), F1⟩, Q := fun v h' => hget h' h.length = .obj (fun _ => .loop rec) ∧ AM G ⟨fr, hset h' h.length .dead, k⟩ }
    ⟨rfl, hG.ok, hG.e, .inl ⟨rfl, hrs⟩⟩ ⟨fun id hid => by simp only [upd]; rw [if_neg (by omega)]; exact hc.fresh id (by simp only; omega)⟩
    ⟨by simp [upd], by rw [hrec]; exact hc.fr.size, fun i => by rw [hrec]; exact VR.mono hle _ _ (hc.fr.get i), by rw [hrec], by rw [hrec], by rw [hrec], by rw [hrec], by rw [hrec]⟩ (fun v h' e1 e2 => ⟨e1, e2⟩)
  refine ⟨w.heap.size + 1, [{ target := .collected w.heap.size, args := #[] }], W1, { target := .fn (.func f) bs, args := #[Value.func (.yield (w.heap.size + 1)) #[] #[]] }, W1, f,
    #[Value.func (.yield (w.heap.size + 1)) #[] #[]] ++ bs, W1, ?_, ?_, fun f' _ => trivial, ?_, fun hd => by simp [Fence.wide] at hd, ?_⟩
  · exact hen
  · simp only [resolve, hgv]
    simp [go_sem]
  · simp [invoke, go_sem, eg]
  · have hxs : VRs ⟨upd S.σ h.length (some (w.heap.size + 1, 0)), F1⟩ (.fn (.yield (w.heap.size + 1)) [] [] :: cap) (#[Value.func (.yield (w.heap.size + 1)) #[] #[]] ++ bs).toList := by
      simp only [VRs]
      exact ⟨Value.func (.yield (w.heap.size + 1)) #[] #[], bs.toList, by simp, by simp only [VR]; exact ⟨#[], #[], rfl, by simp [VRs], by simp [VRs]⟩, VRs.mono hle _ _ hbs⟩
    refine callsIn_wide.2 ((calls_of_wpG hf hb (R := Gl.End { P := G.P, E := G.E, fn := fn, W := G.W, S0 := ⟨upd S.σ h.length (some (w.heap.size + 1, 0)), F1⟩, Q := fun v h' => hget h' h.length = .obj (fun _ => .loop rec) ∧ AM G ⟨fr, hset h' h.length .dead, k⟩ }) ?_).mono ?_)
    · have := key.go ⟨upd S.σ h.length (some (w.heap.size + 1, 0)), F1⟩ { tmps := (#[Value.func (.yield (w.heap.size + 1)) #[] #[]] ++ bs) ++ Array.replicate (fn.ntmps - (#[Value.func (.yield (w.heap.size + 1)) #[] #[]] ++ bs).size) undef, defers := [] } W1
        ⟨hrel1, fun _ _ => rfl, .refl _, fun id hid => by
          simp only [hset_length] at hid
          simp only [upd]; rw [if_neg (by omega)]; exact hc.fresh id (by simp only; omega), by
          have := fr_start (n := n) hxs
          rw [hn]; simpa using this, trivial⟩
      simp only [wpK] at this
      exact wpIn_mono this fun e a w hq => hq
    · rintro e w3 ⟨v, x, h', T, rfl, hT, hTle, hTold, hTfresh, hTv, hget3, hAM⟩
      have hTl : T.σ h.length = some (some (w.heap.size + 1, 0)) := hTle.σ _ _ (by simp [upd])
      have ha3 : alive (hget h' h.length) = true := by rw [hget3]; rfl
      obtain ⟨q, e1, e2⟩ := hT.blk h.length ha3
      rw [hTl] at e1
      cases e1
      rw [hget3] at e2
      obtain ⟨g', c', e3, e4⟩ := e2
      cases e3
      have hend := run_endLoop (P := G.P) e4 (by rw [hrec]; simp)
      have hch3 : Chg w3 (w3.putObj (w.heap.size + 1) (.loop { rec with state := .exhausted })) (fun k => k = w.heap.size + 1) := ⟨rfl, rfl, rfl, by simp, fun k _ hne => World.putObj_heap_other hne⟩
      refine ⟨none, _, by rw [show (none : Option Code) = rec.pending by rw [hrec]]; exact hend, ?_⟩
      have hSle : S.le T := hle.trans hTle
      have := hAM.go T { a with defers := [{ target := .collected w.heap.size, args := #[] }] ++ a.defers } _ ⟨hT.write ha3 hTl hch3 (b := .dead) trivial, fun b hb => (hTold b hb).trans ?_, hc.le.trans hSle, fun id hid => ?_, ⟨hc.fr.size, fun i => VR.mono hSle _ _ (hc.fr.get i)⟩, ?_⟩
      · rw [hFe] at this
        exact this
      · have hb' : b < G.W.heap.size := hb
        have : b ≠ w.heap.size := by omega
        simp only [F1, if_neg this]
        exact hc.old b hb
      · simp only [hset_length] at hid
        exact hTfresh id (by omega)
      · refine ⟨⟨w.heap.size, rfl, hTle.F _ _ (by simp [F1]), hWle, ?_, hc.defers.none_of hc.rel.fv⟩, hc.defers.mono hSle.F⟩
        cases hF : G.S0.F w.heap.size with
        | none => rfl
        | some o => have := hc.le.F _ _ hF; rw [hFD] at this; cases this

/-- A round: the loop's body is run. -/
theorem AM.yield (hG : GOk P G E rs) {fr frL : List AV} {h : List Blk} {R rest : List Oper} {o : Oper} {k : List It} {f : Operand} {as : Array Operand} {ts : Array TypeId} {id l : Nat} {rec : Loop} {ps : Array Tmp} {assign body : Code} {g : Unit → Prop}
    (hL : LoopOk G id l rec ps assign body frL) (hop : o.op = .call { callee := .value f, args := as, argTypes := ts }) (hw : wantedA R fr o = .yes) (hc : ev fr f = .fn (.yield l) [] []) (hb : hget h id = .obj (fun _ => .loop rec)) (hid : id < h.length) (hl : ps.toList.length = as.toList.length)
    (h1 : ∀ G' : Gl, GOk P G' E roundRs → GB G' h.length → LoopOk G' id l rec ps assign body frL → G'.round = some l →
      (∀ v h', hget h' id = .obj (fun _ => .loop { rec with state := .busy }) → AM G ⟨putO fr o.dst (.bool (.l true)), hset h' id (.obj fun _ => .loop rec), .ops R rest :: k⟩ → G'.Q v h') →
      AM G' ⟨setPs frL ps.toList (as.toList.map (ev fr)), h, [.code assign, .beg l, .code body]⟩) (hnr : isRound rs = false := by rfl) : AM G ⟨fr, h, .ops R (o :: rest) :: k⟩ := by
  refine ⟨fun S a w hcfg => ?_⟩
  have hp := hG.p
  subst hp
  have hro := (hG.rs hnr).1
  have hFe : G.Fe = Fence.wide := by unfold Gl.Fe; rw [hro]
  have hfv := hcfg.fr.ev f
  rw [hc] at hfv
  simp only [VR, VRs] at hfv
  obtain ⟨a0, b0, hfv, ha0, hb0⟩ := hfv
  have ha0 : a0 = #[] := by simpa using ha0
  have hb0 : b0 = #[] := by simpa using hb0
  subst ha0
  subst hb0
  have halive : alive (hget h id) = true := by rw [hb]; rfl
  have hσ : S.σ id = some (some (l, 0)) := hcfg.le.σ _ _ hL.σ
  obtain ⟨q, e1, e2⟩ := hcfg.rel.blk id halive
  rw [hσ] at e1
  cases e1
  rw [hb] at e2
  obtain ⟨g', c', e3, e4⟩ := e2
  cases e3
  have hargs : VRs S (as.toList.map (ev fr)) (as.map a.eval).toList := by simpa using VRs_map hcfg.fr.ev as.toList
  have hsz : (as.map a.eval).size = rec.params.size := by rw [hL.ps]; simpa using hl.symm
  simp only [wpK]
  unfold wpListIn
  rw [if_pos (wantedA_yes hcfg.fr hw)]
  unfold Oper.wpIn
  refine ⟨fun f _ => G.fe_fn f, ?_⟩
  rw [Oper.semAt_eq _ _ _ (by rw [hop]; simp)]
  have hy := run_yield (P := G.P) (w := w) (args := as.map a.eval) e4 hsz
  have hex : (execOp a.eval o).run G.P w = .ok (.round l rec.fn ((rec.params.zip (as.map a.eval)).foldl (fun tmps (t, a) => tmps.setIfInBounds t a) rec.tmps) rec.assign rec.body) w := by
    simp only [execOp, hop, resolve, hfv, Deferred.ofValue, Sem.run_bind, Sem.run_pure, Result.andThen, invoke]
    simpa using hy
  rw [hex, hFe]
  refine ⟨fun hd => by simp [Fence.wide] at hd, ?_⟩
  refine roundIn_of_wpIn trivial ?_
  have key := h1 { P := G.P, E := G.E, fn := G.fn, W := G.W, S0 := S, Q := fun v h' => hget h' id = .obj (fun _ => .loop { rec with state := .busy }) ∧ AM G ⟨putO fr o.dst (.bool (.l true)), hset h' id (.obj fun _ => .loop rec), .ops R rest :: k⟩, round := some l }
    ⟨rfl, hG.ok, hG.e, .inr rfl⟩ ⟨hcfg.fresh⟩ ⟨hσ, hL.size, fun i => VR.mono hcfg.le _ _ (hL.get i), hL.st, hL.pe, hL.ps, hL.as, hL.bo⟩ rfl (fun v h' e1 e2 => ⟨e1, e2⟩)
  have hfr := setPs_ok ps.toList (as.toList.map (ev fr)) (as.map a.eval).toList frL { tmps := rec.tmps, defers := [] } ⟨hL.size, fun i => VR.mono hcfg.le _ _ (hL.get i)⟩ hargs (by simpa using hl)
  have hfold : ((rec.params.zip (as.map a.eval)).foldl (fun tmps (t, a) => tmps.setIfInBounds t a) rec.tmps) = (ps.toList.zip (as.map a.eval).toList).foldl (fun tmps p => tmps.setIfInBounds p.1 p.2) rec.tmps := by
    rw [hL.ps, ← Array.foldl_toList, Array.toList_zip]
  have := key.go S { tmps := (ps.toList.zip (as.map a.eval).toList).foldl (fun tmps p => tmps.setIfInBounds p.1 p.2) rec.tmps, defers := [] } w ⟨hcfg.rel, fun _ _ => rfl, .refl _, hcfg.fresh, hfr, trivial⟩
  rw [hfold, hL.as, hL.bo]
  simp only [wpK] at this
  refine wpIn_mono this ?_
  intro e a' w' hq
  cases e with
  | normal =>
    obtain ⟨w2, hbr, hbody⟩ := hq
    refine ⟨w2, hbr, wpIn_mono hbody ?_⟩
    intro e a'' w'' hq
    cases e with
    | normal =>
      obtain ⟨h', T, hT, hTle, hTold, hTfresh, hget3, hAM⟩ := hq
      have hTl : T.σ id = some (some (l, 0)) := hTle.σ _ _ hσ
      have ha3 : alive (hget h' id) = true := by rw [hget3]; rfl
      obtain ⟨q, e1, e2⟩ := hT.blk id ha3
      rw [hTl] at e1
      cases e1
      rw [hget3] at e2
      obtain ⟨g', c', e3, e5⟩ := e2
      cases e3
      have hend := run_endRound (P := G.P) none e5
      have hrb : { { rec with state := LoopState.busy } with state := if (none : Option Code).isNone then .ready else .done, pending := none } = rec := by
        have h1 := hL.st
        have h2 := hL.pe
        cases rec
        simp_all
      rw [hrb] at hend
      have hlt : l < w''.heap.size := (Array.getElem?_eq_some_iff.1 e5).1
      have hch3 : Chg w'' (w''.putObj l (.loop rec)) (fun k => k = l) := ⟨rfl, rfl, rfl, by simp, fun k _ hne => World.putObj_heap_other hne⟩
      refine ⟨_, _, hend, ?_⟩
      have := hAM.go T (a.put o.dst (.bool true)) _ ⟨hT.write ha3 hTl hch3 (b := .obj fun _ => .loop rec) ⟨_, _, rfl, World.putObj_heap_same hlt⟩, fun b hb => (hTold b hb).trans (hcfg.old b hb), hcfg.le.trans hTle, fun i hi => ?_, (hcfg.fr.mono hTle).put o.dst (by simp only [VR, SB.d_l]), by have := hcfg.defers.mono hTle.F; cases o.dst <;> exact this⟩
      · rw [hFe] at this
        simp only [wpK] at this
        exact this
      · simp only [hset_length] at hi
        exact hTfresh i (by omega)
    | _ => exact hq.elim
  | exit id => simp only [wpK] at hq; exact hq
  | goto id => simp only [wpK] at hq; exact hq
  | ret => simp only [wpK] at hq; exact hq
  | panic id => simp only [wpK] at hq; exact hq
  | outgrown => simp only [wpK] at hq; exact hq
/-- A round begins. -/
theorem AM.beg {fr frL : List AV} {h : List Blk} {k : List It} {id l : Nat} {rec : Loop} {ps : Array Tmp} {assign body : Code} (hL : LoopOk G id l rec ps assign body frL) (hb : hget h id = .obj (fun _ => .loop rec)) (hid : id < h.length)
    (h1 : AM G ⟨fr, hset h id (.obj fun _ => .loop { rec with state := .busy }), k⟩) : AM G ⟨fr, h, .beg l :: k⟩ := by
  refine ⟨fun S a w hc => ?_⟩
  have halive : alive (hget h id) = true := by rw [hb]; rfl
  have hσ : S.σ id = some (some (l, 0)) := hc.le.σ _ _ hL.σ
  obtain ⟨q, e1, e2⟩ := hc.rel.blk id halive
  rw [hσ] at e1
  cases e1
  rw [hb] at e2
  obtain ⟨g', c', e3, e4⟩ := e2
  cases e3
  have hlt : l < w.heap.size := (Array.getElem?_eq_some_iff.1 e4).1
  have hch : Chg w (w.putObj l (.loop { rec with state := .busy })) (fun k => k = l) := ⟨rfl, rfl, rfl, by simp, fun k _ hne => World.putObj_heap_other hne⟩
  simp only [wpK]
  refine ⟨_, run_beginRound e4 hL.st, ?_⟩
  exact h1.go S a _ ⟨hc.rel.write halive hσ hch (b := .obj fun _ => .loop { rec with state := .busy }) ⟨_, _, rfl, World.putObj_heap_same hlt⟩, hc.old, hc.le, fun i hi => by
    simp only [hset_length] at hi
    exact hc.fresh i (by simp only; omega), hc.fr, hc.defers⟩
/-- A round's end. -/
theorem AM.roundEnd {fr : List AV} {h : List Blk} {l : Nat} (hr : G.round = some l) (hq : G.Q .any h) : AM G ⟨fr, h, []⟩ := by
  refine ⟨fun S a w hc => ?_⟩
  simp only [wpK]
  unfold Gl.Fin
  rw [hr]
  exact ⟨h, S, hc.rel, hc.le, hc.old, hc.fresh, hq⟩
end
end Go.Sx
