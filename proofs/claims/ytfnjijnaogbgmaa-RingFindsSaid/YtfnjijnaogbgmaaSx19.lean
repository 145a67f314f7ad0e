/- A reckoner of Go code over told values: its rules. -/
import Derived.Test.YtfnjijnaogbgmaaSx18
namespace Go.Sx
open Go Go.RowKit
set_option linter.unusedVariables false
set_option linter.unusedSimpArgs false

/-- A round of a loop over a function has no results. -/
def roundRs : List ResultVar := [.tmp 999999]
def isRound : List ResultVar → Bool
  | [.tmp 999999] => true
  | _ => false
/-- The goal's program, its tables, its results. -/
structure GOk (P : Program) (G : Gl) (E : Env) (rs : List ResultVar) : Prop where
  p : G.P = P
  ok : EnvOk G.P G.E
  e : G.E = E
  rd : (G.round = none ∧ G.fn.results.toList = rs) ∨ rs = roundRs
theorem GOk.rs {P : Program} {G : Gl} {E : Env} {rs : List ResultVar} (h : GOk P G E rs) (hn : isRound rs = false) : G.round = none ∧ G.fn.results.toList = rs := by
  rcases h.rd with h | h
  · exact h
  · rw [h] at hn; simp [isRound, roundRs] at hn
/-- A function's contract from its body. -/
theorem calls_of_wpG {P : Program} {f : FuncId} {fn : Func} {c : Code} {args : Array Value} {w : World} {R : Ending → World → Prop} (hf : P.funcs[f]? = some fn) (hb : fn.body = some c)
    (h : c.wpIn Fence.wide 0 P (bodyPostM Fence.wide 0 P fn R) { tmps := args ++ Array.replicate (fn.ntmps - args.size) undef, defers := [] } w) : Calls P f args w R :=
  callsIn_wide.1 (callsIn_of_wp_marks hf hb trivial h)

theorem run_ok {G : Gl} (hE : EnvOk G.P G.E) : ∀ (n : Nat) (c : Cfg) (obs : Obs), allO (run G.E n c obs).2 → AM G (run G.E n c obs).1 → allO obs ∧ AM G c
  | 0, c, obs, ho, h => ⟨ho, h⟩
  | n + 1, c, obs, ho, h => by
    unfold run at ho h
    cases hs : step G.E c with
    | none =>
      simp only [hs] at ho h
      exact ⟨ho, h⟩
    | some r =>
      obtain ⟨c', o⟩ := r
      simp only [hs] at ho h
      obtain ⟨h1, h2⟩ := run_ok hE n c' (o ++ obs) ho h
      rw [allO_append] at h1
      exact ⟨h1.2, step_ok hE hs h1.1 h2⟩
theorem AM.run {P : Program} {G : Gl} {E : Env} {rs : List ResultVar} (hG : GOk P G E rs) (n : Nat) {c : Cfg} (h : AMO G (Sx.run E n c [])) : AM G c := by
  have he := hG.e
  subst he
  exact (run_ok hG.ok n c [] h.obs h.am).2

/-- What the results are. -/
def resA (E : Env) (fr : List AV) (h : List Blk) : List ResultVar → Option (List AV × Obs)
  | [] => some ([], [])
  | .tmp t :: rs => (match resA E fr h rs with | some (vs, o) => some (get fr t :: vs, o) | none => none)
  | .cell a t :: rs =>
    (match loadA E h t (get fr a) with
     | some r => (match resA E fr h rs with | some (vs, o) => some (r.v :: vs, r.obs ++ o) | none => none)
     | none => none)
def oneOf : List AV → AV
  | [v] => v
  | vs => .tup vs
structure AMQ (G : Gl) (x : Option (List AV × Obs)) (h : List Blk) : Prop where
  q : ∃ vs o, x = some (vs, o) ∧ allO o ∧ G.Q (oneOf vs) h
theorem AMQ.mk' {G : Gl} {vs : List AV} {o : Obs} {h : List Blk} (ho : allO o) (hq : G.Q (oneOf vs) h) : AMQ G (some (vs, o)) h := ⟨vs, o, rfl, ho, hq⟩

section
variable {P : Program} {G : Gl} {E : Env} {rs : List ResultVar}

def resF (tmps : Array Value) (r : ResultVar) : Sem Value :=
  match r with
  | .tmp t => pure (tmps.getD t undef)
  | .cell b t => do loadVar t (← asAddr (tmps.getD b undef))
theorem results_eq (fn : Func) (tmps : Array Value) : results fn tmps = (do
    let vs ← fn.results.mapM (resF tmps)
    pure (if h : vs.size = 1 then vs[0] else .tuple vs)) := rfl
theorem res_ok (hE : EnvOk G.P G.E) {S : Sg} {fr : List AV} {h : List Blk} {a : Act} {w : World} (hc : CfgR G.W G.S0 S fr h a w) : ∀ (rs : List ResultVar) (vs : List AV) (o : Obs), resA G.E fr h rs = some (vs, o) → allO o →
    ∃ us : List Value, (rs.mapM (resF a.tmps)).run G.P w = .ok us w ∧ VRs S vs us
  | [], vs, o, hr, ho => by
    simp only [resA, Option.some.injEq, Prod.mk.injEq] at hr
    obtain ⟨rfl, rfl⟩ := hr
    exact ⟨[], by simp, by simp only [VRs]⟩
  | .tmp t :: rs, vs, o, hr, ho => by
    simp only [resA] at hr
    split at hr
    · rename_i vs' o' hr'
      simp only [Option.some.injEq, Prod.mk.injEq] at hr
      obtain ⟨rfl, rfl⟩ := hr
      obtain ⟨us, h1, h2⟩ := res_ok hE hc rs vs' _ hr' ho
      exact ⟨a.tmps.getD t undef :: us, by simp only [List.mapM_cons, Sem.run_bind, Sem.run_pure, Result.andThen, h1, resF], _, _, rfl, hc.fr.get t, h2⟩
    · cases hr
  | .cell b t :: rs, vs, o, hr, ho => by
    simp only [resA] at hr
    split at hr
    · rename_i r hl
      split at hr
      · rename_i vs' o' hr'
        simp only [Option.some.injEq, Prod.mk.injEq] at hr
        obtain ⟨rfl, rfl⟩ := hr
        rw [allO_append] at ho
        obtain ⟨us, h1, h2⟩ := res_ok hE hc rs vs' _ hr' ho.2
        obtain ⟨_, u, h3, h4⟩ := loadA_ok hE.rows hc.rel hl ho.1 (hc.fr.get b)
        refine ⟨u :: us, ?_, _, _, rfl, h4, h2⟩
        have h5 : (resF a.tmps (.cell b t)).run G.P w = .ok u w := by
          simp only [resF]
          have hb := hc.fr.get b
          simp only [Instr.loadAt] at h3
          generalize a.tmps.getD b undef = v at h3
          cases v <;> try (simp [Instr.sureAddr, Result.andThen] at h3; done)
          rename_i p
          cases p with
          | none => simp [Instr.sureAddr, Result.andThen] at h3
          | some p => simpa [Instr.sureAddr, asAddr] using h3
        simp only [List.mapM_cons, Sem.run_bind, Sem.run_pure, h5, Result.andThen, h1]
      · cases hr
    · cases hr

/-- A mark is come to. -/
theorem take_mark {G : Gl} {S : Sg} {fr : List AV} {h : List Blk} {a : Act} {w : World} {d : Deferred} {ds : List Deferred} (hc : CfgR G.W G.S0 S fr h { a with defers := d :: ds } w) :
    ∃ r S' w', d.target = .collected r ∧ (Instr.takeDeferred r).run G.P w = .ok [] w' ∧ CfgR G.W G.S0 S' fr h { a with defers := ds } w' := by
  obtain ⟨⟨r, rfl, h2, h3, h4, h5⟩, h6⟩ := hc.defers
  have hw := hc.rel.fv r _ h2
  have hlt : r < w.heap.size := (Array.getElem?_eq_some_iff.1 hw).1
  have hch : Chg w (w.putObj r (.deferred none)) (fun k => k = r) := ⟨rfl, rfl, rfl, by simp, fun k _ hne => World.putObj_heap_other hne⟩
  have hne : ∀ b o, G.S0.F b = some o → b ≠ r := by
    rintro b o hb rfl
    rw [h4] at hb; cases hb
  have hw' : S.lw ⟨S.σ, fun b => if b = r then none else S.F b⟩ := by
    refine ⟨fun _ _ h => h, fun b c T z hb => ?_⟩
    have : b ≠ r := by rintro rfl; rw [h2] at hb; cases hb
    simp only [if_neg this]
    exact hb
  refine ⟨r, ⟨S.σ, fun b => if b = r then none else S.F b⟩, w.putObj r (.deferred none), rfl, run_takeDeferred hw, ⟨⟨hch.below hc.rel.below (fun k hk => hk ▸ h3), ?_, ?_, ?_, hc.rel.inj⟩, ?_, ⟨hc.le.σ, ?_⟩, hc.fresh, ⟨hc.fr.size, fun i => VR.monoW hw' _ _ (hc.fr.get i)⟩, ?_⟩⟩
  · intro b o hb
    simp only at hb
    by_cases e : b = r
    · rw [if_pos e] at hb; cases hb
    · rw [if_neg e] at hb
      rw [World.putObj_heap_other e]
      exact hc.rel.fv b o hb
  · intro id ha
    obtain ⟨q, e1, e2⟩ := hc.rel.blk id ha
    refine ⟨q, e1, e2.monoW hw' fun g c hq => World.putObj_heap_other ?_⟩
    rintro rfl
    subst hq
    have := (hc.rel.own id g c ha e1).2
    rw [h2] at this; cases this
  · intro id g c ha hσ
    obtain ⟨e1, e2⟩ := hc.rel.own id g c ha hσ
    refine ⟨e1, ?_⟩
    simp only
    split
    · rfl
    · exact e2
  · intro b hb
    have : b ≠ r := by omega
    simp only [if_neg this]
    exact hc.old b hb
  · intro b o hb
    simp only [if_neg (hne b o hb)]
    exact hc.le.F b o hb
  · have : ∀ (l : List Deferred), (∀ d' ∈ l, d'.target ≠ .collected r) → Marks G.W G.S0 S l → Marks G.W G.S0 ⟨S.σ, fun b => if b = r then none else S.F b⟩ l := by
      intro l
      induction l with
      | nil => intro _ _; trivial
      | cons d l ih =>
        rintro hd ⟨⟨q, e1, e2, e3, e4, e5⟩, e6⟩
        refine ⟨⟨q, e1, ?_, e3, e4, e5⟩, ih (fun d' hd' => hd d' (List.mem_cons_of_mem _ hd')) e6⟩
        have : q ≠ r := by
          rintro rfl
          exact hd d List.mem_cons_self (by rw [e1])
        simp only [if_neg this]
        exact e2
    exact this ds h5 h6
theorem leave_ok (hG : GOk P G E rs) (hn : isRound rs = false) {fr : List AV} {h : List Blk} (hq : AMQ G (resA E fr h rs) h) (fn : Func) (hfn : G.fn = fn) : ∀ (ds : List Deferred) (S : Sg) (a : Act) (w : World), CfgR G.W G.S0 S fr h { a with defers := ds } w → LeavesInM Fence.wide 0 G.P fn a.tmps G.End ds .returning w
  | [], S, a, w, hc => by
    subst hfn
    have he := hG.e
    subst he
    obtain ⟨vs, o, h1, h2, h3⟩ := hq
    obtain ⟨us, h4, h5⟩ := res_ok hG.ok hc rs vs o h1 h2
    have hl := h5.length
    refine ⟨if h : us.toArray.size = 1 then us.toArray[0] else .tuple us.toArray, ?_, ?_⟩
    · have hrun : (G.fn.results.mapM (resF a.tmps)).run G.P w = .ok us.toArray w := by
        rw [Array.mapM_eq_mapM_toList, (hG.rs hn).2]
        simp only [Sem.run_map, h4, Result.andThen]
      rw [results_eq]
      simp only [Sem.run_bind, hrun, Result.andThen, Sem.run_pure]
    · refine ⟨_, oneOf vs, h, S, rfl, hc.rel, hc.le, hc.old, hc.fresh, ?_, h3⟩
      cases vs with
      | nil =>
        have : us = [] := by simp only [VRs] at h5; exact h5
        subst this
        simp only [oneOf]
        simp only [VR]
        exact ⟨#[], by simp, by simp [VRs]⟩
      | cons v vs =>
        cases vs with
        | nil =>
          simp only [VRs] at h5
          obtain ⟨u, us', rfl, h6, rfl⟩ := h5
          simpa [oneOf] using h6
        | cons v2 vs =>
          have hne : us.toArray.size ≠ 1 := by simp [hl]
          rw [dif_neg hne]
          simp only [oneOf, VR]
          exact ⟨_, rfl, by simpa using h5⟩
  | d :: ds, S, a, w, hc => by
    obtain ⟨r, S', w', h1, h2, h3⟩ := take_mark hc
    exact ⟨by simp, .inl ⟨r, w', h1, h2, leave_ok hG hn hq fn hfn ds S' a w' h3⟩⟩
theorem fin_ok (hG : GOk P G E rs) (hn : isRound rs = false) {fr : List AV} {h : List Blk} (hq : AMQ G (resA E fr h rs) h) {S : Sg} {a : Act} {w : World} (hc : CfgR G.W G.S0 S fr h a w) : G.Fin .ret a w ∧ G.Fin .normal a w := by
  have key := leave_ok hG hn hq G.fn rfl a.defers S a w hc
  unfold Gl.Fin
  rw [(hG.rs hn).1]
  exact ⟨key, key⟩
theorem AM.ret (hG : GOk P G E rs) {fr : List AV} {h : List Blk} {k : List It} (hq : AMQ G (resA E fr h rs) h) (hn : isRound rs = false := by rfl) : AM G ⟨fr, h, .code .ret :: k⟩ := by
  refine ⟨fun S a w hc => ?_⟩
  simp only [wpK]
  exact wpIn_ret (wpK_ret (fin_ok hG hn hq hc).1 k)
/-- The end of a body without a return. -/
theorem AM.fall (hG : GOk P G E rs) {fr : List AV} {h : List Blk} (hq : AMQ G (resA E fr h rs) h) (hn : isRound rs = false := by rfl) : AM G ⟨fr, h, []⟩ := by
  refine ⟨fun S a w hc => ?_⟩
  simp only [wpK]
  exact (fin_ok hG hn hq hc).2

/-- A truth value is looked at. -/
theorem AM.case (t : Nat) {f : Unit → Bool} {fr : List AV} {h : List Blk} {k : List It} (hs : get fr t = .bool (.t f)) (h1 : f () = true → AM G ⟨put fr t (.bool (.l true)), h, k⟩) (h2 : f () = false → AM G ⟨put fr t (.bool (.l false)), h, k⟩) : AM G ⟨fr, h, k⟩ := by
  refine ⟨fun S a w hc => ?_⟩
  have hv := hc.fr.get t
  rw [hs] at hv
  simp only [VR, SB.d_t] at hv
  cases hf : f ()
  · exact (h2 hf).go S a w ⟨hc.rel, hc.old, hc.le, hc.fresh, hc.fr.one t (by simp only [VR, SB.d_l]; rw [hv, hf]), hc.defers⟩
  · exact (h1 hf).go S a w ⟨hc.rel, hc.old, hc.le, hc.fresh, hc.fr.one t (by simp only [VR, SB.d_l]; rw [hv, hf]), hc.defers⟩
/-- A number is known. -/
theorem AM.pin (t : Nat) (n : Int) {K : IntKind} {f : Unit → Int} {fr : List AV} {h : List Blk} {k : List It} (hs : get fr t = .int K (.t f)) (hn : f () = n) (h1 : AM G ⟨put fr t (.int K (.l n)), h, k⟩) : AM G ⟨fr, h, k⟩ := by
  refine ⟨fun S a w hc => ?_⟩
  have hv := hc.fr.get t
  rw [hs] at hv
  simp only [VR, SI.d_t] at hv
  exact h1.go S a w ⟨hc.rel, hc.old, hc.le, hc.fresh, hc.fr.one t (by simp only [VR, SI.d_l]; rw [hv, hn]), hc.defers⟩
/-- A loop's round is run. -/
theorem AM.unroll {fr : List AV} {h : List Blk} {b : Code} {k : List It} (h1 : AM G ⟨fr, h, .code b :: .lp b :: k⟩) : AM G ⟨fr, h, .code (.loop b) :: k⟩ := by
  refine ⟨fun S a w hc => ?_⟩
  have := h1.go S a w hc
  simp only [wpK] at this ⊢
  refine wp_loop_unroll G.fenced (fun l a w => wpK_goto (G.fin_goto l) _ a w) (fun a w => wpK_out G.fin_out _ a w) (wpIn_mono this ?_)
  intro e a w hq
  cases e <;> exact hq

/-- A loop: told by a family of states. -/
theorem AM.loop {ι : Type} (C : ι → List AV × List Blk) (μ : ι → Nat) (b : Code) (k : List It) (round : ∀ i, (∀ j, μ j < μ i → AM G ⟨(C j).1, (C j).2, .lq b :: k⟩) → AM G ⟨(C i).1, (C i).2, .code b :: .lq b :: k⟩) (i : ι) : AM G ⟨(C i).1, (C i).2, .code (.loop b) :: k⟩ := by
  have key : ∀ n i, μ i = n → AM G ⟨(C i).1, (C i).2, .lq b :: k⟩ := by
    intro n
    induction n using Nat.strongRecOn with
    | _ n ih =>
      intro i hi
      have := round i fun j hj => ih (μ j) (hi ▸ hj) j rfl
      refine ⟨fun S a w hc => ?_⟩
      have := this.go S a w hc
      simp only [wpK] at this ⊢
      refine wp_loop_unroll G.fenced (fun l a w => wpK_goto (G.fin_goto l) _ a w) (fun a w => wpK_out G.fin_out _ a w) (wpIn_mono this ?_)
      intro e a w hq
      cases e <;> exact hq
  have := key _ i rfl
  exact ⟨fun S a w hc => by have := this.go S a w hc; simpa only [wpK] using this⟩
end

/-! What one told value says, another says too. -/
/-- Both are the same (nothing is reckoned inside). -/
structure Eqq {α : Type} (a b : Unit → α) : Prop where
  out : a () = b ()
theorem eqq_iff {α : Type} {a b : Unit → α} : Eqq a b ↔ a () = b () := ⟨fun h => h.out, fun h => ⟨h⟩⟩
structure Impq (a b : Unit → Prop) : Prop where
  out : a () → b ()
theorem impq_iff {a b : Unit → Prop} : Impq a b ↔ (a () → b ()) := ⟨fun h => h.out, fun h => ⟨h⟩⟩
structure AO (o : Obs) : Prop where
  out : allO o
theorem ao_iff {o : Obs} : AO o ↔ allO o := ⟨fun h => h.out, fun h => ⟨h⟩⟩
mutual
def imp : AV → AV → Prop
  | x, y =>
    match y with
    | .any => True
    | .und => (match x with | .und => True | _ => False)
    | .int k b => (match x with | .int k' a => k' = k ∧ Eqq (fun _ => a.d) (fun _ => b.d) | _ => False)
    | .bool b => (match x with | .bool a => Eqq (fun _ => a.d) (fun _ => b.d) | _ => False)
    | .str b => (match x with | .str a => Eqq a b | _ => False)
    | .nilp => (match x with | .nilp => True | _ => False)
    | .nilf => (match x with | .nilf => True | _ => False)
    | .nili => (match x with | .nili => True | _ => False)
    | .nilm => (match x with | .nilm => True | _ => False)
    | .nils => (match x with | .nils => True | _ => False)
    | .e0 => (match x with | .nils => True | .e0 => True | _ => False)
    | .ptr i o => (match x with | .ptr i' o' => i' = i ∧ o' = o | _ => False)
    | .rowp i j s f => (match x with | .rowp i' j' s' f' => i' = i ∧ Eqq (fun _ => j'.d) (fun _ => j.d) ∧ s' = s ∧ f' = f | _ => False)
    | .fb ys o => (match x with | .fb xs o' => o' = o ∧ imps xs ys | _ => False)
    | .rop K l j f => (match x with | .rop K' l' j' f' => Eqq (fun _ => j'.d) (fun _ => j.d) ∧ f' = f ∧ (match castL K' K l' with | some l2 => Eqq l2 l | none => False) | _ => False)
    | .sl i s o n => (match x with | .sl i' s' o' n' => i' = i ∧ s' = s ∧ Eqq (fun _ => o'.d) (fun _ => o.d) ∧ Eqq (fun _ => n'.d) (fun _ => n.d) | _ => False)
    | .mp i => (match x with | .mp i' => i' = i | _ => False)
    | .ro K l =>
      (match x with
       | .ro K' l' => (match castL K' K l' with | some l2 => Eqq l2 l | none => False)
       | .nils => Eqq l (fun _ => [])
       | .e0 => Eqq l (fun _ => [])
       | _ => False)
    | .agg ys => (match x with | .agg xs => imps xs ys | _ => False)
    | .tup ys => (match x with | .tup xs => imps xs ys | _ => False)
    | .fn f a b => (match x with | .fn f' a' b' => f' = f ∧ imps a' a ∧ imps b' b | _ => False)
    | .iface t y => (match x with | .iface t' x => t' = t ∧ imp x y | _ => False)
    | .gd g y => (match x with | .gd g' x => Impq g g' ∧ Impq g' g ∧ imp x y | _ => False)
def imps : List AV → List AV → Prop
  | xs, ys =>
    match ys with
    | [] => (match xs with | [] => True | _ => False)
    | y :: ys => (match xs with | x :: xs => imp x y ∧ imps xs ys | _ => False)
end
mutual
theorem imp_ok {S : Sg} : (x y : AV) → (v : Value) → imp x y → VR S x v → VR S y v
  | x, .any, v, h, hv => by simp only [VR]
  | x, .und, v, h, hv => by cases x <;> simp only [imp] at h; exact hv
  | x, .int k b, v, h, hv => by
    cases x <;> simp only [imp, eqq_iff, impq_iff] at h
    obtain ⟨rfl, h⟩ := h
    simp only [VR] at hv ⊢
    rw [hv, h]
  | x, .bool b, v, h, hv => by
    cases x <;> simp only [imp, eqq_iff, impq_iff] at h
    simp only [VR] at hv ⊢
    rw [hv, h]
  | x, .str b, v, h, hv => by
    cases x <;> simp only [imp, eqq_iff, impq_iff] at h
    simp only [VR] at hv ⊢
    rw [hv, h]
  | x, .nilp, v, h, hv => by cases x <;> simp only [imp, eqq_iff, impq_iff] at h; exact hv
  | x, .nilf, v, h, hv => by cases x <;> simp only [imp, eqq_iff, impq_iff] at h; exact hv
  | x, .nili, v, h, hv => by cases x <;> simp only [imp, eqq_iff, impq_iff] at h; exact hv
  | x, .nilm, v, h, hv => by cases x <;> simp only [imp, eqq_iff, impq_iff] at h; exact hv
  | x, .nils, v, h, hv => by cases x <;> simp only [imp, eqq_iff, impq_iff] at h; exact hv
  | x, .e0, v, h, hv => by
    cases x <;> simp only [imp, eqq_iff, impq_iff] at h
    · simp only [VR] at hv ⊢; exact ⟨none, hv⟩
    · exact hv
  | x, .ptr i o, v, h, hv => by
    cases x <;> simp only [imp, eqq_iff, impq_iff] at h
    obtain ⟨rfl, rfl⟩ := h
    exact hv
  | x, .rowp i j s f, v, h, hv => by
    cases x <;> simp only [imp, eqq_iff, impq_iff] at h
    obtain ⟨rfl, h, rfl, rfl⟩ := h
    simp only [VR] at hv ⊢
    rw [← h]; exact hv
  | x, .fb ys o, v, h, hv => by
    cases x <;> simp only [imp, eqq_iff, impq_iff] at h
    obtain ⟨rfl, h1⟩ := h
    simp only [VR] at hv ⊢
    obtain ⟨g, vs, T, h2, h3, h4⟩ := hv
    exact ⟨g, vs, T, h2, h3, imps_ok _ ys _ h1 h4⟩
  | x, .rop K l j f, v, h, hv => by
    cases x <;> simp only [imp, eqq_iff, impq_iff] at h
    obtain ⟨h1, rfl, h2⟩ := h
    split at h2
    · rename_i l2 hl
      obtain ⟨he, hl⟩ := castL_eq hl
      subst he
      subst hl
      simp only [VR] at hv ⊢
      rw [← h1, ← h2]; exact hv
    · exact h2.elim
  | x, .sl i s o n, v, h, hv => by
    cases x <;> simp only [imp, eqq_iff, impq_iff] at h
    obtain ⟨rfl, rfl, h1, h2⟩ := h
    simp only [VR] at hv ⊢
    rw [← h1, ← h2]; exact hv
  | x, .mp i, v, h, hv => by
    cases x <;> simp only [imp, eqq_iff, impq_iff] at h
    subst h
    exact hv
  | x, .ro K l, v, h, hv => by
    cases x <;> simp only [imp, eqq_iff, impq_iff] at h
    · simp only [VR] at hv ⊢
      simp only [KR]
      exact ⟨none, 0, by rw [hv, h]; rfl, by rw [h]; exact Nat.le_refl _, .inl h⟩
    · simp only [VR] at hv ⊢
      obtain ⟨A, hv⟩ := hv
      simp only [KR]
      exact ⟨A, 0, by rw [hv, h]; rfl, by rw [h]; exact Nat.le_refl _, .inl h⟩
    · split at h
      · rename_i l2 hl
        obtain ⟨he, hl⟩ := castL_eq hl
        subst he
        subst hl
        simp only [VR] at hv ⊢
        rw [← h]; exact hv
      · exact h.elim
  | x, .agg ys, v, h, hv => by
    cases x <;> simp only [imp, eqq_iff, impq_iff] at h
    simp only [VR] at hv ⊢
    obtain ⟨vs, h1, h2⟩ := hv
    exact ⟨vs, h1, imps_ok _ ys _ h h2⟩
  | x, .tup ys, v, h, hv => by
    cases x <;> simp only [imp, eqq_iff, impq_iff] at h
    simp only [VR] at hv ⊢
    obtain ⟨vs, h1, h2⟩ := hv
    exact ⟨vs, h1, imps_ok _ ys _ h h2⟩
  | x, .fn f a b, v, h, hv => by
    cases x <;> simp only [imp, eqq_iff, impq_iff] at h
    obtain ⟨rfl, h1, h2⟩ := h
    simp only [VR] at hv ⊢
    obtain ⟨as, bs, h3, h4, h5⟩ := hv
    exact ⟨as, bs, h3, imps_ok _ a _ h1 h4, imps_ok _ b _ h2 h5⟩
  | x, .iface t y, v, h, hv => by
    cases x <;> simp only [imp, eqq_iff, impq_iff] at h
    obtain ⟨rfl, h1⟩ := h
    simp only [VR] at hv ⊢
    obtain ⟨u, h3, h4⟩ := hv
    exact ⟨u, h3, imp_ok _ y _ h1 h4⟩
  | x, .gd g y, v, h, hv => by
    cases x <;> simp only [imp, eqq_iff, impq_iff] at h
    obtain ⟨h1, h0, h2⟩ := h
    simp only [VR] at hv ⊢
    exact ⟨fun hg => imp_ok _ y _ h2 (hv.1 (h1 hg)), fun hn => hv.2 fun hh => hn (h0 hh)⟩
theorem imps_ok {S : Sg} : (xs ys : List AV) → (vs : List Value) → imps xs ys → VRs S xs vs → VRs S ys vs
  | xs, [], vs, h, hv => by
    cases xs <;> simp only [imps] at h
    exact hv
  | xs, y :: ys, vs, h, hv => by
    cases xs <;> simp only [imps] at h
    simp only [VRs] at hv ⊢
    obtain ⟨u, us, h1, h2, h3⟩ := hv
    exact ⟨u, us, h1, imp_ok _ y _ h.1 h2, imps_ok _ ys _ h.2 h3⟩
end
end Go.Sx
