/- A reckoner of Go code over told values: runs of code. -/
import Derived.Test.YtfnjijnaogbgmaaSx31
import Derived.RangeFuncRecord
import Derived.OrdersIn
import Derived.TacticsIn
namespace Go.Sx
open Go Go.RowKit
set_option linter.unusedVariables false
set_option linter.unusedSimpArgs false

/-- What is still to be done, as a condition. -/
def wpK (Fe : Fence) (P : Program) (Fin : Exit → Act → World → Prop) : List It → Exit → Act → World → Prop
  | [], e, a, w => Fin e a w
  | .code c :: k, e, a, w => match e with | .normal => c.wpIn Fe 0 P (wpK Fe P Fin k) a w | e => wpK Fe P Fin k e a w
  | .blk id :: k, e, a, w => match e with | .exit j => if j = id then wpK Fe P Fin k .normal a w else wpK Fe P Fin k (.exit j) a w | e => wpK Fe P Fin k e a w
  | .lp c :: k, e, a, w => match e with | .normal => (Code.loop c).wpIn Fe 0 P (wpK Fe P Fin k) a w | e => wpK Fe P Fin k e a w
  | .lq c :: k, e, a, w => match e with | .normal => (Code.loop c).wpIn Fe 0 P (wpK Fe P Fin k) a w | e => wpK Fe P Fin k e a w
  | .ops R rest :: k, e, a, w => match e with | .normal => wpListIn Fe 0 P R.toArray (wpK Fe P Fin k) rest a w | e => wpK Fe P Fin k e a w
  | .beg l :: k, e, a, w => match e with | .normal => ∃ w', (Instr.beginRound l).run P w = .ok () w' ∧ wpK Fe P Fin k .normal a w' | e => wpK Fe P Fin k e a w

structure FrR (S : Sg) (fr : List AV) (a : Act) : Prop where
  size : a.tmps.size = fr.length
  get : ∀ i, VR S (Sx.get fr i) (a.tmps.getD i undef)
/-- The marks of ended loops over functions: blocks without deferred calls. -/
def Marks (W : World) (S0 S : Sg) : List Deferred → Prop
  | [] => True
  | d :: ds => (∃ r, d = { target := .collected r, args := #[] } ∧ S.F r = some (.deferred (some [])) ∧ W.heap.size ≤ r ∧ S0.F r = none ∧ ∀ d' ∈ ds, d'.target ≠ .collected r) ∧ Marks W S0 S ds
theorem Marks.mono {W : World} {S0 S S' : Sg} (hF : FLe S.F S'.F) : ∀ {ds : List Deferred}, Marks W S0 S ds → Marks W S0 S' ds
  | [], _ => trivial
  | d :: ds, ⟨⟨r, h1, h2, h3, h4, h5⟩, h⟩ => ⟨⟨r, h1, hF _ _ h2, h3, h4, h5⟩, Marks.mono hF h⟩
structure CfgR (W : World) (S0 : Sg) (S : Sg) (fr : List AV) (h : List Blk) (a : Act) (w : World) : Prop where
  rel : Rel W S h w
  old : ∀ b, b < W.heap.size → S.F b = S0.F b
  le : S0.le S
  fresh : ∀ id, h.length ≤ id → S.σ id = none
  fr : FrR S fr a
  defers : Marks W S0 S a.defers
/-- The end that is aimed at. -/
structure Gl where
  P : Program
  E : Env
  fn : Func
  W : World
  S0 : Sg
  Q : AV → List Blk → Prop
  round : Option Nat := none
def Gl.Fe (G : Gl) : Fence :=
  match G.round with
  | none => Fence.wide
  | some l => Fence.wide.inRound l
theorem Gl.fenced (G : Gl) (m : Machine) : m.fenced G.P G.Fe := by
  unfold Gl.Fe
  split
  · exact fenced_wide _ _
  · rw [fenced_inRound]; exact fenced_wide _ _
theorem Gl.fe_fn (G : Gl) (f : FuncId) : G.Fe.fn f := by
  unfold Gl.Fe
  split <;> trivial
theorem Gl.fe_room (G : Gl) (n : Nat) : G.Fe.room n := by
  unfold Gl.Fe
  split
  · exact room_wide n
  · exact room_wide n
theorem Gl.fe_depth (G : Gl) : G.Fe.depth = none := by
  unfold Gl.Fe
  split <;> rfl
theorem Gl.fe_round (G : Gl) : G.Fe.round = G.round := by
  unfold Gl.Fe
  split <;> simp_all [Fence.wide]
def Gl.End (G : Gl) (e : Ending) (w : World) : Prop :=
  ∃ v x h S, e = .returned v ∧ Rel G.W S h w ∧ G.S0.le S ∧ (∀ b, b < G.W.heap.size → S.F b = G.S0.F b) ∧ (∀ id, h.length ≤ id → S.σ id = none) ∧ VR S x v ∧ G.Q x h
/-- The end of a round of a loop over a function. -/
def Gl.EndR (G : Gl) (w : World) : Prop :=
  ∃ h S, Rel G.W S h w ∧ G.S0.le S ∧ (∀ b, b < G.W.heap.size → S.F b = G.S0.F b) ∧ (∀ id, h.length ≤ id → S.σ id = none) ∧ G.Q .any h
def Gl.Fin (G : Gl) (e : Exit) (a : Act) (w : World) : Prop :=
  match G.round with
  | none => bodyPostM Fence.wide 0 G.P G.fn G.End e a w
  | some _ => (match e with | .normal => G.EndR w | _ => False)
structure AM (G : Gl) (c : Cfg) : Prop where
  go : ∀ S a w, CfgR G.W G.S0 S c.fr c.h a w → wpK G.Fe G.P G.Fin c.k .normal a w
structure AMO (G : Gl) (x : Cfg × Obs) : Prop where
  obs : allO x.2
  am : AM G x.1

theorem get_put : ∀ (fr : List AV) (n m : Nat) (v : AV), get (put fr n v) m = if m = n ∧ n < fr.length then v else get fr m
  | [], n, m, v => by simp [put, get]
  | x :: fr, 0, 0, v => by simp [put, get]
  | x :: fr, 0, m + 1, v => by simp [put, get]
  | x :: fr, n + 1, 0, v => by simp [put, get]
  | x :: fr, n + 1, m + 1, v => by simp only [put, get]; rw [get_put fr n m v]; simp
theorem put_length : ∀ (fr : List AV) (n : Nat) (v : AV), (put fr n v).length = fr.length
  | [], n, v => by cases n <;> rfl
  | x :: fr, 0, v => rfl
  | x :: fr, n + 1, v => by simp [put, put_length fr n v]

section
variable {S S' : Sg} {fr : List AV} {a : Act}
theorem FrR.mono (h : FrR S fr a) (hS : S.le S') : FrR S' fr a := ⟨h.size, fun i => VR.mono hS _ _ (h.get i)⟩
theorem FrR.put (h : FrR S fr a) (d : Option Nat) {x : AV} {v : Value} (hv : VR S x v) : FrR S (putO fr d x) (a.put d v) := by
  cases d with
  | none => exact h
  | some d =>
    refine ⟨by simp [Act.put, putO, put_length, h.size], fun i => ?_⟩
    simp only [putO, Act.put]
    rw [get_put]
    by_cases e : i = d ∧ d < fr.length
    · obtain ⟨rfl, hd⟩ := e
      rw [if_pos ⟨rfl, hd⟩]
      have : (a.tmps.setIfInBounds i v).getD i undef = v := by
        have hd' : i < a.tmps.size := by rw [h.size]; exact hd
        simp [Array.getD, hd']
      rw [this]; exact hv
    · rw [if_neg e]
      have : (a.tmps.setIfInBounds d v).getD i undef = a.tmps.getD i undef := by
        by_cases hi : i < a.tmps.size
        · have hne : d ≠ i := by
            rintro rfl
            exact e ⟨rfl, by rw [← h.size]; exact hi⟩
          simp [Array.getD, hi, Array.getElem_setIfInBounds, hne]
        · simp [Array.getD, hi]
      rw [this]; exact h.get i
theorem FrR.ev (h : FrR S fr a) (y : Operand) : VR S (Sx.ev fr y) (a.eval y) := by
  cases y with
  | tmp t => exact h.get t
  | const v => exact ofV_ok v
  | global g => simp only [Sx.ev, VR]
  | func f => simp only [Sx.ev, VR]; exact ⟨#[], #[], rfl, by simp [VRs], by simp [VRs]⟩
theorem FrR.one (h : FrR S fr a) (t : Nat) {x : AV} (hx : VR S x (a.tmps.getD t undef)) : FrR S (Sx.put fr t x) a := by
  refine ⟨by rw [put_length]; exact h.size, fun i => ?_⟩
  rw [get_put]
  by_cases e : i = t ∧ t < fr.length
  · rw [if_pos e]; rw [e.1]; exact hx
  · rw [if_neg e]; exact h.get i
theorem FrR.guard {g : Unit → Prop} {x : AV} (hg : g ()) (d : Option Nat) (h : FrR S (putO fr d x) a) : FrR S (putO fr d (.gd g x)) a := by
  cases d with
  | none => exact h
  | some d =>
    refine ⟨by have := h.size; simp only [putO, put_length] at this ⊢; exact this, fun i => ?_⟩
    have := h.get i
    simp only [putO] at this ⊢
    rw [get_put] at this ⊢
    by_cases e : i = d ∧ d < fr.length
    · rw [if_pos e] at this ⊢
      simp only [VR]
      exact ⟨fun _ => this, fun hn => absurd hg hn⟩
    · rw [if_neg e] at this ⊢
      exact this
theorem strips_ok : ∀ {ys : List Operand} {fr fr' : List AV} {os : Obs}, FrR S fr a → strips fr ys = (fr', os) → allO os → FrR S fr' a
  | [], fr, fr', os, h, hs, ho => by
    simp only [strips, Prod.mk.injEq] at hs
    obtain ⟨rfl, rfl⟩ := hs
    exact h
  | y :: ys, fr, fr', os, h, hs, ho => by
    cases y with
    | tmp t =>
      simp only [strips] at hs
      split at hs
      · rename_i g v hg
        cases hs2 : strips (Sx.put fr t v) ys with
        | mk fr2 os2 =>
          rw [hs2] at hs
          simp only [Prod.mk.injEq] at hs
          obtain ⟨rfl, rfl⟩ := hs
          simp only [allO] at ho
          have hv := h.get t
          rw [hg] at hv
          simp only [VR] at hv
          exact strips_ok (h.one t (hv.1 ho.1)) hs2 ho.2
      · exact strips_ok h hs ho
    | const v => simp only [strips] at hs; exact strips_ok h hs ho
    | global v => simp only [strips] at hs; exact strips_ok h hs ho
    | func v => simp only [strips] at hs; exact strips_ok h hs ho
end

theorem hsets_length : ∀ (us : List (Nat × Blk)) (h : List Blk) (id : Nat), (hsets h us).length ≤ id → h.length ≤ id ∧ id ∉ us.map (·.1)
  | [], h, id, hl => by simpa [hsets] using hl
  | (n, b) :: us, h, id, hl => by
    simp only [hsets] at hl
    obtain ⟨h1, h2⟩ := hsets_length us _ _ hl
    rw [hset_length] at h1
    simp only [List.map_cons, List.mem_cons, not_or]
    exact ⟨by omega, by omega, h2⟩

theorem CfgR.next {W : World} {S0 : Sg} {S S' : Sg} {fr : List AV} {h : List Blk} {a : Act} {w w' : World} (hc : CfgR W S0 S fr h a w) (hS : S.le S') (hold : ∀ b, b < W.heap.size → S'.F b = S.F b) {us : List (Nat × Blk)} (hσ : ∀ id, id ∉ us.map (·.1) → S'.σ id = S.σ id)
    (hr : Rel W S' (hsets h us) w') (d : Option Nat) {x : AV} {v : Value} (hv : VR S' x v) : CfgR W S0 S' (putO fr d x) (hsets h us) (a.put d v) w' := by
  refine ⟨hr, fun b hb => (hold b hb).trans (hc.old b hb), hc.le.trans hS, fun id hid => ?_, (hc.fr.mono hS).put d hv, ?_⟩
  · obtain ⟨h1, h2⟩ := hsets_length us h id hid
    rw [hσ id h2]
    exact hc.fresh id h1
  · have := hc.defers.mono hS.F
    cases d <;> exact this

theorem wanted_iff {a : Act} {R : List Oper} {o : Oper} {j d : Nat} {want : Bool} {o' : Oper} (hg : o.guard = some (j, want)) (hj : nth R j = some o') (hd : o'.dst = some d) :
    Region.wanted o (yielded R.toArray a.tmps) = true ↔ a.tmps.getD d undef = .bool want := by
  rw [nth_eq] at hj
  simp only [Region.wanted, hg, yielded, List.getElem?_toArray, hj, Option.bind_some, hd]
  rcases Nat.lt_or_ge d a.tmps.size with hl | hl
  · rw [Array.getElem?_eq_getElem hl]
    simp only [Array.getD, hl, dif_pos]
    change _ ↔ a.tmps[d] = _
    cases a.tmps[d] <;> simp
  · have : a.tmps[d]? = none := by simp [hl]
    rw [this]
    simp [Array.getD, Nat.not_lt.2 hl, undef]
theorem wantB_ok {want : Bool} {b : SB} : (wantB want b = .yes → b.d = want) ∧ (wantB want b = .no → b.d ≠ want) ∧ (∀ g, wantB want b = .may g → (b.d = want ↔ g ())) ∧ wantB want b ≠ .lost := by
  cases b with
  | l b => cases b <;> cases want <;> simp [wantB, SB.d]
  | t f =>
    refine ⟨?_, ?_, ?_, ?_⟩
    · simp [wantB]
    · simp [wantB]
    · intro g h
      simp only [wantB, Wn.may.injEq] at h
      subst h
      simp only [SB.d]
    · simp [wantB]
theorem asB_ok {x : AV} {b : SB} (h : asB x = some b) : x = .bool b := by
  cases x <;> simp [asB] at h
  rw [h]
theorem wantV_ok {S : Sg} {want : Bool} {x : AV} {v : Value} (hv : VR S x v) : (wantV want x = .yes → v = .bool want) ∧ (wantV want x = .no → v ≠ .bool want) ∧ (∀ g, wantV want x = .may g → (v = .bool want ↔ g ())) := by
  cases x <;> simp only [wantV, reduceCtorEq, false_implies, implies_true, and_self]
  case bool b =>
    simp only [VR] at hv
    subst hv
    obtain ⟨h1, h2, h3, _⟩ := wantB_ok (want := want) (b := b)
    refine ⟨fun h => by rw [h1 h], fun h e => h2 h (by simpa using e), fun g h => by rw [← h3 g h]; simp⟩
  case und =>
    simp only [VR] at hv
    subst hv
    simp [undef]
  case gd g y =>
    simp only [VR] at hv
    obtain ⟨hv1, hv2⟩ := hv
    split
    · rename_i b hb
      obtain rfl := asB_ok hb
      simp only [VR] at hv1
      obtain ⟨h1, h2, h3, h4⟩ := wantB_ok (want := want) (b := b)
      cases hw : wantB want b with
      | yes =>
        simp only [wantG, reduceCtorEq, false_implies, true_and, Wn.may.injEq]
        rintro g' rfl
        by_cases hg : g ()
        · rw [hv1 hg, h1 hw]; simp [hg]
        · rw [hv2 hg]; simp [undef, hg]
      | no =>
        simp only [wantG, reduceCtorEq, false_implies, implies_true, and_true, true_and, forall_const]
        intro e
        by_cases hg : g ()
        · rw [hv1 hg] at e; exact h2 hw (by simpa using e)
        · rw [hv2 hg] at e; simp [undef] at e
      | may p =>
        simp only [wantG, reduceCtorEq, false_implies, true_and, Wn.may.injEq]
        rintro g' rfl
        by_cases hg : g ()
        · rw [hv1 hg]; simp only [hg, true_and]; rw [← h3 p hw]; simp
        · rw [hv2 hg]; simp [undef, hg]
      | lost => exact absurd hw h4
    · simp
theorem wantedA_at {R : List Oper} {fr : List AV} {o : Oper} {w : Wn} (hw : wantedA R fr o = w) (hn : o.guard ≠ none) (hl : w ≠ .lost) : ∃ j want o' d, o.guard = some (j, want) ∧ nth R j = some o' ∧ o'.dst = some d ∧ wantV want (get fr d) = w := by
  unfold wantedA at hw
  split at hw
  · rename_i e; exact absurd e hn
  · rename_i j want hg
    split at hw
    · rename_i d _ _ _ _ _ hj
      exact ⟨j, want, _, d, hg, hj, rfl, hw⟩
    · exact absurd hw.symm hl
theorem wantedA_yes {S : Sg} {fr : List AV} {a : Act} (h : FrR S fr a) {R : List Oper} {o : Oper} (hw : wantedA R fr o = .yes) : Region.wanted o (yielded R.toArray a.tmps) = true := by
  by_cases hn : o.guard = none
  · simp [Region.wanted, hn]
  · obtain ⟨j, want, o', d, h1, h2, h3, h4⟩ := wantedA_at hw hn (by simp)
    rw [wanted_iff h1 h2 h3]
    exact (wantV_ok (h.get d)).1 h4
theorem wantedA_no {S : Sg} {fr : List AV} {a : Act} (h : FrR S fr a) {R : List Oper} {o : Oper} (hw : wantedA R fr o = .no) : Region.wanted o (yielded R.toArray a.tmps) = false := by
  by_cases hn : o.guard = none
  · simp [wantedA, hn] at hw
  · obtain ⟨j, want, o', d, h1, h2, h3, h4⟩ := wantedA_at hw hn (by simp)
    rw [Bool.eq_false_iff]
    intro e
    rw [wanted_iff h1 h2 h3] at e
    exact (wantV_ok (h.get d)).2.1 h4 e
theorem wantedA_may {S : Sg} {fr : List AV} {a : Act} (h : FrR S fr a) {R : List Oper} {o : Oper} {g : Unit → Prop} (hw : wantedA R fr o = .may g) : Region.wanted o (yielded R.toArray a.tmps) = true ↔ g () := by
  by_cases hn : o.guard = none
  · simp [wantedA, hn] at hw
  · obtain ⟨j, want, o', d, h1, h2, h3, h4⟩ := wantedA_at hw hn (by simp)
    rw [wanted_iff h1 h2 h3]
    exact (wantV_ok (h.get d)).2.2 g h4

theorem gdObs_ok {g : Unit → Prop} (hg : g ()) : ∀ {os : Obs}, allO (gdObs g os) → allO os
  | [], _ => trivial
  | o :: os, h => by
    simp only [gdObs, allO] at h ⊢
    exact ⟨h.1 hg, gdObs_ok hg h.2⟩

section
variable {G : Gl} {c : Cfg}

/-- A step's op is no deferred call. -/
theorem step1_nodefer {E : Env} {ρ : Operand → AV} {h : List Blk} {n : Nat} {o : Oper} {r : Res} (hs : step1 E ρ h n o = some r) : ∀ c, o.op ≠ .defer c := by
  intro c e
  unfold step1 at hs
  rw [e] at hs
  simp [pop, mop, mop1, mop2, mop3] at hs
theorem wpIn_of_wp {o : Oper} {a : Act} {w : World} {K : Act → World → Prop} {Q : Exit → Act → World → Prop} (hd : ∀ c, o.op ≠ .defer c) (h : o.wp G.P a w K Q) : o.wpIn G.Fe 0 G.P a w K Q := by
  unfold Oper.wpIn
  refine ⟨fun f _ => G.fe_fn f, ?_⟩
  rw [Oper.semAt_eq _ _ _ hd]
  unfold Oper.wp at h
  have hdep : G.Fe.depth.isSome = true → 1 ≤ 0 := by rw [G.fe_depth]; simp
  have hI : ∀ m m', StepsIn (Machine.fenced G.P G.Fe) G.P m m' ↔ Steps G.P m m' := fun m m' => ⟨StepsIn.steps, fun h => (StepsIn.of_steps h).mono fun m _ => G.fenced m⟩
  generalize (execOp a.eval o).run G.P w = r at h ⊢
  cases r with
  | halt x w' => cases x <;> exact h
  | ok x w' =>
    cases x with
    | value v => exact h
    | skip => exact h
    | defer d => exact h
    | enter f args =>
      refine ⟨hdep, G.fe_fn f, fun cs _ => ?_⟩
      obtain ⟨e, w'', fr, h1, h2, h3⟩ := h cs
      refine ⟨e, w'', fr, h1, ?_, h3⟩
      cases e with
      | returned v => exact (hI _ _).2 h2
      | panicked ch => exact (hI _ _).2 h2
      | outgrown => exact h2
    | row row args =>
      refine ⟨hdep, fun c cs _ => ?_⟩
      obtain ⟨v, w'', h1, h2⟩ := h c cs
      exact ⟨v, w'', h1, (hI _ _).2 h2⟩
    | _ => exact h.elim
/-- One operation. -/
theorem op_ok (hE : EnvOk G.P G.E) {S : Sg} {fr fr' : List AV} {h : List Blk} {a : Act} {w : World} (hc : CfgR G.W G.S0 S fr h a w) (hfr : FrR S fr' a) {o : Oper} {r : Res} (hs : step1 G.E (ev fr') h h.length o = some r) (ho : allO r.obs)
    {K : Act → World → Prop} {Q : Exit → Act → World → Prop} (hK : ∀ S' v w', CfgR G.W G.S0 S' (putO fr o.dst r.v) (hsets h r.up) (a.put o.dst v) w' → K (a.put o.dst v) w') : o.wpIn G.Fe 0 G.P a w K Q := by
  refine wpIn_of_wp (step1_nodefer hs) ?_
  unfold step1 at hs
  split at hs
  · rename_i x obs hp
    obtain rfl := Option.some.inj hs
    obtain ⟨v, h1, h2⟩ := pop_ok (w := w) hE.rows hfr.ev hp ho
    unfold Oper.wp
    rw [h1]
    exact hK S v w (hc.next (us := []) (.refl _) (fun _ _ => rfl) (fun _ _ => rfl) hc.rel o.dst h2)
  · split at hs
    · rename_i r' hr'
      obtain rfl := Option.some.inj hs
      exact mop_ok hE hc.rel hfr.ev hr' ho (fun id _ hid => hc.fresh id hid) fun v w' S' h1 h2 h3 h4 h5 => hK S' v w' (hc.next h1 h2 h3 h4 o.dst h5)
    · cases hs

theorem exitK_ok {Fe : Fence} {P : Program} {Fin : Exit → Act → World → Prop} {id : Nat} {a : Act} {w : World} : ∀ {k k' : List It}, exitK id k = some k' → wpK Fe P Fin k' .normal a w → wpK Fe P Fin k (.exit id) a w
  | [], k', he, h => by simp [exitK] at he
  | x :: k, k', he, h => by
    cases x with
    | blk j =>
      simp only [exitK] at he
      simp only [wpK]
      split at he
      · rename_i hj
        obtain rfl := Option.some.inj he
        rw [if_pos hj.symm]; exact h
      · rename_i hj
        rw [if_neg (fun e => hj e.symm)]
        exact exitK_ok he h
    | code c => simp only [exitK] at he; simp only [wpK]; exact exitK_ok he h
    | lp c => simp only [exitK] at he; simp only [wpK]; exact exitK_ok he h
    | lq c => simp only [exitK] at he; simp only [wpK]; exact exitK_ok he h
    | ops R r => simp only [exitK] at he; simp only [wpK]; exact exitK_ok he h
    | beg l => simp only [exitK] at he; simp only [wpK]; exact exitK_ok he h
theorem wpK_ret {Fe : Fence} {P : Program} {Fin : Exit → Act → World → Prop} {a : Act} {w : World} (h : Fin .ret a w) : ∀ k : List It, wpK Fe P Fin k .ret a w
  | [] => h
  | x :: k => by
    have ih := wpK_ret (Fe := Fe) (P := P) h k
    cases x <;> simpa only [wpK] using ih
theorem wpK_goto {Fe : Fence} {P : Program} {Fin : Exit → Act → World → Prop} {l : Nat} (h : ∀ a w, ¬ Fin (.goto l) a w) : ∀ (k : List It) (a : Act) (w : World), ¬ wpK Fe P Fin k (.goto l) a w
  | [], a, w => h a w
  | x :: k, a, w => by
    have ih := wpK_goto (Fe := Fe) (P := P) h k a w
    cases x <;> simpa only [wpK] using ih
theorem wpK_out {Fe : Fence} {P : Program} {Fin : Exit → Act → World → Prop} (h : ∀ a w, ¬ Fin .outgrown a w) : ∀ (k : List It) (a : Act) (w : World), ¬ wpK Fe P Fin k .outgrown a w
  | [], a, w => h a w
  | x :: k, a, w => by
    have ih := wpK_out (Fe := Fe) (P := P) h k a w
    cases x <;> simpa only [wpK] using ih

theorem exitTo_length {id : Nat} : ∀ {k k' : List Item}, exitTo id k = some k' → k'.length < k.length
  | [], k', h => by simp [exitTo] at h
  | x :: k, k', h => by
    have ih : exitTo id k = some k' → k'.length < (x :: k).length := fun h => Nat.lt_succ_of_lt (exitTo_length h)
    cases x <;> simp only [exitTo] at h <;> try exact ih h
    split at h
    · obtain rfl := Option.some.inj h; simp
    · exact ih h

theorem steps_other {I : Machine → Prop} (hI : ∀ m, I m) {P : Program} {m0 m0' m1 m' : Machine} (h0 : Go.step P m0 = .next m1) (h0' : Go.step P m0' = .next m1) (hs : StepsIn I P m0 m') (hne : m' ≠ m0) : StepsIn I P m0' m' := by
  cases hs with
  | refl => exact absurd rfl hne
  | head i0 h1 rest =>
    rw [h0] at h1
    cases h1
    exact .head (hI _) h0' rest
theorem lone_todo {fr fr' : Frame} {cs cs' : List Frame} {w w' : World} (h : lone fr cs w = lone fr' cs' w') : fr = fr' := by
  simp only [lone, Machine.mk.injEq] at h
  have := h.2.1
  simp at this
  exact this.1

theorem wp_loop_unroll {P : Program} {F : Fence} (hI : ∀ m : Machine, m.fenced P F) {c : Code} {Q : Exit → Act → World → Prop} {a : Act} {w : World} (hgo : ∀ l a w, ¬ Q (.goto l) a w) (hout : ∀ a w, ¬ Q .outgrown a w) (h : c.wpIn F 0 P (Exit.then ((Code.loop c).wpIn F 0 P Q) Q) a w) : (Code.loop c).wpIn F 0 P Q a w := by
  intro b k cs hro hb hr
  obtain ⟨e, a₁, w₁, hq, harr⟩ := h b (.inLoop c :: k) cs hro hb hr
  have h1 : StepsIn (Machine.fenced P F) P (lone (b.atR a (.code (.loop c) :: k)) cs w) (lone (b.atR a (.code c :: .inLoop c :: k)) cs w) := .one (hI _) stepR_loop
  cases e with
  | normal =>
    obtain ⟨e₂, a₂, w₂, hq₂, harr₂⟩ := hq b k cs hro hb hr
    refine ⟨e₂, a₂, w₂, hq₂, ?_⟩
    have h2 : Go.step P (lone (b.atR a₁ (.code (.loop c) :: k)) cs w₁) = .next (lone (b.atR a₁ (.code c :: .inLoop c :: k)) cs w₁) := stepR_loop
    have h3 : Go.step P (lone (b.atR a₁ (.inLoop c :: k)) cs w₁) = .next (lone (b.atR a₁ (.code c :: .inLoop c :: k)) cs w₁) := stepR_inLoop
    refine .of_steps (StepsIn.trans h1 harr) ?_
    cases e₂ with
    | normal =>
      refine steps_other hI h2 h3 harr₂ fun e => ?_
      have := congrArg (fun f : Frame => f.todo.length) (lone_todo e)
      simp [Frame.atR] at this
    | exit id =>
      refine ⟨fun k' hk => steps_other hI h2 h3 (harr₂.1 k' hk) fun e => ?_, fun hr' hk => ?_⟩
      · have := congrArg (fun f : Frame => f.todo.length) (lone_todo e)
        simp only [Frame.atR, List.length_cons] at this
        have := exitTo_length hk
        omega
      · obtain ⟨k₁, e1, e2⟩ := harr₂.2 hr' hk
        refine ⟨k₁, e1, steps_other hI h2 h3 e2 fun e => ?_⟩
        have := congrArg (fun f : Frame => f.todo) (lone_todo e)
        simp [Frame.atR] at this
    | goto l => exact absurd hq₂ (hgo _ _ _)
    | ret =>
      refine ⟨fun hr' => ?_, fun hr' => ?_⟩
      · obtain ⟨todo, hs⟩ := harr₂.1 hr'
        refine ⟨todo, steps_other hI h2 h3 hs fun e => ?_⟩
        have := congrArg (fun f : Frame => f.mode) (lone_todo e)
        simp [Frame.atR] at this
      · obtain ⟨k₁, hs⟩ := harr₂.2 hr'
        refine ⟨k₁, steps_other hI h2 h3 hs fun e => ?_⟩
        have := congrArg (fun f : Frame => f.todo) (lone_todo e)
        simp [Frame.atR] at this
    | panic ch =>
      obtain ⟨todo, hs⟩ := harr₂
      refine ⟨todo, steps_other hI h2 h3 hs fun e => ?_⟩
      have := congrArg (fun f : Frame => f.mode) (lone_todo e)
      simp [Frame.atR] at this
    | outgrown => exact absurd hq₂ (hout _ _)
  | exit id => exact ⟨_, a₁, w₁, hq, .of_steps h1 (.pass (x := .inLoop c) rfl (fun _ _ => .inl (by simp)) harr)⟩
  | goto l => exact ⟨_, a₁, w₁, hq, .of_steps h1 (.pass (x := .inLoop c) rfl (fun _ _ => .inl (by simp)) harr)⟩
  | ret => exact ⟨_, a₁, w₁, hq, .of_steps h1 (.pass (x := .inLoop c) rfl (fun _ _ => .inl (by simp)) harr)⟩
  | panic ch => exact ⟨_, a₁, w₁, hq, .of_steps h1 (.pass (x := .inLoop c) rfl (fun _ _ => .inl (by simp)) harr)⟩
  | outgrown => exact absurd hq (hout _ _)

theorem Gl.fin_goto (G : Gl) (l : Nat) (a : Act) (w : World) : ¬ G.Fin (.goto l) a w := by
  unfold Gl.Fin
  split <;> simp [bodyPostM]
theorem Gl.fin_out (G : Gl) (a : Act) (w : World) : ¬ G.Fin .outgrown a w := by
  unfold Gl.Fin
  split
  · simp only [bodyPostM]
    rintro ⟨v, x, h, S, h1, _⟩
    cases h1
  · simp

end
end Go.Sx
