/- A reckoner of Go code over told values: how proofs are typed. -/
import Derived.Test.YtfnjijnaogbgmaaSx20
namespace Go.Sx
set_option linter.unusedVariables false
open Go Go.RowKit

theorem AMO.of {G : Gl} {c : Cfg} {obs : Obs} (h1 : allO obs) (h2 : AM G c) : AMO G (c, obs) := ⟨h1, h2⟩

/-- A frame in which a few slots are told. -/
def frame (n : Nat) (l : List (Nat × AV)) : List AV := fsets (anys n) l
where fsets (fr : List AV) : List (Nat × AV) → List AV
  | [] => fr
  | (t, v) :: l => fsets (put fr t v) l

/-- A loop that is told by a family of states, with what holds of each. -/
theorem AM.loopI {G : Gl} {ι : Type} (C : ι → List AV × List Blk) (I : ι → Prop) (μ : ι → Nat) {b : Code} {k : List It} {fr : List AV} {h : List Blk} (i : ι) (hi : I i)
    (hf : imps fr (C i).1) (hh : himps h (C i).2)
    (round : ∀ i, I i → (∀ j, I j → μ j < μ i → AM G ⟨(C j).1, (C j).2, .lq b :: k⟩) → AM G ⟨(C i).1, (C i).2, .code b :: .lq b :: k⟩) : AM G ⟨fr, h, .code (.loop b) :: k⟩ :=
  AM.imp hf hh (AM.loop (ι := { i // I i }) (fun i => C i.1) (fun i => μ i.1) b k (fun i ih => round i.1 i.2 fun j hj hlt => ih ⟨j, hj⟩ hlt) ⟨i, hi⟩)

theorem w64 {n : Int} (h1 : -9223372036854775808 ≤ n) (h2 : n ≤ 9223372036854775807) : IntKind.i64.wrap n = n := by
  rw [IntKind.wrap_i64]
  omega
theorem ncast (n : Nat) : @NatCast.natCast Int instNatCastInt n = (n : Int) := rfl
theorem dropD {α : Type} {l : List α} {i : Nat} (h : i < l.length) (d : α) : l.drop i = l.getD i d :: l.drop (i + 1) := by
  rw [List.drop_eq_getElem_cons h, List.getD_eq_getElem?_getD, List.getElem?_eq_getElem h, Option.getD_some]
theorem w64s {i : Nat} (h : i < 4611686018427387904) : IntKind.i64.wrap ((i : Int) + 1) = ((i + 1 : Nat) : Int) := by
  rw [w64 (by omega) (by omega)]; rfl
theorem eqI_t (x y : Int) : (eqI x y = true) = (x = y) := by simp [eqI]
theorem eqI_f (x y : Int) : (eqI x y = false) = ¬ x = y := by simp [eqI]
theorem neI_t (x y : Int) : (neI x y = true) = ¬ x = y := by simp [neI]
theorem neI_f (x y : Int) : (neI x y = false) = (x = y) := by simp [neI]
theorem ltI_t (x y : Int) : (ltI x y = true) = (x < y) := by simp [ltI]
theorem ltI_f (x y : Int) : (ltI x y = false) = ¬ x < y := by simp [ltI]
theorem leI_t (x y : Int) : (leI x y = true) = (x ≤ y) := by simp [leI]
theorem leI_f (x y : Int) : (leI x y = false) = ¬ x ≤ y := by simp [leI]
theorem eqBo_t (x y : Bool) : (eqBo x y = true) = (x = y) := by simp [eqBo]
theorem eqBo_f (x y : Bool) : (eqBo x y = false) = ¬ x = y := by simp [eqBo]
theorem eqS_t (x y : ByteArray) : (eqS x y = true) = (x.toList = y.toList) := by simp [eqS]
theorem eqS_f (x y : ByteArray) : (eqS x y = false) = ¬ x.toList = y.toList := by simp [eqS]
theorem AM.run2 {P : Program} {G : Gl} {E : Env} {rs : List ResultVar} (hG : GOk P G E rs) (n : Nat) {c c' : Cfg} {obs : Obs} (he : Sx.run E n c [] = (c', obs)) (h1 : allO obs) (h2 : AM G c') : AM G c :=
  AM.run hG n (by rw [he]; exact ⟨h1, h2⟩)
theorem AM.ret2 {P : Program} {G : Gl} {E : Env} {rs : List ResultVar} (hG : GOk P G E rs) {fr : List AV} {h : List Blk} {k : List It} {vs : List AV} {o : Obs} (he : resA E fr h rs = some (vs, o)) (ho : allO o) (hq : G.Q (oneOf vs) h) (hn : isRound rs = false := by rfl) : AM G ⟨fr, h, .code .ret :: k⟩ :=
  AM.ret hG (by rw [he]; exact AMQ.mk' ho hq) hn
theorem AM.imp2 {G : Gl} {fr fr' : List AV} {h h' : List Blk} {k : List It} {p q : Prop} (hf : Sx.imps fr fr' = p) (hh : Sx.himps h h' = q) (hp : p) (hq : q) (h1 : AM G ⟨fr', h', k⟩) : AM G ⟨fr, h, k⟩ :=
  AM.imp (hf ▸ hp) (hh ▸ hq) h1
theorem FinRo.of {v x : AV} {h : List Blk} {p q : Prop} (hp : AO (slObss h (partsT x)) = p) (hq : Sx.imp (viewT h x) v = q) (h1 : p) (h2 : q) : FinRo v x h := ⟨hp ▸ h1, hq ▸ h2⟩
/-- A run that stands ahead of the operation that fills slot d. -/
def atD (d : Nat) (k : List It) : Bool :=
  match k with
  | .ops _ (o :: _) :: _ => (match o.dst with | some x => x == d | none => false)
  | _ => false
def runTo (E : Env) (d : Nat) : Nat → Cfg → Obs → Cfg × Obs
  | 0, c, obs => (c, obs)
  | n + 1, c, obs =>
    match atD d c.k with
    | true => (c, obs)
    | false =>
      match step E c with
      | some (c', o) => runTo E d n c' (o ++ obs)
      | none => (c, obs)
theorem runTo_ok {G : Gl} (hE : EnvOk G.P G.E) (d : Nat) : ∀ (n : Nat) (c : Cfg) (obs : Obs), allO (runTo G.E d n c obs).2 → AM G (runTo G.E d n c obs).1 → allO obs ∧ AM G c
  | 0, c, obs, ho, h => ⟨ho, h⟩
  | n + 1, c, obs, ho, h => by
    unfold runTo at ho h
    cases hd : atD d c.k with
    | true => simp only [hd] at ho h; exact ⟨ho, h⟩
    | false =>
      simp only [hd] at ho h
      cases hs : step G.E c with
      | none =>
        simp only [hs] at ho h
        exact ⟨ho, h⟩
      | some r =>
        obtain ⟨c', o⟩ := r
        simp only [hs] at ho h
        obtain ⟨h1, h2⟩ := runTo_ok hE d n c' (o ++ obs) ho h
        rw [allO_append] at h1
        exact ⟨h1.2, step_ok hE hs h1.1 h2⟩
theorem AM.runTo {P : Program} {G : Gl} {E : Env} {rs : List ResultVar} (hG : GOk P G E rs) (d n : Nat) {c : Cfg} (h : AMO G (Sx.runTo E d n c [])) : AM G c := by
  have he := hG.e
  subst he
  exact (runTo_ok hG.ok d n c [] h.obs h.am).2
theorem AM.runTo2 {P : Program} {G : Gl} {E : Env} {rs : List ResultVar} (hG : GOk P G E rs) (d n : Nat) {c c' : Cfg} {obs : Obs} (he : Sx.runTo E d n c [] = (c', obs)) (h1 : allO obs) (h2 : AM G c') : AM G c :=
  AM.runTo hG d n (by rw [he]; exact ⟨h1, h2⟩)
/-- All that makes the reckoner's words plain, as one. -/
theorem sxs : (allO [] = True) ∧ (∀ (o : Unit → Prop) (os : Obs), allO (o :: os) = (o () ∧ allO os)) ∧ (∀ f, (SI.t f).d = f ()) ∧ (∀ n, (SI.l n).d = n) ∧ (∀ f, (SB.t f).d = f ()) ∧ (∀ n, (SB.l n).d = n) ∧
    (∀ f, (SN.t f).d = f ()) ∧ (∀ n, (SN.l n).d = n) ∧ (∀ a : SI, a.toN.d = a.d.toNat) ∧ (∀ a : SN, a.toI.d = (a.d : Int)) ∧ (∀ a b : SN, (SN.add a b).d = a.d + b.d) ∧ (∀ a b : SN, (SN.sub a b).d = a.d - b.d) ∧
    (∀ f a, (SI.map f a).d = f a.d) ∧ (∀ f a b, (SI.map2 f a b).d = f a.d b.d) ∧ (∀ f a b, (SI.cmp2 f a b).d = f a.d b.d) ∧ (∀ f a, (SB.map f a).d = f a.d) ∧ (∀ f a b, (SB.map2 f a b).d = f a.d b.d) ∧
    (∀ {α : Type} (a b : Unit → α), Eqq a b ↔ a () = b ()) ∧ (∀ a b, Impq a b ↔ (a () → b ())) ∧ (∀ o, AO o ↔ allO o) ∧
    (∀ x y, (eqI x y = true) = (x = y)) ∧ (∀ x y, (eqI x y = false) = ¬ x = y) ∧ (∀ x y, (neI x y = true) = ¬ x = y) ∧ (∀ x y, (neI x y = false) = (x = y)) ∧ (∀ x y, (ltI x y = true) = (x < y)) ∧ (∀ x y, (ltI x y = false) = ¬ x < y) ∧
    (∀ x y, (leI x y = true) = (x ≤ y)) ∧ (∀ x y, (leI x y = false) = ¬ x ≤ y) ∧ (∀ x y, (eqBo x y = true) = (x = y)) ∧ (∀ x y, (eqBo x y = false) = ¬ x = y) ∧ (∀ x y, (eqS x y = true) = (x.toList = y.toList)) ∧ (∀ x y, (eqS x y = false) = ¬ x.toList = y.toList) ∧
    (∀ i n u, inB i n u = (0 ≤ i.d ∧ i.d < nI n.d)) ∧ (∀ k, Kd.z (.int k) = (0 : Int)) ∧ (∀ n, nI n = (n : Int)) ∧ (∀ n : Nat, @NatCast.natCast Int instNatCastInt n = (n : Int)) := by
  refine ⟨rfl, fun _ _ => rfl, fun _ => rfl, fun _ => rfl, fun _ => rfl, fun _ => rfl, fun _ => rfl, fun _ => rfl, SI.d_toN, SN.d_toI, SN.d_add, SN.d_sub, SI.d_map, SI.d_map2, SI.d_cmp2, SB.d_map, SB.d_map2, fun _ _ => eqq_iff, fun _ _ => impq_iff, fun _ => ao_iff,
    eqI_t, eqI_f, neI_t, neI_f, ltI_t, ltI_f, leI_t, leI_f, eqBo_t, eqBo_f, eqS_t, eqS_f, fun _ _ _ => rfl, fun _ => rfl, fun _ => rfl, fun _ => rfl⟩
theorem sxb : (∀ b, ((!b) = true) = (b = false)) ∧ (∀ b, ((!b) = false) = (b = true)) ∧ (∀ {α β : Type} (f : α → β), List.map f [] = []) ∧ (∀ {α β : Type} (f : α → β) a l, List.map f (a :: l) = f a :: List.map f l) ∧ (∀ {α : Type}, ([] : List α).length = 0) ∧ (∀ {α : Type} (a : α) l, (a :: l).length = l.length + 1) ∧ (∀ {α : Type} (l : List α), [] ++ l = l) ∧ (∀ {α : Type} (l : List α), l.drop 0 = l) ∧
    (∀ (p : Prop) [h : Decidable p] (b : Bool), (if p then true else b) = (decide p || b)) ∧ (∀ (p : Prop) [h : Decidable p] (b : Bool), (if p then b else false) = (decide p && b)) ∧ (∀ (p : Prop) [h : Decidable p] (b : Bool), (if p then b else true) = (!decide p || b)) ∧ (∀ (p : Prop) [h : Decidable p] (b : Bool), (if p then false else b) = (!decide p && b)) ∧
    (∀ a b : Bool, ((a || b) = true) = (a = true ∨ b = true)) ∧ (∀ a b : Bool, ((a && b) = true) = (a = true ∧ b = true)) ∧ (∀ a b : Bool, ((a || b) = false) = (a = false ∧ b = false)) ∧ (∀ a b : Bool, ((a && b) = false) = (a = true → b = false)) ∧
    (Int.ofNat 0 = (0 : Int)) ∧ (∀ fs, Kd.z (.struct fs) = Kds.z fs) ∧ (Kds.z [] = ()) ∧ (∀ k ks, Kds.z (k :: ks) = (k.z, Kds.z ks)) := by
  refine ⟨by simp, by simp, by simp, by simp, by simp, by simp, by simp, by simp, ?_, ?_, ?_, ?_, by simp, by simp, by simp, by simp, rfl, fun _ => rfl, rfl, fun _ _ => rfl⟩ <;> intro p h b <;> by_cases hp : p <;> simp [hp]
end Go.Sx
