/- Part 6 of RingChanges: what the functions reckon, step by step, and plain laws. No condition. -/
import Derived.Test.YtoekmdcldfmmcaaKRingChangesx5
set_option linter.unusedVariables false
set_option linter.unusedSimpArgs false
section
namespace Go.Proofs.Ytoekmdcldfmmcaa.F
open Go.RowKit Go.Proofs.YtoekmdcldfmmcaaW.PrintWords Go.Proofs.YtoekmdcldfmmcaaW.PrintLast Go.Proofs.YtoekmdcldfmmcaaW.PrintMore
set_option linter.unusedVariables false
set_option linter.unusedSimpArgs false
/-- Cells of type t that read as data hold a value of the kind d, which is well formed (Wf). -/
def Opens {α : Type} (P : Program) (t : TypeId) (d : Kd α) (Wf : α → Prop) : Prop :=
  P.cellsOf t = d.sz ∧ ∀ {H : Type} (enc : TypeId × Value → H) (w : World) (sp : Nat → Bool) (held : Bool) (fuel : Nat) (cs : List Value) (x : DataW H × List MemPlace),
    DataW.trod enc P w 0 sp held fuel t cs = some x → ∃ y : α, d.K w y cs ∧ Wf y
end Go.Proofs.Ytoekmdcldfmmcaa.F
end
section
namespace Go.Proofs.Ytoekmdcldfmmcaa.F
open Go.RowKit Go.Proofs.YtoekmdcldfmmcaaW.PrintWords Go.Proofs.YtoekmdcldfmmcaaW.PrintLast Go.Proofs.YtoekmdcldfmmcaaW.PrintMore
set_option linter.unusedVariables false
set_option linter.unusedSimpArgs false
theorem opens_int {P : Program} {t : TypeId} {k : IntKind} (ht : P.underlying t = some (.int k)) (hc : P.cellsOf t = 1) : Opens P t (Kd.int k) (fun n => (Lit.int k n).wf = true) := by
  refine ⟨hc, fun enc w sp held fuel cs x h => ?_⟩
  cases fuel with
  | zero => simp [DataW.trod] at h
  | succ n =>
    unfold DataW.trod at h
    rw [ht] at h
    split at h <;> simp_all
    exact ⟨_, rfl, h.1.2⟩
end Go.Proofs.Ytoekmdcldfmmcaa.F
end
section
namespace Go.Proofs.Ytoekmdcldfmmcaa.F
open Go.RowKit Go.Proofs.YtoekmdcldfmmcaaW.PrintWords Go.Proofs.YtoekmdcldfmmcaaW.PrintLast Go.Proofs.YtoekmdcldfmmcaaW.PrintMore
set_option linter.unusedVariables false
set_option linter.unusedSimpArgs false
theorem opens_slice {α : Type} {P : Program} {t e : TypeId} {d : Kd α} {Wf : α → Prop} (ht : P.underlying t = some (.slice e)) (hc : P.cellsOf t = 1) (hd : Opens P e d Wf) : Opens P t (Kd.slice e d) (fun l => ∀ y ∈ l, Wf y) := by
  refine ⟨hc, fun enc w sp held fuel cs x h => ?_⟩
  rcases DataW.trod_slice ht h with ⟨rfl, _⟩ | ⟨a, len, cap, elems, rest, n, rfl, rfl, _, _, hle, hcap, hel, he, _, _⟩
  · exact ⟨[], ⟨none, 0, rfl, Nat.le_refl _, rfl, by simp, fun h => by simp at h⟩, fun _ h => (List.not_mem_nil h).elim⟩
  · have hone : ∀ i : Fin len, ∃ y : α, (∃ c, c.length = d.sz ∧ d.K w y c ∧ ∀ j u, c[j]? = some u → w.cell? (a.add (i.1 * d.sz + j)) = some u) ∧ Wf y := by
      intro i
      have h1 := he i.1 i.2
      have h2 : i.1 < elems.length := by rw [hel]; exact i.2
      rw [List.getElem?_eq_getElem h2] at h1
      obtain ⟨c, hc1, hc2⟩ := Option.bind_eq_some_iff.mp h1
      obtain ⟨y, hy, hw⟩ := hd.2 enc w sp held n c _ hc2
      rw [hd.1] at hc1
      have h3 := World.cells?_some hc1
      refine ⟨y, ⟨c, d.K_len hy, hy, fun j u hu => ?_⟩, hw⟩
      have hj := (List.getElem?_eq_some_iff.1 hu).1
      have h4 := h3.2.2 j (by rw [← h3.2.1]; exact hj)
      rw [hu] at h4
      rw [Addr.add_add] at h4
      exact h4
    refine ⟨List.ofFn (fun i : Fin len => Classical.choose (hone i)), ⟨some a, cap, by simp, by simpa using hle, by simp, by simp only [maxLen] at hcap; simp; omega, fun _ => ⟨a, rfl, fun j p hp => ?_⟩⟩, fun y hy => ?_⟩
    · obtain ⟨hj, e⟩ := List.getElem?_eq_some_iff.1 hp
      rw [List.getElem_ofFn] at e
      subst e
      exact (Classical.choose_spec (hone ⟨j, by simpa using hj⟩)).1
    · rw [List.mem_ofFn] at hy
      obtain ⟨i, rfl⟩ := hy
      exact (Classical.choose_spec (hone i)).2
end Go.Proofs.Ytoekmdcldfmmcaa.F
end
section
namespace Go.Proofs.Ytoekmdcldfmmcaa.F
open Go.RowKit Go.Proofs.YtoekmdcldfmmcaaW.PrintWords Go.Proofs.YtoekmdcldfmmcaaW.PrintLast Go.Proofs.YtoekmdcldfmmcaaW.PrintMore
set_option linter.unusedVariables false
set_option linter.unusedSimpArgs false
/-- Fields from off on. -/
def OpensFs {α : Type} (P : Program) (fs : List Field) (off : Nat) (d : Kd α) (Wf : α → Prop) : Prop :=
  ∀ (H : Type) (enc : TypeId × Value → H) (w : World) (sp : Nat → Bool) (held : Bool) (fuel : Nat) (cs : List Value),
    (∀ f ∈ fs, ∃ x, DataW.trod enc P w 0 sp held fuel f.type ((cs.drop f.offset).take (P.cellsOf f.type)) = some x) → cs.length = off + d.sz → ∃ y : α, d.K w y (cs.drop off) ∧ Wf y
end Go.Proofs.Ytoekmdcldfmmcaa.F
end
section
namespace Go.Proofs.Ytoekmdcldfmmcaa.F
open Go.RowKit Go.Proofs.YtoekmdcldfmmcaaW.PrintWords Go.Proofs.YtoekmdcldfmmcaaW.PrintLast Go.Proofs.YtoekmdcldfmmcaaW.PrintMore
set_option linter.unusedVariables false
set_option linter.unusedSimpArgs false
theorem opensFs_one {α : Type} {P : Program} {f : Field} {off : Nat} {d : Kd α} {Wf : α → Prop} (ho : f.offset = off) (hd : Opens P f.type d Wf) : OpensFs P [f] off d Wf := by
  subst ho
  intro H enc w sp held fuel cs hf hl
  obtain ⟨x, hx⟩ := hf f List.mem_cons_self
  rw [List.take_of_length_le (by rw [List.length_drop, hd.1]; omega)] at hx
  exact hd.2 enc w sp held fuel _ x hx
end Go.Proofs.Ytoekmdcldfmmcaa.F
end
section
namespace Go.Proofs.Ytoekmdcldfmmcaa.F
open Go.RowKit Go.Proofs.YtoekmdcldfmmcaaW.PrintWords Go.Proofs.YtoekmdcldfmmcaaW.PrintLast Go.Proofs.YtoekmdcldfmmcaaW.PrintMore
set_option linter.unusedVariables false
set_option linter.unusedSimpArgs false
theorem opensFs_cons {α β : Type} {P : Program} {f : Field} {fs : List Field} {off : Nat} {d : Kd α} {d1 : Kd β} {W0 : α → Prop} {W1 : β → Prop} (ho : f.offset = off) (hd : Opens P f.type d W0) (hs : OpensFs P fs (off + d.sz) d1 W1) :
    OpensFs P (f :: fs) off (Kd.pair d d1) (fun y => W0 y.1 ∧ W1 y.2) := by
  subst ho
  intro H enc w sp held fuel cs hf hl
  obtain ⟨x, hx⟩ := hf f List.mem_cons_self
  rw [hd.1] at hx
  obtain ⟨y, hy, hw⟩ := hd.2 enc w sp held fuel _ x hx
  obtain ⟨z, hz, hw'⟩ := hs H enc w sp held fuel cs (fun g hg => hf g (List.mem_cons_of_mem _ hg)) (by rw [hl]; exact (Nat.add_assoc _ _ _).symm)
  refine ⟨(y, z), ⟨_, _, ?_, hy, hz⟩, hw, hw'⟩
  rw [← List.drop_drop]
  exact (List.take_append_drop d.sz _).symm
end Go.Proofs.Ytoekmdcldfmmcaa.F
end
section
namespace Go.Proofs.Ytoekmdcldfmmcaa.F
open Go.RowKit Go.Proofs.YtoekmdcldfmmcaaW.PrintWords Go.Proofs.YtoekmdcldfmmcaaW.PrintLast Go.Proofs.YtoekmdcldfmmcaaW.PrintMore
set_option linter.unusedVariables false
set_option linter.unusedSimpArgs false
theorem opens_struct {α β : Type} {P : Program} {t : TypeId} {fs : Array Field} {d : Kd α} {Wf : α → Prop} (f : β → α) (g : α → β) (hfg : ∀ y, f (g y) = y) (ht : P.underlying t = some (.struct fs)) (hc : P.cellsOf t = d.sz)
    (hs : OpensFs P fs.toList 0 d Wf) : Opens P t (Kd.iso d f) (fun x => Wf (f x)) := by
  refine ⟨hc, fun {H} enc w sp held fuel cs x h => ?_⟩
  obtain ⟨xs, n, rfl, _, hl, hxl, hx⟩ := DataW.trod_struct ht h
  have hq : ∀ q ∈ fs.toList, ∃ x, DataW.trod enc P w 0 sp held n q.type ((cs.drop q.offset).take (P.cellsOf q.type)) = some x := by
    intro q hq
    obtain ⟨i, hi, e⟩ := List.getElem_of_mem hq
    have hi' : i < fs.size := by simpa using hi
    have h1 := hx i q (by rw [Array.getElem?_eq_getElem hi']; exact congrArg some (by simpa using e))
    rw [List.getElem?_eq_getElem (by rw [hxl]; exact hi')] at h1
    exact ⟨_, h1⟩
  obtain ⟨y, hy, hw⟩ := hs H enc w sp held n cs hq (by rw [hl, hc, Nat.zero_add])
  refine ⟨g y, ?_, ?_⟩
  · show d.K w (f (g y)) cs
    rw [hfg]; exact hy
  · show Wf (f (g y))
    rw [hfg]; exact hw
end Go.Proofs.Ytoekmdcldfmmcaa.F
end
section
namespace Go.Proofs.Ytoekmdcldfmmcaa.F
open Go.RowKit Go.Proofs.YtoekmdcldfmmcaaW.PrintWords Go.Proofs.YtoekmdcldfmmcaaW.PrintLast Go.Proofs.YtoekmdcldfmmcaaW.PrintMore
set_option linter.unusedVariables false
set_option linter.unusedSimpArgs false
/-- A value that is one argument, opened. -/
theorem Opens.arg {α : Type} {P : Program} {t : TypeId} {d : Kd α} {Wf : α → Prop} (h : Opens P t d Wf) {H : Type} {enc : TypeId × Value → H} {w : World} {sp : Nat → Bool} {held : Bool} {v : Value} {D : DataW H} {ps : List MemPlace}
    (ht : DataW.Trod enc P w 0 sp held t v D ps) : ∃ y : α, d.K w y v.cells.toList ∧ Wf y := by
  obtain ⟨fuel, hf⟩ := ht
  exact h.2 enc w sp held fuel _ _ hf
end Go.Proofs.Ytoekmdcldfmmcaa.F
end
section
/- Written by fork.py: what the row of RingChanges tells of its arguments. -/
namespace Go.Proofs.Ytoekmdcldfmmcaa.ringChanges
open Go.RowKit
def Wf35 (x : F.S35) : Prop := (Lit.int .u64 x.f0).wf = true ∧ (Lit.int .i64 x.f1).wf = true
def Wf25 (x : F.S25) : Prop := (Lit.int .i64 x.f0).wf = true ∧ (Lit.int .u64 x.f1).wf = true ∧ (∀ y ∈ x.f2, Wf35 y)
/-- The plain law of RingChanges. -/
def Law : Prop := ∀ (y0 : F.S25) (y1 : Int) (y2 : Int) (y3 : List Int), Wf25 y0 → (Lit.int .i64 y1).wf = true → (Lit.int .u64 y2).wf = true → (∀ y ∈ y3, (Lit.int .i64 y).wf = true) → ∃ k, F.L05_RingChanges.f k y0.f0 y0.f1 y0.f2 y1 y2 y3 = some true
end Go.Proofs.Ytoekmdcldfmmcaa.ringChanges
end
section
namespace Go.Proofs.Ytoekmdcldfmmcaa.Pure
open Go.RowKit Go.Proofs.Ytoekmdcldfmmcaa.F Go.Proofs.YtoekmdcldfmmcaaW.PrintWords Go.Proofs.YtoekmdcldfmmcaaW.PrintLast
set_option linter.unusedVariables false
set_option linter.unusedSimpArgs false
theorem rdi {l : List Int} {i : Nat} (h : i < l.length) : rd l (i : Int) = l[i] := by simp [rd, rdOf, List.getD_eq_getElem?_getD, List.getElem?_eq_getElem h]
end Go.Proofs.Ytoekmdcldfmmcaa.Pure
end
section
namespace Go.Proofs.Ytoekmdcldfmmcaa.Pure
open Go.RowKit Go.Proofs.Ytoekmdcldfmmcaa.F Go.Proofs.YtoekmdcldfmmcaaW.PrintWords Go.Proofs.YtoekmdcldfmmcaaW.PrintLast
set_option linter.unusedVariables false
set_option linter.unusedSimpArgs false
theorem rchkl (nx a0 : Int) (l : List S35) (hl : l.length ≤ 32) : ∀ (m k i : Nat), m = l.length - i → i ≤ l.length → 2 * m + 1 ≤ k → R05_Check.l0 k (i : Int) a0 nx l = some (ckFrom nx (pvOf l i) i (l.drop i)) := by
  intro m
  induction m with
  | zero =>
    intro k i hm hi hk
    obtain ⟨k, rfl⟩ : ∃ k', k = k' + 1 := ⟨k - 1, by omega⟩
    obtain rfl : i = l.length := by omega
    simp only [R05_Check.l0]
    rw [if_neg (by omega), List.drop_length]
    rfl
  | succ m ih =>
    intro k i hm hi hk
    obtain ⟨k, rfl⟩ : ∃ k', k = k' + 2 := ⟨k - 2, by omega⟩
    have hlt : i < l.length := by omega
    rw [List.drop_eq_getElem_cons hlt, ← rdg hlt]
    simp only [R05_Check.l0, ckFrom]
    rw [if_pos (by omega), if_pos (by omega)]
    have hnx := ih k (i + 1) (by omega) (by omega) (by omega)
    have hpv : pvOf l (i + 1) = (rd_T35 l (i : Int)).f0 := by unfold pvOf; rw [if_neg (by omega)]; rfl
    rw [hpv] at hnx
    by_cases c1 : (rd_T35 l (i : Int)).f0 < 1
    · rw [if_pos c1, if_pos (Or.inl c1)]
      simp only [R05_Check.j2]
      rfl
    · rw [if_neg c1]
      by_cases c2 : (rd_T35 l (i : Int)).f0 ≥ nx
      · rw [if_pos (Or.inr c2), decide_eq_true c2]
        simp only [R05_Check.j2]
        rfl
      · rw [if_neg (show ¬ ((rd_T35 l (i : Int)).f0 < 1 ∨ (rd_T35 l (i : Int)).f0 ≥ nx) by omega), decide_eq_false c2]
        simp only [R05_Check.j2]
        rw [if_neg (by decide)]
        rw [w_next (by omega), hnx]
        by_cases c3 : i = 0
        · subst c3
          rw [if_neg (by omega), if_neg (show ¬ (rd_T35 l ((0 : Nat) : Int)).f0 ≤ pvOf l 0 by unfold pvOf; simp only [↓reduceIte]; omega)]
        · rw [if_pos (by omega), w_prev (by omega) (by omega), if_pos (by omega), if_pos (by omega), if_pos (by omega), if_pos (by omega)]
          have hp : pvOf l i = (rd_T35 l ((i - 1 : Nat) : Int)).f0 := by unfold pvOf; rw [if_neg c3]
          rw [hp]
          by_cases c4 : (rd_T35 l (i : Int)).f0 ≤ (rd_T35 l ((i - 1 : Nat) : Int)).f0
          · rw [if_pos c4, if_pos c4]
          · rw [if_neg c4, if_neg c4]
end Go.Proofs.Ytoekmdcldfmmcaa.Pure
end
section
namespace Go.Proofs.Ytoekmdcldfmmcaa.Pure
open Go.RowKit Go.Proofs.Ytoekmdcldfmmcaa.F Go.Proofs.YtoekmdcldfmmcaaW.PrintWords Go.Proofs.YtoekmdcldfmmcaaW.PrintLast
set_option linter.unusedVariables false
set_option linter.unusedSimpArgs false
theorem rchk (k : Nat) (hk : 100 ≤ k) (a0 a1 : Int) (l : List S35) : R05_Check.f k a0 a1 l = some (ckS a0 a1 l) := by
  have hT : R05_Check.j0 k true a0 a1 l = some (2, 0) := by
    obtain ⟨k, rfl⟩ : ∃ k', k = k' + 1 := ⟨k - 1, by omega⟩
    simp [R05_Check.j0]
  unfold R05_Check.f ckS
  by_cases c1 : a0 < 1
  · rw [if_pos c1, if_pos (Or.inl c1), hT]
  · rw [if_neg c1]
    by_cases c2 : a0 > 32
    · rw [if_pos c2, if_pos (Or.inr (Or.inl c2)), hT]
    · rw [if_neg c2]
      by_cases c3 : a1 < 1
      · rw [if_pos c3, if_pos (Or.inr (Or.inr (Or.inl c3))), hT]
      · rw [if_neg c3]
        by_cases c4 : a1 > 1099511627777
        · rw [decide_eq_true c4, if_pos (Or.inr (Or.inr (Or.inr c4))), hT]
        · rw [decide_eq_false c4, if_neg (show ¬ (a0 < 1 ∨ a0 > 32 ∨ a1 < 1 ∨ a1 > 1099511627777) by omega)]
          obtain ⟨k, rfl⟩ : ∃ k', k = k' + 1 := ⟨k - 1, by omega⟩
          simp only [R05_Check.j0]
          rw [if_neg (by decide)]
          by_cases c5 : (l.length : Int) > a0
          · rw [if_pos c5, if_pos c5]
          · rw [if_neg c5, if_neg c5]
            exact rchkl a1 a0 l (by omega) l.length k 0 rfl (Nat.zero_le _) (by omega)
end Go.Proofs.Ytoekmdcldfmmcaa.Pure
end
section
namespace Go.Proofs.Ytoekmdcldfmmcaa.Pure
open Go.RowKit Go.Proofs.Ytoekmdcldfmmcaa.F Go.Proofs.YtoekmdcldfmmcaaW.PrintWords Go.Proofs.YtoekmdcldfmmcaaW.PrintLast
set_option linter.unusedVariables false
set_option linter.unusedSimpArgs false
/-- Where the first element from i on lies that p takes. -/
def fnd (p : S35 → Bool) (l : List S35) (i : Nat) : Nat := i + (l.drop i).findIdx p
end Go.Proofs.Ytoekmdcldfmmcaa.Pure
end
section
namespace Go.Proofs.Ytoekmdcldfmmcaa.Pure
open Go.RowKit Go.Proofs.Ytoekmdcldfmmcaa.F Go.Proofs.YtoekmdcldfmmcaaW.PrintWords Go.Proofs.YtoekmdcldfmmcaaW.PrintLast
set_option linter.unusedVariables false
set_option linter.unusedSimpArgs false
theorem fnd_here {p : S35 → Bool} {l : List S35} {i : Nat} (h : i < l.length) (hp : p (rd_T35 l (i : Int)) = true) : fnd p l i = i := by
  unfold fnd
  rw [List.drop_eq_getElem_cons h, ← rdg h, List.findIdx_cons, hp]
  rfl
end Go.Proofs.Ytoekmdcldfmmcaa.Pure
end
section
namespace Go.Proofs.Ytoekmdcldfmmcaa.Pure
open Go.RowKit Go.Proofs.Ytoekmdcldfmmcaa.F Go.Proofs.YtoekmdcldfmmcaaW.PrintWords Go.Proofs.YtoekmdcldfmmcaaW.PrintLast
set_option linter.unusedVariables false
set_option linter.unusedSimpArgs false
theorem fnd_next {p : S35 → Bool} {l : List S35} {i : Nat} (h : i < l.length) (hp : p (rd_T35 l (i : Int)) = false) : fnd p l i = fnd p l (i + 1) := by
  unfold fnd
  rw [List.drop_eq_getElem_cons h, ← rdg h, List.findIdx_cons, hp]
  simp only [cond_false]
  omega
end Go.Proofs.Ytoekmdcldfmmcaa.Pure
end
section
namespace Go.Proofs.Ytoekmdcldfmmcaa.Pure
open Go.RowKit Go.Proofs.Ytoekmdcldfmmcaa.F Go.Proofs.YtoekmdcldfmmcaaW.PrintWords Go.Proofs.YtoekmdcldfmmcaaW.PrintLast
set_option linter.unusedVariables false
set_option linter.unusedSimpArgs false
theorem fnd_end {p : S35 → Bool} {l : List S35} : fnd p l l.length = l.length := by
  unfold fnd
  simp
end Go.Proofs.Ytoekmdcldfmmcaa.Pure
end
section
namespace Go.Proofs.Ytoekmdcldfmmcaa.Pure
open Go.RowKit Go.Proofs.Ytoekmdcldfmmcaa.F Go.Proofs.YtoekmdcldfmmcaaW.PrintWords Go.Proofs.YtoekmdcldfmmcaaW.PrintLast
set_option linter.unusedVariables false
set_option linter.unusedSimpArgs false
theorem fnd_zero {p : S35 → Bool} {l : List S35} : fnd p l 0 = l.findIdx p := by
  unfold fnd
  simp
end Go.Proofs.Ytoekmdcldfmmcaa.Pure
end
section
namespace Go.Proofs.Ytoekmdcldfmmcaa.Pure
open Go.RowKit Go.Proofs.Ytoekmdcldfmmcaa.F Go.Proofs.YtoekmdcldfmmcaaW.PrintWords Go.Proofs.YtoekmdcldfmmcaaW.PrintLast
set_option linter.unusedVariables false
set_option linter.unusedSimpArgs false
theorem rfindl (n a0 a1 : Int) (l : List S35) (hl : l.length ≤ 64) : ∀ (m k i : Nat), m = l.length - i → i ≤ l.length → m + 1 ≤ k → R05_Find.l0 k n (i : Int) a0 a1 l = some (if fnd (fun x => x.f0 == n) l i < l.length then (((fnd (fun x => x.f0 == n) l i : Nat) : Int), 0) else (0, 6)) := by
  intro m
  induction m with
  | zero =>
    intro k i hm hi hk
    obtain ⟨k, rfl⟩ : ∃ k', k = k' + 1 := ⟨k - 1, by omega⟩
    obtain rfl : i = l.length := by omega
    simp only [R05_Find.l0]
    rw [if_neg (by omega), fnd_end, if_neg (by omega)]
  | succ m ih =>
    intro k i hm hi hk
    obtain ⟨k, rfl⟩ : ∃ k', k = k' + 1 := ⟨k - 1, by omega⟩
    have hlt : i < l.length := by omega
    simp only [R05_Find.l0]
    rw [if_pos (by omega), if_pos (by omega)]
    by_cases c : (rd_T35 l (i : Int)).f0 = n
    · rw [if_pos c, fnd_here (p := fun x => x.f0 == n) hlt (beq_iff_eq.mpr c), if_pos hlt]
    · rw [if_neg c, w_next (by omega), ih k (i + 1) (by omega) (by omega) (by omega), ← fnd_next (p := fun x => x.f0 == n) hlt (beq_eq_false_iff_ne.mpr c)]
end Go.Proofs.Ytoekmdcldfmmcaa.Pure
end
section
namespace Go.Proofs.Ytoekmdcldfmmcaa.Pure
open Go.RowKit Go.Proofs.Ytoekmdcldfmmcaa.F Go.Proofs.YtoekmdcldfmmcaaW.PrintWords Go.Proofs.YtoekmdcldfmmcaaW.PrintLast
set_option linter.unusedVariables false
set_option linter.unusedSimpArgs false
theorem rfind (k : Nat) (hk : 100 ≤ k) (a0 a1 : Int) (l : List S35) (n : Int) : R05_Find.f k a0 a1 l n = some (findS a0 a1 l n) := by
  unfold R05_Find.f findS
  rw [rchk k hk]
  simp only [Option.bind_some]
  by_cases c : (ckS a0 a1 l).1 = 0
  · have hv := ckS_zero c
    have h5 := hv.2.2.2.2.1
    have h2 := hv.2.1
    rw [if_pos c, if_pos c]
    have := rfindl n a0 a1 l (by omega) l.length k 0 rfl (Nat.zero_le _) (by omega)
    rw [fnd_zero] at this
    exact this
  · rw [if_neg c, if_neg c]
end Go.Proofs.Ytoekmdcldfmmcaa.Pure
end
section
namespace Go.Proofs.Ytoekmdcldfmmcaa.Pure
open Go.RowKit Go.Proofs.Ytoekmdcldfmmcaa.F Go.Proofs.YtoekmdcldfmmcaaW.PrintWords Go.Proofs.YtoekmdcldfmmcaaW.PrintLast
set_option linter.unusedVariables false
set_option linter.unusedSimpArgs false
theorem sameRing (a0 a1 : Int) (l : List S35) (k : Nat) (hl : l.length ≤ 100) (hk : 200 ≤ k) : K_SameRing.f k a0 a1 l a0 a1 l = some true := by
  unfold K_SameRing.f
  rw [if_pos rfl, if_pos rfl, sameHeld l k hl hk]
  rfl
end Go.Proofs.Ytoekmdcldfmmcaa.Pure
end
section
namespace Go.Proofs.Ytoekmdcldfmmcaa.Pure
open Go.RowKit Go.Proofs.Ytoekmdcldfmmcaa.F Go.Proofs.YtoekmdcldfmmcaaW.PrintWords Go.Proofs.YtoekmdcldfmmcaaW.PrintLast
set_option linter.unusedVariables false
set_option linter.unusedSimpArgs false
theorem sameIntsl (l : List Int) (hl : l.length ≤ 4096) : ∀ (m k i : Nat), m = l.length - i → i ≤ l.length → m + 1 ≤ k → K_SameInts.l0 k l l (i : Int) = some true := by
  intro m
  induction m with
  | zero =>
    intro k i hm hi hk
    obtain ⟨k, rfl⟩ : ∃ k', k = k' + 1 := ⟨k - 1, by omega⟩
    obtain rfl : i = l.length := by omega
    simp only [K_SameInts.l0]
    rw [if_neg (by omega)]
  | succ m ih =>
    intro k i hm hi hk
    obtain ⟨k, rfl⟩ : ∃ k', k = k' + 1 := ⟨k - 1, by omega⟩
    have hlt : i < l.length := by omega
    simp only [K_SameInts.l0]
    rw [if_pos (by omega), if_pos (by omega), if_pos (by omega), if_pos trivial, w_next (by omega)]
    exact ih k (i + 1) (by omega) (by omega) (by omega)
end Go.Proofs.Ytoekmdcldfmmcaa.Pure
end
section
namespace Go.Proofs.Ytoekmdcldfmmcaa.Pure
open Go.RowKit Go.Proofs.Ytoekmdcldfmmcaa.F Go.Proofs.YtoekmdcldfmmcaaW.PrintWords Go.Proofs.YtoekmdcldfmmcaaW.PrintLast
set_option linter.unusedVariables false
set_option linter.unusedSimpArgs false
theorem sameInts (l : List Int) (k : Nat) (hl : l.length ≤ 100) (hk : 200 ≤ k) : K_SameInts.f k l l = some true := by
  unfold K_SameInts.f
  rw [if_pos rfl]
  exact sameIntsl l (by omega) l.length k 0 rfl (Nat.zero_le _) (by omega)
end Go.Proofs.Ytoekmdcldfmmcaa.Pure
end
section
namespace Go.Proofs.Ytoekmdcldfmmcaa.Pure
open Go.RowKit Go.Proofs.Ytoekmdcldfmmcaa.F Go.Proofs.YtoekmdcldfmmcaaW.PrintWords Go.Proofs.YtoekmdcldfmmcaaW.PrintLast
set_option linter.unusedVariables false
set_option linter.unusedSimpArgs false
theorem ownRing (a0 a1 : Int) (l : List S35) (hl : l.length ≤ 100) : K_OwnRing.f a0 a1 l = some (a0, a1, l) := by
  unfold K_OwnRing.f
  simp only [Option.bind_some, List.length_nil, List.nil_append, Nat.zero_add]
  rw [if_pos (by omega)]
end Go.Proofs.Ytoekmdcldfmmcaa.Pure
end
section
namespace Go.Proofs.Ytoekmdcldfmmcaa.Pure
open Go.RowKit Go.Proofs.Ytoekmdcldfmmcaa.F Go.Proofs.YtoekmdcldfmmcaaW.PrintWords Go.Proofs.YtoekmdcldfmmcaaW.PrintLast
set_option linter.unusedVariables false
set_option linter.unusedSimpArgs false
theorem ownInts (l : List Int) (hl : l.length ≤ 100) : K_OwnInts.f l = some l := by
  unfold K_OwnInts.f
  simp only [Option.bind_some, List.length_nil, List.nil_append, Nat.zero_add]
  rw [if_pos (by omega)]
end Go.Proofs.Ytoekmdcldfmmcaa.Pure
end
section
namespace Go.Proofs.Ytoekmdcldfmmcaa.Pure
open Go.RowKit Go.Proofs.Ytoekmdcldfmmcaa.F Go.Proofs.YtoekmdcldfmmcaaW.PrintWords Go.Proofs.YtoekmdcldfmmcaaW.PrintLast
set_option linter.unusedVariables false
set_option linter.unusedSimpArgs false
theorem u64_next {n : Int} (h0 : 0 ≤ n) (h : n ≤ 1099511627776) : IntKind.u64.wrap (n + 1) = n + 1 := by
  show (n + 1).emod (2 ^ 64) = n + 1
  exact Int.emod_eq_of_lt (by omega) (by omega)
end Go.Proofs.Ytoekmdcldfmmcaa.Pure
end
section
namespace Go.Proofs.Ytoekmdcldfmmcaa.Pure
open Go.RowKit Go.Proofs.Ytoekmdcldfmmcaa.F Go.Proofs.YtoekmdcldfmmcaaW.PrintWords Go.Proofs.YtoekmdcldfmmcaaW.PrintLast
set_option linter.unusedVariables false
set_option linter.unusedSimpArgs false
theorem rown (l : List S35) (hl : l.length ≤ 100) : R05_own.f l = some l := by
  unfold R05_own.f
  simp only [Option.bind_some, List.length_nil, List.nil_append, Nat.zero_add]
  rw [if_pos (by omega)]
end Go.Proofs.Ytoekmdcldfmmcaa.Pure
end
section
namespace Go.Proofs.Ytoekmdcldfmmcaa.Pure
open Go.RowKit Go.Proofs.Ytoekmdcldfmmcaa.F Go.Proofs.YtoekmdcldfmmcaaW.PrintWords Go.Proofs.YtoekmdcldfmmcaaW.PrintLast
set_option linter.unusedVariables false
set_option linter.unusedSimpArgs false
theorem rput (k : Nat) (hk : 100 ≤ k) (a0 a1 : Int) (l : List S35) (w : Int) : R05_Put.f k a0 a1 l w = some (putS a0 a1 l w) := by
  unfold R05_Put.f putS
  rw [rchk k hk]
  simp only [Option.bind_some]
  by_cases c : (ckS a0 a1 l).1 = 0
  · have hv := ckS_zero c
    have h5 := hv.2.2.2.2.1
    have h2 := hv.2.1
    have h3 := hv.2.2.1
    rw [if_pos c, if_pos c]
    by_cases d : (l.length : Int) = a0
    · rw [if_pos d, if_pos d]
    · rw [if_neg d, if_neg d]
      by_cases e : a1 > 1099511627776
      · rw [if_pos e, if_pos e]
      · rw [if_neg e, if_neg e, rown l (by omega)]
        simp only [Option.bind_some, List.length_cons, List.length_nil]
        rw [if_pos (by omega), u64_next (by omega) (by omega)]
  · rw [if_neg c, if_neg c]
end Go.Proofs.Ytoekmdcldfmmcaa.Pure
end
section
namespace Go.Proofs.Ytoekmdcldfmmcaa.Pure
open Go.RowKit Go.Proofs.Ytoekmdcldfmmcaa.F Go.Proofs.YtoekmdcldfmmcaaW.PrintWords Go.Proofs.YtoekmdcldfmmcaaW.PrintLast
set_option linter.unusedVariables false
set_option linter.unusedSimpArgs false
theorem rdrop (k : Nat) (hk : 100 ≤ k) (a0 a1 : Int) (l : List S35) (n : Int) : R05_Drop.f k a0 a1 l n = some (dropS a0 a1 l n) := by
  unfold R05_Drop.f dropS
  rw [rfind k hk]
  simp only [Option.bind_some]
  by_cases c : (findS a0 a1 l n).2 = 0
  · obtain ⟨c1, c2, c3⟩ := findS_zero c
    have hv := ckS_zero c1
    have h5 := hv.2.2.2.2.1
    have h2 := hv.2.1
    rw [if_pos c, if_pos c, c3]
    generalize l.findIdx (fun x => x.f0 == n) = F at c2 ⊢
    have ht : ((F : Int)).toNat = F := rfl
    have ht1 : (((F + 1 : Nat) : Int)).toNat = F + 1 := rfl
    rw [if_pos (by omega), if_pos (by omega), w_next (by omega), ht, rown _ (by rw [List.length_take]; omega)]
    simp only [Option.bind_some]
    rw [if_pos (by omega), if_pos (by omega), ht1, if_pos (by rw [List.length_take, List.length_drop]; omega), if_pos (by omega)]
  · rw [if_neg c, if_neg c]
end Go.Proofs.Ytoekmdcldfmmcaa.Pure
end
section
namespace Go.Proofs.Ytoekmdcldfmmcaa.Pure
open Go.RowKit Go.Proofs.Ytoekmdcldfmmcaa.F Go.Proofs.YtoekmdcldfmmcaaW.PrintWords Go.Proofs.YtoekmdcldfmmcaaW.PrintLast
set_option linter.unusedVariables false
set_option linter.unusedSimpArgs false
theorem rinl (n : Int) (l : List Int) (hl : l.length ≤ 100) : ∀ (m k i : Nat), m = l.length - i → i ≤ l.length → m + 1 ≤ k → R05_in.l0 k l n (i : Int) = some ((l.drop i).contains n) := by
  intro m
  induction m with
  | zero =>
    intro k i hm hi hk
    obtain ⟨k, rfl⟩ : ∃ k', k = k' + 1 := ⟨k - 1, by omega⟩
    obtain rfl : i = l.length := by omega
    simp only [R05_in.l0]
    rw [if_neg (by omega), List.drop_length]
    rfl
  | succ m ih =>
    intro k i hm hi hk
    obtain ⟨k, rfl⟩ : ∃ k', k = k' + 1 := ⟨k - 1, by omega⟩
    have hlt : i < l.length := by omega
    simp only [R05_in.l0]
    rw [if_pos (by omega), if_pos (by omega), List.drop_eq_getElem_cons hlt, ← rdi hlt, List.contains_cons]
    by_cases c : rd l (i : Int) = n
    · rw [if_pos c, c]; simp
    · rw [if_neg c, w_next (by omega), ih k (i + 1) (by omega) (by omega) (by omega)]
      rw [show (n == rd l (i : Int)) = false from beq_eq_false_iff_ne.mpr (fun e => c e.symm), Bool.false_or]
end Go.Proofs.Ytoekmdcldfmmcaa.Pure
end
section
namespace Go.Proofs.Ytoekmdcldfmmcaa.Pure
open Go.RowKit Go.Proofs.Ytoekmdcldfmmcaa.F Go.Proofs.YtoekmdcldfmmcaaW.PrintWords Go.Proofs.YtoekmdcldfmmcaaW.PrintLast
set_option linter.unusedVariables false
set_option linter.unusedSimpArgs false
theorem rin (n : Int) (l : List Int) (k : Nat) (hl : l.length ≤ 100) (hk : 200 ≤ k) : R05_in.f k l n = some (l.contains n) := by
  unfold R05_in.f
  have := rinl n l hl l.length k 0 rfl (Nat.zero_le _) (by omega)
  rw [List.drop_zero] at this
  exact this
end Go.Proofs.Ytoekmdcldfmmcaa.Pure
end
section
namespace Go.Proofs.Ytoekmdcldfmmcaa.Pure
open Go.RowKit Go.Proofs.Ytoekmdcldfmmcaa.F Go.Proofs.YtoekmdcldfmmcaaW.PrintWords Go.Proofs.YtoekmdcldfmmcaaW.PrintLast
set_option linter.unusedVariables false
set_option linter.unusedSimpArgs false
theorem rwipel (a0 a1 : Int) (l : List S35) (m : List Int) (hl : l.length ≤ 64) (hm : m.length ≤ 100) : ∀ (n k i : Nat), n = l.length - i → i ≤ l.length → n + 201 ≤ k → R05_Wipe.l0 k m ((l.take i).filter (fun h => m.contains h.f1)) (i : Int) a0 a1 l a0 a1 ((l.take i).filter (fun h => !(m.contains h.f1))) = some (a0, a1, l.filter (fun h => !(m.contains h.f1)), l.filter (fun h => m.contains h.f1), 0) := by
  intro n
  induction n with
  | zero =>
    intro k i hn hi hk
    obtain ⟨k, rfl⟩ : ∃ k', k = k' + 1 := ⟨k - 1, by omega⟩
    obtain rfl : i = l.length := by omega
    simp only [R05_Wipe.l0]
    rw [if_neg (by omega), List.take_length]
  | succ n ih =>
    intro k i hn hi hk
    obtain ⟨k, rfl⟩ : ∃ k', k = k' + 1 := ⟨k - 1, by omega⟩
    have hlt : i < l.length := by omega
    have hnx := ih k (i + 1) (by omega) (by omega) (by omega)
    have f1 := filter_step (p := fun h => m.contains h.f1) hlt
    have f2 := filter_step (p := fun h => !(m.contains h.f1)) hlt
    simp only [R05_Wipe.l0]
    rw [if_pos (by omega), if_pos (by omega), rin _ _ k hm (by omega)]
    simp only [Option.bind_some]
    by_cases c : m.contains (rd_T35 l (i : Int)).f1 = true
    · rw [if_pos c, if_pos (by have := filter_le (p := fun h => m.contains h.f1) (i := i) hl; omega), w_next (by omega)]
      simp only [c] at f1 f2
      simp only [if_true, Bool.not_true, Bool.false_eq_true, if_false, List.append_nil] at f1 f2
      rw [f1, f2] at hnx
      exact hnx
    · have c' : m.contains (rd_T35 l (i : Int)).f1 = false := by simpa using c
      rw [if_neg c, if_pos (by have := filter_le (p := fun h => !(m.contains h.f1)) (i := i) hl; omega), w_next (by omega)]
      simp only [c'] at f1 f2
      simp only [if_true, Bool.not_false, Bool.false_eq_true, if_false, List.append_nil] at f1 f2
      rw [f1, f2] at hnx
      exact hnx
end Go.Proofs.Ytoekmdcldfmmcaa.Pure
end
section
namespace Go.Proofs.Ytoekmdcldfmmcaa.Pure
open Go.RowKit Go.Proofs.Ytoekmdcldfmmcaa.F Go.Proofs.YtoekmdcldfmmcaaW.PrintWords Go.Proofs.YtoekmdcldfmmcaaW.PrintLast
set_option linter.unusedVariables false
set_option linter.unusedSimpArgs false
theorem rwipe (k : Nat) (hk : 300 ≤ k) (a0 a1 : Int) (l : List S35) (m : List Int) (hm : m.length ≤ 64) : R05_Wipe.f k a0 a1 l m = some (wipeS a0 a1 l m) := by
  unfold R05_Wipe.f wipeS
  rw [rchk k (by omega)]
  simp only [Option.bind_some]
  by_cases c : (ckS a0 a1 l).1 = 0
  · have hv := ckS_zero c
    have h5 := hv.2.2.2.2.1
    have h2 := hv.2.1
    rw [if_pos c, if_pos c]
    have := rwipel a0 a1 l m (by omega) (by omega) l.length k 0 rfl (Nat.zero_le _) (by omega)
    exact this
  · rw [if_neg c, if_neg c]
end Go.Proofs.Ytoekmdcldfmmcaa.Pure
end
section
namespace Go.Proofs.Ytoekmdcldfmmcaa.Pure
open Go.RowKit Go.Proofs.Ytoekmdcldfmmcaa.F Go.Proofs.YtoekmdcldfmmcaaW.PrintWords Go.Proofs.YtoekmdcldfmmcaaW.PrintLast
set_option linter.unusedVariables false
set_option linter.unusedSimpArgs false
theorem le_fuel {α : Type} {f : Nat → Option α} (hm : ∀ k, LeO (f k) (f (k + 1))) {a b : Nat} (h : a ≤ b) {r : α} (e : f a = some r) : f b = some r := by
  induction h with
  | refl => exact e
  | step _ ih => exact hm _ _ ih
end Go.Proofs.Ytoekmdcldfmmcaa.Pure
end
section
namespace Go.Proofs.Ytoekmdcldfmmcaa.Pure
open Go.RowKit Go.Proofs.Ytoekmdcldfmmcaa.F Go.Proofs.YtoekmdcldfmmcaaW.PrintWords Go.Proofs.YtoekmdcldfmmcaaW.PrintLast
set_option linter.unusedVariables false
set_option linter.unusedSimpArgs false
theorem awake_300 : L05_awake.f 300 = some true := by kernel_rfl
end Go.Proofs.Ytoekmdcldfmmcaa.Pure
end
section
namespace Go.Proofs.Ytoekmdcldfmmcaa.Pure
open Go.RowKit Go.Proofs.Ytoekmdcldfmmcaa.F Go.Proofs.YtoekmdcldfmmcaaW.PrintWords Go.Proofs.YtoekmdcldfmmcaaW.PrintLast
set_option linter.unusedVariables false
set_option linter.unusedSimpArgs false
theorem awake (k : Nat) (hk : 300 ≤ k) : L05_awake.f k = some true := le_fuel L05_awake.mono hk awake_300
end Go.Proofs.Ytoekmdcldfmmcaa.Pure
end
section
namespace Go.Proofs.Ytoekmdcldfmmcaa.Pure
open Go.RowKit Go.Proofs.Ytoekmdcldfmmcaa.F Go.Proofs.YtoekmdcldfmmcaaW.PrintWords Go.Proofs.YtoekmdcldfmmcaaW.PrintLast
set_option linter.unusedVariables false
set_option linter.unusedSimpArgs false
theorem put_len (a0 a1 : Int) (l : List S35) (w : Int) (hl : l.length ≤ 40) : (putS a0 a1 l w).2.2.1.length ≤ 41 := by
  unfold putS
  split
  · split
    · simp
    · split
      · simp
      · simp; omega
  · simp
end Go.Proofs.Ytoekmdcldfmmcaa.Pure
end
section
namespace Go.Proofs.Ytoekmdcldfmmcaa.Pure
open Go.RowKit Go.Proofs.Ytoekmdcldfmmcaa.F Go.Proofs.YtoekmdcldfmmcaaW.PrintWords Go.Proofs.YtoekmdcldfmmcaaW.PrintLast
set_option linter.unusedVariables false
set_option linter.unusedSimpArgs false
theorem drop_len (a0 a1 : Int) (l : List S35) (n : Int) (hl : l.length ≤ 40) : (dropS a0 a1 l n).2.2.1.length ≤ 41 := by
  unfold dropS
  split
  · show (List.take _ l ++ List.drop _ l).length ≤ 41
    rw [List.length_append, List.length_take, List.length_drop]
    omega
  · simp
end Go.Proofs.Ytoekmdcldfmmcaa.Pure
end
section
namespace Go.Proofs.Ytoekmdcldfmmcaa.Pure
open Go.RowKit Go.Proofs.Ytoekmdcldfmmcaa.F Go.Proofs.YtoekmdcldfmmcaaW.PrintWords Go.Proofs.YtoekmdcldfmmcaaW.PrintLast
set_option linter.unusedVariables false
set_option linter.unusedSimpArgs false
theorem wipe_len (a0 a1 : Int) (l : List S35) (m : List Int) (hl : l.length ≤ 40) : (wipeS a0 a1 l m).2.2.1.length ≤ 40 ∧ (wipeS a0 a1 l m).2.2.2.1.length ≤ 40 := by
  unfold wipeS
  split
  · exact ⟨Nat.le_trans (List.length_filter_le _ _) hl, Nat.le_trans (List.length_filter_le _ _) hl⟩
  · simp
end Go.Proofs.Ytoekmdcldfmmcaa.Pure
end
section
namespace Go.Proofs.Ytoekmdcldfmmcaa.Pure
open Go.RowKit Go.Proofs.Ytoekmdcldfmmcaa.F Go.Proofs.YtoekmdcldfmmcaaW.PrintWords Go.Proofs.YtoekmdcldfmmcaaW.PrintLast
set_option linter.unusedVariables false
set_option linter.unusedSimpArgs false
theorem changes2 (k : Nat) (hk : 400 ≤ k) (a0 a1 : Int) (l : List S35) (hl : l.length ≤ 40) (m : List Int) (hm : m.length ≤ 40) (hw : l.all (fun h => wfW h.f1) = true) (hwm : m.all wfW = true) : L05_RingChanges.j2 k m m false a0 a1 l a0 a1 l = some true := by
  obtain ⟨k, rfl⟩ : ∃ k', k = k' + 1 := ⟨k - 1, by omega⟩
  simp only [L05_RingChanges.j2]
  obtain ⟨q1, q2⟩ := wipe_len a0 a1 l m hl
  rw [if_neg (by decide), wipe_ _ _ _ _ (by omega) hw hwm, rwipe k (by omega) _ _ _ _ (by omega)]
  simp only [Option.bind_some]
  rw [sameRing _ _ _ k (by omega) (by omega)]
  simp only [Option.bind_some]
  rw [if_pos trivial, sameHeld _ k (by omega) (by omega)]
  simp only [Option.bind_some]
  rw [if_pos trivial, if_pos trivial, sameRing _ _ _ k (by omega) (by omega)]
  simp only [Option.bind_some]
  rw [if_pos trivial, sameInts _ k (by omega) (by omega)]
  simp only [Option.bind_some]
  rw [if_pos trivial, awake k (by omega)]
  rfl
end Go.Proofs.Ytoekmdcldfmmcaa.Pure
end
section
namespace Go.Proofs.Ytoekmdcldfmmcaa.Pure
open Go.RowKit Go.Proofs.Ytoekmdcldfmmcaa.F Go.Proofs.YtoekmdcldfmmcaaW.PrintWords Go.Proofs.YtoekmdcldfmmcaaW.PrintLast
set_option linter.unusedVariables false
set_option linter.unusedSimpArgs false
theorem changes1 (k : Nat) (hk : 401 ≤ k) (a0 a1 : Int) (l : List S35) (hl : l.length ≤ 40) (n : Int) (m : List Int) (hm : m.length ≤ 40) (hw : l.all (fun h => wfW h.f1) = true) (hwm : m.all wfW = true) : L05_RingChanges.j1 k n m m false a0 a1 l a0 a1 l = some true := by
  obtain ⟨k, rfl⟩ : ∃ k', k = k' + 1 := ⟨k - 1, by omega⟩
  simp only [L05_RingChanges.j1]
  have q1 := drop_len a0 a1 l n hl
  rw [if_neg (by decide), drop_, rdrop k (by omega)]
  simp only [Option.bind_some]
  rw [sameRing _ _ _ k (by omega) (by omega)]
  simp only [Option.bind_some]
  rw [if_pos trivial, if_neg (by simp), bne_self_eq_false]
  exact changes2 k (by omega) a0 a1 l hl m hm hw hwm
end Go.Proofs.Ytoekmdcldfmmcaa.Pure
end
section
namespace Go.Proofs.Ytoekmdcldfmmcaa.Pure
open Go.RowKit Go.Proofs.Ytoekmdcldfmmcaa.F Go.Proofs.YtoekmdcldfmmcaaW.PrintWords Go.Proofs.YtoekmdcldfmmcaaW.PrintLast
set_option linter.unusedVariables false
set_option linter.unusedSimpArgs false
theorem changes0 (k : Nat) (hk : 402 ≤ k) (a0 a1 : Int) (l : List S35) (hl : l.length ≤ 40) (w n : Int) (m : List Int) (hm : m.length ≤ 40) (hw : l.all (fun h => wfW h.f1) = true) (hwm : m.all wfW = true) : L05_RingChanges.j0 k w n m false a0 a1 l = some true := by
  obtain ⟨k, rfl⟩ : ∃ k', k = k' + 1 := ⟨k - 1, by omega⟩
  simp only [L05_RingChanges.j0]
  have q1 := put_len a0 a1 l w hl
  rw [if_neg (by decide), ownRing _ _ _ (by omega), ownInts _ (by omega)]
  simp only [Option.bind_some]
  rw [put_, rput k (by omega)]
  simp only [Option.bind_some]
  rw [sameRing _ _ _ k (by omega) (by omega)]
  simp only [Option.bind_some]
  rw [if_pos trivial, if_pos trivial, bne_self_eq_false]
  exact changes1 k (by omega) a0 a1 l hl n m hm hw hwm
end Go.Proofs.Ytoekmdcldfmmcaa.Pure
end
section
namespace Go.Proofs.Ytoekmdcldfmmcaa.Pure
open Go.RowKit Go.Proofs.Ytoekmdcldfmmcaa.F Go.Proofs.YtoekmdcldfmmcaaW.PrintWords Go.Proofs.YtoekmdcldfmmcaaW.PrintLast
set_option linter.unusedVariables false
set_option linter.unusedSimpArgs false
theorem RingChanges : ringChanges.Law := by
  intro y0 y1 y2 y3 h0 h1 h2 h3
  obtain ⟨k, hk⟩ : ∃ k, 500 ≤ k := ⟨500, Nat.le_refl _⟩
  refine ⟨k, ?_⟩
  unfold L05_RingChanges.f
  have hT : L05_RingChanges.j0 k y1 y2 y3 true y0.f0 y0.f1 y0.f2 = some true := by
    obtain ⟨k, rfl⟩ : ∃ k', k = k' + 1 := ⟨k - 1, by omega⟩
    simp only [L05_RingChanges.j0]
    rw [if_pos trivial, awake k (by omega)]
    rfl
  by_cases c : (y0.f2.length : Int) > 40
  · rw [if_pos c, hT]
  · rw [if_neg c]
    by_cases d : (y3.length : Int) > 40
    · rw [decide_eq_true d, hT]
    · rw [decide_eq_false d]
      refine changes0 k (by omega) _ _ _ (by omega) _ _ _ (by omega) (List.all_eq_true.mpr fun x hx => (h0.2.2 x hx).2) (List.all_eq_true.mpr fun x hx => ?_)
      exact h3 x hx
end Go.Proofs.Ytoekmdcldfmmcaa.Pure
end
section
/- The statement RingChanges holds: the law's function answers true at every input, and the input reads as it did. No condition. (Written by fork.py; its parameters are structs.) -/
namespace Go.Proofs.Ytoekmdcldfmmcaa.ringChanges
open Go.ChangeShapes Go.WideShapes Go.ChangeAt Go.RowKit Go.Proofs.YtoekmdcldfmmcaaW.PrintWords
open Go.ChangeMaps (open_string shut_string)
set_option linter.unusedVariables false
theorem own : ownKnob Try.prog.godebug = none := by kernel_rfl
theorem laidOut : laidOutB Try.prog = true := by kernel_rfl
theorem opens35 : F.Opens Try.prog 35 F.k35 Wf35 := by
  have h := F.opens_struct (fun x : F.S35 => (x.f0, x.f1)) (fun y => ⟨y.1, y.2⟩) (fun _ => rfl) Try.underlying35 (by kernel_rfl)
    (F.opensFs_cons rfl (F.opens_int Try.underlying22 (by kernel_rfl)) (F.opensFs_one rfl (F.opens_int Try.underlying3 (by kernel_rfl))))
  exact h
theorem opens25 : F.Opens Try.prog 25 F.k25 Wf25 := by
  have h := F.opens_struct (fun x : F.S25 => (x.f0, x.f1, x.f2)) (fun y => ⟨y.1, y.2.1, y.2.2⟩) (fun _ => rfl) Try.underlying25 (by kernel_rfl)
    (F.opensFs_cons rfl (F.opens_int Try.underlying3 (by kernel_rfl)) (F.opensFs_cons rfl (F.opens_int Try.underlying22 (by kernel_rfl)) (F.opensFs_one rfl (F.opens_slice Try.underlying23 (by kernel_rfl) opens35))))
  exact h
set_option maxRecDepth 100000 in
theorem lifted (os : Os) (started : os.Started) (H : Type) (enc : TypeId × Value → H) :
    ReturnsInHanded {} Try.checked os 3 .any (Rows.ringChangesSpec.pre6 enc Try.prog Try.f3 Rows.ringChangesRow.domain false) (Rows.ringChangesSpec.post enc Try.prog Try.f3 false true false false) := by
  refine returnsInHanded_of_change_sized (C := Try.checked) own started (by kernel_rfl) Try.func3
    (ChangeSpec.witness6 (enc := enc) (C := Try.checked) false ⟨#[], #[.agg #[.int .i64 0, .int .u64 0, .slice none 0 0], .int .i64 0, .int .u64 0, .slice none 0 0], []⟩ 8 (by kernel_rfl) (by kernel_rfl) (by kernel_rfl) (by kernel_rfl)) ?_
  intro W base args ds gs before hval0 hW hcnd hsz0 _
  have hval : ∀ (j : Nat) t v, Try.f3.params[j]? = some t → args[j]? = some v → Value.okWide Try.prog W .any base t v := hval0
  have hW' := hW
  obtain ⟨p, q, hA0, hV, rfl, hfz, hnd⟩ := hW
  have hA : DataW.TrodAll enc Try.prog W 0 (fun _ => true) true Try.f3.params.toList args.toList ds p := hA0
  rw [Try.params3] at hA hval
  obtain ⟨v0, vs0, d0, ds0, p0, q0, hargs, rfl, rfl, h0, r0⟩ := trodAll_cons hA
  obtain ⟨v1, vs1, d1, ds1, p1, q1, rfl, rfl, rfl, h1, r1⟩ := trodAll_cons r0
  obtain ⟨v2, vs2, d2, ds2, p2, q2, rfl, rfl, rfl, h2, r2⟩ := trodAll_cons r1
  obtain ⟨v3, vs3, d3, ds3, p3, q3, rfl, rfl, rfl, h3, r3⟩ := trodAll_cons r2
  obtain ⟨rfl, rfl, rfl⟩ := trodAll_nil r3
  obtain rfl : args = #[v0, v1, v2, v3] := by cases args; simp_all
  obtain ⟨rfl, rfl⟩ := trodVars_none hV
  have lt0 : ∀ x ∈ p0, x.block < W.heap.size := by obtain ⟨m, hm⟩ := h0; exact DataW.trod_lt m _ _ _ hm
  have lt1 : ∀ x ∈ p1, x.block < W.heap.size := by obtain ⟨m, hm⟩ := h1; exact DataW.trod_lt m _ _ _ hm
  have lt2 : ∀ x ∈ p2, x.block < W.heap.size := by obtain ⟨m, hm⟩ := h2; exact DataW.trod_lt m _ _ _ hm
  have lt3 : ∀ x ∈ p3, x.block < W.heap.size := by obtain ⟨m, hm⟩ := h3; exact DataW.trod_lt m _ _ _ hm
  obtain ⟨cs0, rfl, _⟩ := okWide_struct Try.underlying25 (hval 0 25 v0 rfl rfl)
  obtain ⟨y0, K0, f0⟩ := opens25.arg h0
  obtain ⟨A0_2, c0_2, e0, l0_2, g0_2⟩ := F.k25_open K0
  obtain rfl : cs0 = #[.int .i64 y0.f0, .int .u64 y0.f1, .slice A0_2 y0.f2.length c0_2] := Array.toList_inj.1 e0
  obtain ⟨y1, rfl, rfl, rfl, f1⟩ := open_int Try.underlying3 (hval 1 3 v1 rfl rfl) h1
  obtain ⟨y2, rfl, rfl, rfl, f2⟩ := open_int Try.underlying22 (hval 2 22 v2 rfl rfl) h2
  obtain ⟨a3, len3, cap3, rfl⟩ := okWide_slice Try.underlying26 (hval 3 26 v3 rfl rfl)
  obtain ⟨y3, ⟨A3, c3, e3, l3, g3⟩, f3⟩ := (F.opens_slice Try.underlying26 (by kernel_rfl) (F.opens_int Try.underlying3 (by kernel_rfl))).arg h3
  have e3' : Value.slice a3 len3 cap3 = Value.slice A3 y3.length c3 := List.singleton_inj.1 e3
  obtain ⟨rfl, rfl, rfl⟩ := Value.slice.inj e3'
  clear hA0 hval0 hsz0
  obtain ⟨k, hk⟩ := Pure.RingChanges y0 y1 y2 y3 f0 f1 f2 f3
  refine (F.L05_RingChanges.calls k y0.f0 y0.f1 _ _ y0.f2 y1 y2 _ _ y3 true W g0_2 l0_2 g3 l3 hk).mono fun e W' ⟨he, bel⟩ => ?_
  subst he
  exact ⟨_, rfl, _, _, _, [], _, [], hW', trodAll_mk1 (shut_bool Try.underlying4 _), (trodAll_cons_mk (Below.trod laidOut (by kernel_rfl) (of_decide_eq_true (by kernel_rfl)) h0 bel lt0) (trodAll_cons_mk (shut_int Try.underlying3 f1) (trodAll_cons_mk (shut_int Try.underlying22 f2) (trodAll_cons_mk (Below.trod laidOut (by kernel_rfl) (of_decide_eq_true (by kernel_rfl)) h3 bel lt3) trodAll_mk0)))), rfl, bel.frame _, fun h => by cases h⟩
theorem over : Rows.ringChangesRow.holds Try.pinned (OpenSpec.ofChange Rows.ringChangesSpec) :=
  OpenClaim.holds_of_wide 3 Try.f3 rfl rfl rfl rfl rfl rfl rfl ⟨rfl, rfl, rfl, rfl, rfl⟩ rfl rfl rfl rfl rfl (by kernel_rfl) Try.func3 (by show joinedFacts Try.prog 3 Try.f3 Rows.ringChangesSpec Rows.ringChangesRow = true; unfold joinedFacts; rw [may_enter, lifts_not, make_cut]; kernel_rfl)
    (of_decide_eq_true (by kernel_rfl)) (by unfold Func.isWrapper; first | (rw [if_pos (by decide +kernel)]; kernel_rfl) | (rw [if_neg (by decide +kernel)]; exact ⟨rfl, rfl⟩))
    (fun os started H enc _ => lifted os started H enc)
theorem proved : Rows.RingChangesSaid := over
#print axioms proved
end Go.Proofs.Ytoekmdcldfmmcaa.ringChanges
namespace Go.Proofs.Ytoekmdcldfmmcaa
/-- The row, under a short name, for the claim. -/
theorem ringChanges_holds : Rows.RingChangesSaid := ringChanges.proved
end Go.Proofs.Ytoekmdcldfmmcaa
end
