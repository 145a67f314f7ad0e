/- Part 4 of RingLooks: what the functions reckon, step by step, and plain laws. No condition. -/
import Derived.Test.YtoekmdcldfmmcaaKRingLooksx3
section
namespace Go.Proofs.Ytoekmdcldfmmcaa.F
open Go.RowKit Go.Proofs.YtoekmdcldfmmcaaW.PrintWords Go.Proofs.YtoekmdcldfmmcaaW.PrintLast Go.Proofs.YtoekmdcldfmmcaaW.PrintMore
set_option linter.unusedVariables false
set_option linter.unusedSimpArgs false
/-- Cells of type t that read as data hold a value of the kind d, which is well formed (Wf). -/
def Opens {α : Type} (P : Program) (t : TypeId) (d : Kd α) (Wf : α → Prop) : Prop :=
  P.cellsOf t = d.sz ∧ ∀ {H : Type} (enc : TypeId × Value → H) (w : World) (sp : Nat → Bool) (held : Bool) (fuel : Nat) (cs : List Value) (x : DataW H × List MemPlace),
    DataW.trod enc P w 0 sp held fuel t cs = some x → ∃ y : α, d.K w y cs ∧ Wf y
end Go.Proofs.Ytoekmdcldfmmcaa.F
end
section
namespace Go.Proofs.Ytoekmdcldfmmcaa.F
open Go.RowKit Go.Proofs.YtoekmdcldfmmcaaW.PrintWords Go.Proofs.YtoekmdcldfmmcaaW.PrintLast Go.Proofs.YtoekmdcldfmmcaaW.PrintMore
set_option linter.unusedVariables false
set_option linter.unusedSimpArgs false
theorem opens_int {P : Program} {t : TypeId} {k : IntKind} (ht : P.underlying t = some (.int k)) (hc : P.cellsOf t = 1) : Opens P t (Kd.int k) (fun n => (Lit.int k n).wf = true) := by
  refine ⟨hc, fun enc w sp held fuel cs x h => ?_⟩
  cases fuel with
  | zero => simp [DataW.trod] at h
  | succ n =>
    unfold DataW.trod at h
    rw [ht] at h
    split at h <;> simp_all
    exact ⟨_, rfl, h.1.2⟩
end Go.Proofs.Ytoekmdcldfmmcaa.F
end
section
namespace Go.Proofs.Ytoekmdcldfmmcaa.F
open Go.RowKit Go.Proofs.YtoekmdcldfmmcaaW.PrintWords Go.Proofs.YtoekmdcldfmmcaaW.PrintLast Go.Proofs.YtoekmdcldfmmcaaW.PrintMore
set_option linter.unusedVariables false
set_option linter.unusedSimpArgs false
theorem opens_slice {α : Type} {P : Program} {t e : TypeId} {d : Kd α} {Wf : α → Prop} (ht : P.underlying t = some (.slice e)) (hc : P.cellsOf t = 1) (hd : Opens P e d Wf) : Opens P t (Kd.slice e d) (fun l => ∀ y ∈ l, Wf y) := by
  refine ⟨hc, fun enc w sp held fuel cs x h => ?_⟩
  rcases DataW.trod_slice ht h with ⟨rfl, _⟩ | ⟨a, len, cap, elems, rest, n, rfl, rfl, _, _, hle, hcap, hel, he, _, _⟩
  · exact ⟨[], ⟨none, 0, rfl, Nat.le_refl _, rfl, by simp, fun h => by simp at h⟩, fun _ h => (List.not_mem_nil h).elim⟩
  · have hone : ∀ i : Fin len, ∃ y : α, (∃ c, c.length = d.sz ∧ d.K w y c ∧ ∀ j u, c[j]? = some u → w.cell? (a.add (i.1 * d.sz + j)) = some u) ∧ Wf y := by
      intro i
      have h1 := he i.1 i.2
      have h2 : i.1 < elems.length := by rw [hel]; exact i.2
      rw [List.getElem?_eq_getElem h2] at h1
      obtain ⟨c, hc1, hc2⟩ := Option.bind_eq_some_iff.mp h1
      obtain ⟨y, hy, hw⟩ := hd.2 enc w sp held n c _ hc2
      rw [hd.1] at hc1
      have h3 := World.cells?_some hc1
      refine ⟨y, ⟨c, d.K_len hy, hy, fun j u hu => ?_⟩, hw⟩
      have hj := (List.getElem?_eq_some_iff.1 hu).1
      have h4 := h3.2.2 j (by rw [← h3.2.1]; exact hj)
      rw [hu] at h4
      rw [Addr.add_add] at h4
      exact h4
    refine ⟨List.ofFn (fun i : Fin len => Classical.choose (hone i)), ⟨some a, cap, by simp, by simpa using hle, by simp, by simp only [maxLen] at hcap; simp; omega, fun _ => ⟨a, rfl, fun j p hp => ?_⟩⟩, fun y hy => ?_⟩
    · obtain ⟨hj, e⟩ := List.getElem?_eq_some_iff.1 hp
      rw [List.getElem_ofFn] at e
      subst e
      exact (Classical.choose_spec (hone ⟨j, by simpa using hj⟩)).1
    · rw [List.mem_ofFn] at hy
      obtain ⟨i, rfl⟩ := hy
      exact (Classical.choose_spec (hone i)).2
end Go.Proofs.Ytoekmdcldfmmcaa.F
end
section
namespace Go.Proofs.Ytoekmdcldfmmcaa.F
open Go.RowKit Go.Proofs.YtoekmdcldfmmcaaW.PrintWords Go.Proofs.YtoekmdcldfmmcaaW.PrintLast Go.Proofs.YtoekmdcldfmmcaaW.PrintMore
set_option linter.unusedVariables false
set_option linter.unusedSimpArgs false
/-- Fields from off on. -/
def OpensFs {α : Type} (P : Program) (fs : List Field) (off : Nat) (d : Kd α) (Wf : α → Prop) : Prop :=
  ∀ (H : Type) (enc : TypeId × Value → H) (w : World) (sp : Nat → Bool) (held : Bool) (fuel : Nat) (cs : List Value),
    (∀ f ∈ fs, ∃ x, DataW.trod enc P w 0 sp held fuel f.type ((cs.drop f.offset).take (P.cellsOf f.type)) = some x) → cs.length = off + d.sz → ∃ y : α, d.K w y (cs.drop off) ∧ Wf y
end Go.Proofs.Ytoekmdcldfmmcaa.F
end
section
namespace Go.Proofs.Ytoekmdcldfmmcaa.F
open Go.RowKit Go.Proofs.YtoekmdcldfmmcaaW.PrintWords Go.Proofs.YtoekmdcldfmmcaaW.PrintLast Go.Proofs.YtoekmdcldfmmcaaW.PrintMore
set_option linter.unusedVariables false
set_option linter.unusedSimpArgs false
theorem opensFs_one {α : Type} {P : Program} {f : Field} {off : Nat} {d : Kd α} {Wf : α → Prop} (ho : f.offset = off) (hd : Opens P f.type d Wf) : OpensFs P [f] off d Wf := by
  subst ho
  intro H enc w sp held fuel cs hf hl
  obtain ⟨x, hx⟩ := hf f List.mem_cons_self
  rw [List.take_of_length_le (by rw [List.length_drop, hd.1]; omega)] at hx
  exact hd.2 enc w sp held fuel _ x hx
end Go.Proofs.Ytoekmdcldfmmcaa.F
end
section
namespace Go.Proofs.Ytoekmdcldfmmcaa.F
open Go.RowKit Go.Proofs.YtoekmdcldfmmcaaW.PrintWords Go.Proofs.YtoekmdcldfmmcaaW.PrintLast Go.Proofs.YtoekmdcldfmmcaaW.PrintMore
set_option linter.unusedVariables false
set_option linter.unusedSimpArgs false
theorem opensFs_cons {α β : Type} {P : Program} {f : Field} {fs : List Field} {off : Nat} {d : Kd α} {d1 : Kd β} {W0 : α → Prop} {W1 : β → Prop} (ho : f.offset = off) (hd : Opens P f.type d W0) (hs : OpensFs P fs (off + d.sz) d1 W1) :
    OpensFs P (f :: fs) off (Kd.pair d d1) (fun y => W0 y.1 ∧ W1 y.2) := by
  subst ho
  intro H enc w sp held fuel cs hf hl
  obtain ⟨x, hx⟩ := hf f List.mem_cons_self
  rw [hd.1] at hx
  obtain ⟨y, hy, hw⟩ := hd.2 enc w sp held fuel _ x hx
  obtain ⟨z, hz, hw'⟩ := hs H enc w sp held fuel cs (fun g hg => hf g (List.mem_cons_of_mem _ hg)) (by rw [hl]; exact (Nat.add_assoc _ _ _).symm)
  refine ⟨(y, z), ⟨_, _, ?_, hy, hz⟩, hw, hw'⟩
  rw [← List.drop_drop]
  exact (List.take_append_drop d.sz _).symm
end Go.Proofs.Ytoekmdcldfmmcaa.F
end
section
namespace Go.Proofs.Ytoekmdcldfmmcaa.F
open Go.RowKit Go.Proofs.YtoekmdcldfmmcaaW.PrintWords Go.Proofs.YtoekmdcldfmmcaaW.PrintLast Go.Proofs.YtoekmdcldfmmcaaW.PrintMore
set_option linter.unusedVariables false
set_option linter.unusedSimpArgs false
theorem opens_struct {α β : Type} {P : Program} {t : TypeId} {fs : Array Field} {d : Kd α} {Wf : α → Prop} (f : β → α) (g : α → β) (hfg : ∀ y, f (g y) = y) (ht : P.underlying t = some (.struct fs)) (hc : P.cellsOf t = d.sz)
    (hs : OpensFs P fs.toList 0 d Wf) : Opens P t (Kd.iso d f) (fun x => Wf (f x)) := by
  refine ⟨hc, fun {H} enc w sp held fuel cs x h => ?_⟩
  obtain ⟨xs, n, rfl, _, hl, hxl, hx⟩ := DataW.trod_struct ht h
  have hq : ∀ q ∈ fs.toList, ∃ x, DataW.trod enc P w 0 sp held n q.type ((cs.drop q.offset).take (P.cellsOf q.type)) = some x := by
    intro q hq
    obtain ⟨i, hi, e⟩ := List.getElem_of_mem hq
    have hi' : i < fs.size := by simpa using hi
    have h1 := hx i q (by rw [Array.getElem?_eq_getElem hi']; exact congrArg some (by simpa using e))
    rw [List.getElem?_eq_getElem (by rw [hxl]; exact hi')] at h1
    exact ⟨_, h1⟩
  obtain ⟨y, hy, hw⟩ := hs H enc w sp held n cs hq (by rw [hl, hc, Nat.zero_add])
  refine ⟨g y, ?_, ?_⟩
  · show d.K w (f (g y)) cs
    rw [hfg]; exact hy
  · show Wf (f (g y))
    rw [hfg]; exact hw
end Go.Proofs.Ytoekmdcldfmmcaa.F
end
section
namespace Go.Proofs.Ytoekmdcldfmmcaa.F
open Go.RowKit Go.Proofs.YtoekmdcldfmmcaaW.PrintWords Go.Proofs.YtoekmdcldfmmcaaW.PrintLast Go.Proofs.YtoekmdcldfmmcaaW.PrintMore
set_option linter.unusedVariables false
set_option linter.unusedSimpArgs false
/-- A value that is one argument, opened. -/
theorem Opens.arg {α : Type} {P : Program} {t : TypeId} {d : Kd α} {Wf : α → Prop} (h : Opens P t d Wf) {H : Type} {enc : TypeId × Value → H} {w : World} {sp : Nat → Bool} {held : Bool} {v : Value} {D : DataW H} {ps : List MemPlace}
    (ht : DataW.Trod enc P w 0 sp held t v D ps) : ∃ y : α, d.K w y v.cells.toList ∧ Wf y := by
  obtain ⟨fuel, hf⟩ := ht
  exact h.2 enc w sp held fuel _ _ hf
end Go.Proofs.Ytoekmdcldfmmcaa.F
end
section
/- Written by fork.py: what the row of RingLooks tells of its arguments. -/
namespace Go.Proofs.Ytoekmdcldfmmcaa.ringLooks
open Go.RowKit
def Wf35 (x : F.S35) : Prop := (Lit.int .u64 x.f0).wf = true ∧ (Lit.int .i64 x.f1).wf = true
def Wf25 (x : F.S25) : Prop := (Lit.int .i64 x.f0).wf = true ∧ (Lit.int .u64 x.f1).wf = true ∧ (∀ y ∈ x.f2, Wf35 y)
/-- The plain law of RingLooks. -/
def Law : Prop := ∀ (y0 : F.S25) (y1 : Int) (y2 : Int), Wf25 y0 → (Lit.int .i64 y1).wf = true → (Lit.int .u64 y2).wf = true → ∃ k, F.L05_RingLooks.f k y0.f0 y0.f1 y0.f2 y1 y2 = some true
end Go.Proofs.Ytoekmdcldfmmcaa.ringLooks
end
section
namespace Go.Proofs.Ytoekmdcldfmmcaa.Pure
open Go.RowKit Go.Proofs.Ytoekmdcldfmmcaa.F Go.Proofs.YtoekmdcldfmmcaaW.PrintWords Go.Proofs.YtoekmdcldfmmcaaW.PrintLast
set_option linter.unusedVariables false
set_option linter.unusedSimpArgs false
theorem rdg {l : List S35} {i : Nat} (h : i < l.length) : rd_T35 l (i : Int) = l[i] := by simp [rd_T35, List.getD_eq_getElem?_getD, List.getElem?_eq_getElem h]
end Go.Proofs.Ytoekmdcldfmmcaa.Pure
end
section
namespace Go.Proofs.Ytoekmdcldfmmcaa.Pure
open Go.RowKit Go.Proofs.Ytoekmdcldfmmcaa.F Go.Proofs.YtoekmdcldfmmcaaW.PrintWords Go.Proofs.YtoekmdcldfmmcaaW.PrintLast
set_option linter.unusedVariables false
set_option linter.unusedSimpArgs false
theorem w_next {i : Nat} (h : i ≤ 4096) : wrap64 ((i : Int) + 1) = ((i + 1 : Nat) : Int) := by unfold wrap64; omega
end Go.Proofs.Ytoekmdcldfmmcaa.Pure
end
section
namespace Go.Proofs.Ytoekmdcldfmmcaa.Pure
open Go.RowKit Go.Proofs.Ytoekmdcldfmmcaa.F Go.Proofs.YtoekmdcldfmmcaaW.PrintWords Go.Proofs.YtoekmdcldfmmcaaW.PrintLast
set_option linter.unusedVariables false
set_option linter.unusedSimpArgs false
theorem w_prev {i : Nat} (h0 : 0 < i) (h : i ≤ 4096) : wrap64 ((i : Int) - 1) = ((i - 1 : Nat) : Int) := by unfold wrap64; omega
end Go.Proofs.Ytoekmdcldfmmcaa.Pure
end
section
namespace Go.Proofs.Ytoekmdcldfmmcaa.Pure
open Go.RowKit Go.Proofs.Ytoekmdcldfmmcaa.F Go.Proofs.YtoekmdcldfmmcaaW.PrintWords Go.Proofs.YtoekmdcldfmmcaaW.PrintLast
set_option linter.unusedVariables false
set_option linter.unusedSimpArgs false
def ckFrom (nx : Int) : Int → Nat → List S35 → Int × Int
  | _, _, [] => (0, 0)
  | pv, i, x :: r => if x.f0 < 1 ∨ x.f0 ≥ nx then (2, (i : Int)) else if x.f0 ≤ pv then (8, (i : Int)) else ckFrom nx x.f0 (i + 1) r
end Go.Proofs.Ytoekmdcldfmmcaa.Pure
end
section
namespace Go.Proofs.Ytoekmdcldfmmcaa.Pure
open Go.RowKit Go.Proofs.Ytoekmdcldfmmcaa.F Go.Proofs.YtoekmdcldfmmcaaW.PrintWords Go.Proofs.YtoekmdcldfmmcaaW.PrintLast
set_option linter.unusedVariables false
set_option linter.unusedSimpArgs false
def ckS (a0 a1 : Int) (l : List S35) : Int × Int := if a0 < 1 ∨ a0 > 32 ∨ a1 < 1 ∨ a1 > 1099511627777 then (2, 0) else if (l.length : Int) > a0 then (5, 0) else ckFrom a1 0 0 l
end Go.Proofs.Ytoekmdcldfmmcaa.Pure
end
section
namespace Go.Proofs.Ytoekmdcldfmmcaa.Pure
open Go.RowKit Go.Proofs.Ytoekmdcldfmmcaa.F Go.Proofs.YtoekmdcldfmmcaaW.PrintWords Go.Proofs.YtoekmdcldfmmcaaW.PrintLast
set_option linter.unusedVariables false
set_option linter.unusedSimpArgs false
def pvOf (l : List S35) (i : Nat) : Int := if i = 0 then 0 else (rd_T35 l ((i - 1 : Nat) : Int)).f0
end Go.Proofs.Ytoekmdcldfmmcaa.Pure
end
section
namespace Go.Proofs.Ytoekmdcldfmmcaa.Pure
open Go.RowKit Go.Proofs.Ytoekmdcldfmmcaa.F Go.Proofs.YtoekmdcldfmmcaaW.PrintWords Go.Proofs.YtoekmdcldfmmcaaW.PrintLast
set_option linter.unusedVariables false
set_option linter.unusedSimpArgs false
theorem chkl (nx a0 : Int) (l : List S35) (hl : l.length ≤ 32) : ∀ (m k i : Nat), m = l.length - i → i ≤ l.length → 2 * m + 1 ≤ k → ring_Check.l0 k l (l.length : Int) (i : Int) a0 nx l = some (ckFrom nx (pvOf l i) i (l.drop i)) := by
  intro m
  induction m with
  | zero =>
    intro k i hm hi hk
    obtain ⟨k, rfl⟩ : ∃ k', k = k' + 1 := ⟨k - 1, by omega⟩
    obtain rfl : i = l.length := by omega
    simp only [ring_Check.l0]
    rw [if_neg (by omega), List.drop_length]
    rfl
  | succ m ih =>
    intro k i hm hi hk
    obtain ⟨k, rfl⟩ : ∃ k', k = k' + 2 := ⟨k - 2, by omega⟩
    have hlt : i < l.length := by omega
    rw [List.drop_eq_getElem_cons hlt, ← rdg hlt]
    simp only [ring_Check.l0, ckFrom]
    rw [if_pos (by omega), if_pos (by omega), if_pos (by omega)]
    have hnx := ih k (i + 1) (by omega) (by omega) (by omega)
    have hpv : pvOf l (i + 1) = (rd_T35 l (i : Int)).f0 := by unfold pvOf; rw [if_neg (by omega)]; rfl
    rw [hpv] at hnx
    by_cases c1 : (rd_T35 l (i : Int)).f0 < 1
    · rw [if_pos c1, if_pos (Or.inl c1)]
      simp only [ring_Check.j2]
      rfl
    · rw [if_neg c1]
      by_cases c2 : (rd_T35 l (i : Int)).f0 ≥ nx
      · rw [if_pos (Or.inr c2), decide_eq_true c2]
        simp only [ring_Check.j2]
        rfl
      · rw [if_neg (show ¬ ((rd_T35 l (i : Int)).f0 < 1 ∨ (rd_T35 l (i : Int)).f0 ≥ nx) by omega), decide_eq_false c2]
        simp only [ring_Check.j2]
        rw [if_neg (by decide)]
        rw [w_next (by omega), hnx]
        by_cases c3 : i = 0
        · subst c3
          rw [if_neg (by omega), if_neg (show ¬ (rd_T35 l ((0 : Nat) : Int)).f0 ≤ pvOf l 0 by unfold pvOf; simp only [↓reduceIte]; omega)]
        · rw [if_pos (by omega), w_prev (by omega) (by omega), if_pos (by omega), if_pos (by omega)]
          have hp : pvOf l i = (rd_T35 l ((i - 1 : Nat) : Int)).f0 := by unfold pvOf; rw [if_neg c3]
          rw [hp]
          by_cases c4 : (rd_T35 l (i : Int)).f0 ≤ (rd_T35 l ((i - 1 : Nat) : Int)).f0
          · rw [if_pos c4, if_pos c4]
          · rw [if_neg c4, if_neg c4]
end Go.Proofs.Ytoekmdcldfmmcaa.Pure
end
section
namespace Go.Proofs.Ytoekmdcldfmmcaa.Pure
open Go.RowKit Go.Proofs.Ytoekmdcldfmmcaa.F Go.Proofs.YtoekmdcldfmmcaaW.PrintWords Go.Proofs.YtoekmdcldfmmcaaW.PrintLast
set_option linter.unusedVariables false
set_option linter.unusedSimpArgs false
theorem chk (k : Nat) (hk : 100 ≤ k) (a0 a1 : Int) (l : List S35) : ring_Check.f k a0 a1 l = some (ckS a0 a1 l) := by
  have hT : ring_Check.j0 k true a0 a1 l = some (2, 0) := by
    obtain ⟨k, rfl⟩ : ∃ k', k = k' + 1 := ⟨k - 1, by omega⟩
    simp [ring_Check.j0]
  unfold ring_Check.f ckS
  by_cases c1 : a0 < 1
  · rw [if_pos c1, if_pos (Or.inl c1), hT]
  · rw [if_neg c1]
    by_cases c2 : a0 > 32
    · rw [if_pos c2, if_pos (Or.inr (Or.inl c2)), hT]
    · rw [if_neg c2]
      by_cases c3 : a1 < 1
      · rw [if_pos c3, if_pos (Or.inr (Or.inr (Or.inl c3))), hT]
      · rw [if_neg c3]
        by_cases c4 : a1 > 1099511627777
        · rw [decide_eq_true c4, if_pos (Or.inr (Or.inr (Or.inr c4))), hT]
        · rw [decide_eq_false c4, if_neg (show ¬ (a0 < 1 ∨ a0 > 32 ∨ a1 < 1 ∨ a1 > 1099511627777) by omega)]
          obtain ⟨k, rfl⟩ : ∃ k', k = k' + 1 := ⟨k - 1, by omega⟩
          simp only [ring_Check.j0]
          rw [if_neg (by decide)]
          by_cases c5 : (l.length : Int) > a0
          · rw [if_pos c5, if_pos c5]
          · rw [if_neg c5, if_neg c5]
            exact chkl a1 a0 l (by omega) l.length k 0 rfl (Nat.zero_le _) (by omega)
end Go.Proofs.Ytoekmdcldfmmcaa.Pure
end
section
namespace Go.Proofs.Ytoekmdcldfmmcaa.Pure
open Go.RowKit Go.Proofs.Ytoekmdcldfmmcaa.F Go.Proofs.YtoekmdcldfmmcaaW.PrintWords Go.Proofs.YtoekmdcldfmmcaaW.PrintLast
set_option linter.unusedVariables false
set_option linter.unusedSimpArgs false
theorem rchkl (nx a0 : Int) (l : List S35) (hl : l.length ≤ 32) : ∀ (m k i : Nat), m = l.length - i → i ≤ l.length → 2 * m + 1 ≤ k → R05_Check.l0 k (i : Int) a0 nx l = some (ckFrom nx (pvOf l i) i (l.drop i)) := by
  intro m
  induction m with
  | zero =>
    intro k i hm hi hk
    obtain ⟨k, rfl⟩ : ∃ k', k = k' + 1 := ⟨k - 1, by omega⟩
    obtain rfl : i = l.length := by omega
    simp only [R05_Check.l0]
    rw [if_neg (by omega), List.drop_length]
    rfl
  | succ m ih =>
    intro k i hm hi hk
    obtain ⟨k, rfl⟩ : ∃ k', k = k' + 2 := ⟨k - 2, by omega⟩
    have hlt : i < l.length := by omega
    rw [List.drop_eq_getElem_cons hlt, ← rdg hlt]
    simp only [R05_Check.l0, ckFrom]
    rw [if_pos (by omega), if_pos (by omega)]
    have hnx := ih k (i + 1) (by omega) (by omega) (by omega)
    have hpv : pvOf l (i + 1) = (rd_T35 l (i : Int)).f0 := by unfold pvOf; rw [if_neg (by omega)]; rfl
    rw [hpv] at hnx
    by_cases c1 : (rd_T35 l (i : Int)).f0 < 1
    · rw [if_pos c1, if_pos (Or.inl c1)]
      simp only [R05_Check.j2]
      rfl
    · rw [if_neg c1]
      by_cases c2 : (rd_T35 l (i : Int)).f0 ≥ nx
      · rw [if_pos (Or.inr c2), decide_eq_true c2]
        simp only [R05_Check.j2]
        rfl
      · rw [if_neg (show ¬ ((rd_T35 l (i : Int)).f0 < 1 ∨ (rd_T35 l (i : Int)).f0 ≥ nx) by omega), decide_eq_false c2]
        simp only [R05_Check.j2]
        rw [if_neg (by decide)]
        rw [w_next (by omega), hnx]
        by_cases c3 : i = 0
        · subst c3
          rw [if_neg (by omega), if_neg (show ¬ (rd_T35 l ((0 : Nat) : Int)).f0 ≤ pvOf l 0 by unfold pvOf; simp only [↓reduceIte]; omega)]
        · rw [if_pos (by omega), w_prev (by omega) (by omega), if_pos (by omega), if_pos (by omega), if_pos (by omega), if_pos (by omega)]
          have hp : pvOf l i = (rd_T35 l ((i - 1 : Nat) : Int)).f0 := by unfold pvOf; rw [if_neg c3]
          rw [hp]
          by_cases c4 : (rd_T35 l (i : Int)).f0 ≤ (rd_T35 l ((i - 1 : Nat) : Int)).f0
          · rw [if_pos c4, if_pos c4]
          · rw [if_neg c4, if_neg c4]
end Go.Proofs.Ytoekmdcldfmmcaa.Pure
end
section
namespace Go.Proofs.Ytoekmdcldfmmcaa.Pure
open Go.RowKit Go.Proofs.Ytoekmdcldfmmcaa.F Go.Proofs.YtoekmdcldfmmcaaW.PrintWords Go.Proofs.YtoekmdcldfmmcaaW.PrintLast
set_option linter.unusedVariables false
set_option linter.unusedSimpArgs false
theorem rchk (k : Nat) (hk : 100 ≤ k) (a0 a1 : Int) (l : List S35) : R05_Check.f k a0 a1 l = some (ckS a0 a1 l) := by
  have hT : R05_Check.j0 k true a0 a1 l = some (2, 0) := by
    obtain ⟨k, rfl⟩ : ∃ k', k = k' + 1 := ⟨k - 1, by omega⟩
    simp [R05_Check.j0]
  unfold R05_Check.f ckS
  by_cases c1 : a0 < 1
  · rw [if_pos c1, if_pos (Or.inl c1), hT]
  · rw [if_neg c1]
    by_cases c2 : a0 > 32
    · rw [if_pos c2, if_pos (Or.inr (Or.inl c2)), hT]
    · rw [if_neg c2]
      by_cases c3 : a1 < 1
      · rw [if_pos c3, if_pos (Or.inr (Or.inr (Or.inl c3))), hT]
      · rw [if_neg c3]
        by_cases c4 : a1 > 1099511627777
        · rw [decide_eq_true c4, if_pos (Or.inr (Or.inr (Or.inr c4))), hT]
        · rw [decide_eq_false c4, if_neg (show ¬ (a0 < 1 ∨ a0 > 32 ∨ a1 < 1 ∨ a1 > 1099511627777) by omega)]
          obtain ⟨k, rfl⟩ : ∃ k', k = k' + 1 := ⟨k - 1, by omega⟩
          simp only [R05_Check.j0]
          rw [if_neg (by decide)]
          by_cases c5 : (l.length : Int) > a0
          · rw [if_pos c5, if_pos c5]
          · rw [if_neg c5, if_neg c5]
            exact rchkl a1 a0 l (by omega) l.length k 0 rfl (Nat.zero_le _) (by omega)
end Go.Proofs.Ytoekmdcldfmmcaa.Pure
end
section
namespace Go.Proofs.Ytoekmdcldfmmcaa.Pure
open Go.RowKit Go.Proofs.Ytoekmdcldfmmcaa.F Go.Proofs.YtoekmdcldfmmcaaW.PrintWords Go.Proofs.YtoekmdcldfmmcaaW.PrintLast
set_option linter.unusedVariables false
set_option linter.unusedSimpArgs false
/-- Numbers ascend, between lo and hi. -/
def Asc (lo hi : Int) (l : List S35) : Prop := l.Pairwise (fun x y => x.f0 < y.f0) ∧ ∀ x ∈ l, lo < x.f0 ∧ x.f0 < hi
end Go.Proofs.Ytoekmdcldfmmcaa.Pure
end
section
namespace Go.Proofs.Ytoekmdcldfmmcaa.Pure
open Go.RowKit Go.Proofs.Ytoekmdcldfmmcaa.F Go.Proofs.YtoekmdcldfmmcaaW.PrintWords Go.Proofs.YtoekmdcldfmmcaaW.PrintLast
set_option linter.unusedVariables false
set_option linter.unusedSimpArgs false
theorem ckFrom_asc (nx : Int) (l : List S35) : ∀ (pv : Int) (i : Nat), 0 ≤ pv → ((ckFrom nx pv i l).1 = 0 ↔ Asc pv nx l) := by
  induction l with
  | nil => intro pv i h; simp [ckFrom, Asc]
  | cons x r ih =>
    intro pv i h
    simp only [ckFrom]
    by_cases c1 : x.f0 < 1 ∨ x.f0 ≥ nx
    · rw [if_pos c1]
      refine ⟨fun e => by simp at e, fun e => ?_⟩
      have := e.2 x List.mem_cons_self
      omega
    · rw [if_neg c1]
      by_cases c2 : x.f0 ≤ pv
      · rw [if_pos c2]
        refine ⟨fun e => by simp at e, fun e => ?_⟩
        have := e.2 x List.mem_cons_self
        omega
      · rw [if_neg c2, ih x.f0 (i + 1) (by omega)]
        unfold Asc
        rw [List.pairwise_cons]
        constructor
        · rintro ⟨h1, h2⟩
          refine ⟨⟨fun y hy => (h2 y hy).1, h1⟩, fun y hy => ?_⟩
          rcases List.mem_cons.1 hy with rfl | hy
          · omega
          · have := h2 y hy; omega
        · rintro ⟨⟨h1, h2⟩, h3⟩
          exact ⟨h2, fun y hy => ⟨h1 y hy, (h3 y (List.mem_cons_of_mem _ hy)).2⟩⟩
end Go.Proofs.Ytoekmdcldfmmcaa.Pure
end
section
namespace Go.Proofs.Ytoekmdcldfmmcaa.Pure
open Go.RowKit Go.Proofs.Ytoekmdcldfmmcaa.F Go.Proofs.YtoekmdcldfmmcaaW.PrintWords Go.Proofs.YtoekmdcldfmmcaaW.PrintLast
set_option linter.unusedVariables false
set_option linter.unusedSimpArgs false
/-- What a valid ring is. -/
def Valid (a0 a1 : Int) (l : List S35) : Prop := 1 ≤ a0 ∧ a0 ≤ 32 ∧ 1 ≤ a1 ∧ a1 ≤ 1099511627777 ∧ (l.length : Int) ≤ a0 ∧ Asc 0 a1 l
end Go.Proofs.Ytoekmdcldfmmcaa.Pure
end
section
namespace Go.Proofs.Ytoekmdcldfmmcaa.Pure
open Go.RowKit Go.Proofs.Ytoekmdcldfmmcaa.F Go.Proofs.YtoekmdcldfmmcaaW.PrintWords Go.Proofs.YtoekmdcldfmmcaaW.PrintLast
set_option linter.unusedVariables false
set_option linter.unusedSimpArgs false
theorem ckS_zero {a0 a1 : Int} {l : List S35} (h : (ckS a0 a1 l).1 = 0) : Valid a0 a1 l := by
  unfold ckS at h
  split at h
  · simp at h
  · split at h
    · simp at h
    · rename_i a b
      exact ⟨by omega, by omega, by omega, by omega, by omega, (ckFrom_asc a1 l 0 0 (by omega)).1 h⟩
end Go.Proofs.Ytoekmdcldfmmcaa.Pure
end
section
namespace Go.Proofs.Ytoekmdcldfmmcaa.Pure
open Go.RowKit Go.Proofs.Ytoekmdcldfmmcaa.F Go.Proofs.YtoekmdcldfmmcaaW.PrintWords Go.Proofs.YtoekmdcldfmmcaaW.PrintLast
set_option linter.unusedVariables false
set_option linter.unusedSimpArgs false
/-- Where the first element from i on lies that p takes. -/
def fnd (p : S35 → Bool) (l : List S35) (i : Nat) : Nat := i + (l.drop i).findIdx p
end Go.Proofs.Ytoekmdcldfmmcaa.Pure
end
section
namespace Go.Proofs.Ytoekmdcldfmmcaa.Pure
open Go.RowKit Go.Proofs.Ytoekmdcldfmmcaa.F Go.Proofs.YtoekmdcldfmmcaaW.PrintWords Go.Proofs.YtoekmdcldfmmcaaW.PrintLast
set_option linter.unusedVariables false
set_option linter.unusedSimpArgs false
theorem fnd_here {p : S35 → Bool} {l : List S35} {i : Nat} (h : i < l.length) (hp : p (rd_T35 l (i : Int)) = true) : fnd p l i = i := by
  unfold fnd
  rw [List.drop_eq_getElem_cons h, ← rdg h, List.findIdx_cons, hp]
  rfl
end Go.Proofs.Ytoekmdcldfmmcaa.Pure
end
section
namespace Go.Proofs.Ytoekmdcldfmmcaa.Pure
open Go.RowKit Go.Proofs.Ytoekmdcldfmmcaa.F Go.Proofs.YtoekmdcldfmmcaaW.PrintWords Go.Proofs.YtoekmdcldfmmcaaW.PrintLast
set_option linter.unusedVariables false
set_option linter.unusedSimpArgs false
theorem fnd_next {p : S35 → Bool} {l : List S35} {i : Nat} (h : i < l.length) (hp : p (rd_T35 l (i : Int)) = false) : fnd p l i = fnd p l (i + 1) := by
  unfold fnd
  rw [List.drop_eq_getElem_cons h, ← rdg h, List.findIdx_cons, hp]
  simp only [cond_false]
  omega
end Go.Proofs.Ytoekmdcldfmmcaa.Pure
end
section
namespace Go.Proofs.Ytoekmdcldfmmcaa.Pure
open Go.RowKit Go.Proofs.Ytoekmdcldfmmcaa.F Go.Proofs.YtoekmdcldfmmcaaW.PrintWords Go.Proofs.YtoekmdcldfmmcaaW.PrintLast
set_option linter.unusedVariables false
set_option linter.unusedSimpArgs false
theorem fnd_end {p : S35 → Bool} {l : List S35} : fnd p l l.length = l.length := by
  unfold fnd
  simp
end Go.Proofs.Ytoekmdcldfmmcaa.Pure
end
section
namespace Go.Proofs.Ytoekmdcldfmmcaa.Pure
open Go.RowKit Go.Proofs.Ytoekmdcldfmmcaa.F Go.Proofs.YtoekmdcldfmmcaaW.PrintWords Go.Proofs.YtoekmdcldfmmcaaW.PrintLast
set_option linter.unusedVariables false
set_option linter.unusedSimpArgs false
theorem fnd_zero {p : S35 → Bool} {l : List S35} : fnd p l 0 = l.findIdx p := by
  unfold fnd
  simp
end Go.Proofs.Ytoekmdcldfmmcaa.Pure
end
section
namespace Go.Proofs.Ytoekmdcldfmmcaa.Pure
open Go.RowKit Go.Proofs.Ytoekmdcldfmmcaa.F Go.Proofs.YtoekmdcldfmmcaaW.PrintWords Go.Proofs.YtoekmdcldfmmcaaW.PrintLast
set_option linter.unusedVariables false
set_option linter.unusedSimpArgs false
theorem rfindl (n a0 a1 : Int) (l : List S35) (hl : l.length ≤ 64) : ∀ (m k i : Nat), m = l.length - i → i ≤ l.length → m + 1 ≤ k → R05_Find.l0 k n (i : Int) a0 a1 l = some (if fnd (fun x => x.f0 == n) l i < l.length then (((fnd (fun x => x.f0 == n) l i : Nat) : Int), 0) else (0, 6)) := by
  intro m
  induction m with
  | zero =>
    intro k i hm hi hk
    obtain ⟨k, rfl⟩ : ∃ k', k = k' + 1 := ⟨k - 1, by omega⟩
    obtain rfl : i = l.length := by omega
    simp only [R05_Find.l0]
    rw [if_neg (by omega), fnd_end, if_neg (by omega)]
  | succ m ih =>
    intro k i hm hi hk
    obtain ⟨k, rfl⟩ : ∃ k', k = k' + 1 := ⟨k - 1, by omega⟩
    have hlt : i < l.length := by omega
    simp only [R05_Find.l0]
    rw [if_pos (by omega), if_pos (by omega)]
    by_cases c : (rd_T35 l (i : Int)).f0 = n
    · rw [if_pos c, fnd_here (p := fun x => x.f0 == n) hlt (beq_iff_eq.mpr c), if_pos hlt]
    · rw [if_neg c, w_next (by omega), ih k (i + 1) (by omega) (by omega) (by omega), ← fnd_next (p := fun x => x.f0 == n) hlt (beq_eq_false_iff_ne.mpr c)]
end Go.Proofs.Ytoekmdcldfmmcaa.Pure
end
section
namespace Go.Proofs.Ytoekmdcldfmmcaa.Pure
open Go.RowKit Go.Proofs.Ytoekmdcldfmmcaa.F Go.Proofs.YtoekmdcldfmmcaaW.PrintWords Go.Proofs.YtoekmdcldfmmcaaW.PrintLast
set_option linter.unusedVariables false
set_option linter.unusedSimpArgs false
theorem rfirstl (n a0 a1 : Int) (l : List S35) (hl : l.length ≤ 64) : ∀ (m k i : Nat), m = l.length - i → i ≤ l.length → m + 1 ≤ k → R05_First.l0 k n (i : Int) a0 a1 l = some (if fnd (fun x => x.f1 == n) l i < l.length then ((rd_T35 l (fnd (fun x => x.f1 == n) l i : Nat)).f0, (rd_T35 l (fnd (fun x => x.f1 == n) l i : Nat)).f1, 0) else (0, 0, 6)) := by
  intro m
  induction m with
  | zero =>
    intro k i hm hi hk
    obtain ⟨k, rfl⟩ : ∃ k', k = k' + 1 := ⟨k - 1, by omega⟩
    obtain rfl : i = l.length := by omega
    simp only [R05_First.l0]
    rw [if_neg (by omega), fnd_end, if_neg (by omega)]
  | succ m ih =>
    intro k i hm hi hk
    obtain ⟨k, rfl⟩ : ∃ k', k = k' + 1 := ⟨k - 1, by omega⟩
    have hlt : i < l.length := by omega
    simp only [R05_First.l0]
    rw [if_pos (by omega), if_pos (by omega)]
    by_cases c : (rd_T35 l (i : Int)).f1 = n
    · rw [if_pos c, fnd_here (p := fun x => x.f1 == n) hlt (beq_iff_eq.mpr c), if_pos hlt]
    · rw [if_neg c, w_next (by omega), ih k (i + 1) (by omega) (by omega) (by omega), ← fnd_next (p := fun x => x.f1 == n) hlt (beq_eq_false_iff_ne.mpr c)]
end Go.Proofs.Ytoekmdcldfmmcaa.Pure
end
section
namespace Go.Proofs.Ytoekmdcldfmmcaa.Pure
open Go.RowKit Go.Proofs.Ytoekmdcldfmmcaa.F Go.Proofs.YtoekmdcldfmmcaaW.PrintWords Go.Proofs.YtoekmdcldfmmcaaW.PrintLast
set_option linter.unusedVariables false
set_option linter.unusedSimpArgs false
def firstS (a0 a1 : Int) (l : List S35) (n : Int) : Int × Int × Int := if (ckS a0 a1 l).1 = 0 then (if l.findIdx (fun x => x.f1 == n) < l.length then ((rd_T35 l (l.findIdx (fun x => x.f1 == n) : Nat)).f0, (rd_T35 l (l.findIdx (fun x => x.f1 == n) : Nat)).f1, 0) else (0, 0, 6)) else (0, 0, (ckS a0 a1 l).1)
end Go.Proofs.Ytoekmdcldfmmcaa.Pure
end
section
namespace Go.Proofs.Ytoekmdcldfmmcaa.Pure
open Go.RowKit Go.Proofs.Ytoekmdcldfmmcaa.F Go.Proofs.YtoekmdcldfmmcaaW.PrintWords Go.Proofs.YtoekmdcldfmmcaaW.PrintLast
set_option linter.unusedVariables false
set_option linter.unusedSimpArgs false
theorem rfirst (k : Nat) (hk : 100 ≤ k) (a0 a1 : Int) (l : List S35) (n : Int) : R05_First.f k a0 a1 l n = some (firstS a0 a1 l n) := by
  unfold R05_First.f firstS
  rw [rchk k hk]
  simp only [Option.bind_some]
  by_cases c : (ckS a0 a1 l).1 = 0
  · have hv := ckS_zero c
    have h5 := hv.2.2.2.2.1
    have h2 := hv.2.1
    rw [if_pos c, if_pos c]
    have := rfirstl n a0 a1 l (by omega) l.length k 0 rfl (Nat.zero_le _) (by omega)
    rw [fnd_zero] at this
    exact this
  · rw [if_neg c, if_neg c]
end Go.Proofs.Ytoekmdcldfmmcaa.Pure
end
section
namespace Go.Proofs.Ytoekmdcldfmmcaa.Pure
open Go.RowKit Go.Proofs.Ytoekmdcldfmmcaa.F Go.Proofs.YtoekmdcldfmmcaaW.PrintWords Go.Proofs.YtoekmdcldfmmcaaW.PrintLast
set_option linter.unusedVariables false
set_option linter.unusedSimpArgs false
theorem first_ (a0 a1 : Int) (l : List S35) (n : Int) : ring_First.f a0 a1 l n = some (firstS a0 a1 l n) := by
  unfold ring_First.f firstS
  rw [chk 4096 (by omega)]
  simp only [Option.bind_some]
  by_cases c : (ckS a0 a1 l).1 = 0
  · rw [if_pos c, if_pos c]
    unfold idxOf
    by_cases d : l.findIdx (fun x => x.f1 == n) < l.length
    · rw [if_pos d, if_pos d, if_neg (by omega)]
    · rw [if_neg d, if_neg d, if_pos (by omega)]
  · rw [if_neg c, if_neg c]
end Go.Proofs.Ytoekmdcldfmmcaa.Pure
end
section
namespace Go.Proofs.Ytoekmdcldfmmcaa.Pure
open Go.RowKit Go.Proofs.Ytoekmdcldfmmcaa.F Go.Proofs.YtoekmdcldfmmcaaW.PrintWords Go.Proofs.YtoekmdcldfmmcaaW.PrintLast
set_option linter.unusedVariables false
set_option linter.unusedSimpArgs false
def findS (a0 a1 : Int) (l : List S35) (n : Int) : Int × Int := if (ckS a0 a1 l).1 = 0 then (if l.findIdx (fun x => x.f0 == n) < l.length then (((l.findIdx (fun x => x.f0 == n) : Nat) : Int), 0) else (0, 6)) else (0, (ckS a0 a1 l).1)
end Go.Proofs.Ytoekmdcldfmmcaa.Pure
end
section
namespace Go.Proofs.Ytoekmdcldfmmcaa.Pure
open Go.RowKit Go.Proofs.Ytoekmdcldfmmcaa.F Go.Proofs.YtoekmdcldfmmcaaW.PrintWords Go.Proofs.YtoekmdcldfmmcaaW.PrintLast
set_option linter.unusedVariables false
set_option linter.unusedSimpArgs false
theorem rfind (k : Nat) (hk : 100 ≤ k) (a0 a1 : Int) (l : List S35) (n : Int) : R05_Find.f k a0 a1 l n = some (findS a0 a1 l n) := by
  unfold R05_Find.f findS
  rw [rchk k hk]
  simp only [Option.bind_some]
  by_cases c : (ckS a0 a1 l).1 = 0
  · have hv := ckS_zero c
    have h5 := hv.2.2.2.2.1
    have h2 := hv.2.1
    rw [if_pos c, if_pos c]
    have := rfindl n a0 a1 l (by omega) l.length k 0 rfl (Nat.zero_le _) (by omega)
    rw [fnd_zero] at this
    exact this
  · rw [if_neg c, if_neg c]
end Go.Proofs.Ytoekmdcldfmmcaa.Pure
end
section
namespace Go.Proofs.Ytoekmdcldfmmcaa.Pure
open Go.RowKit Go.Proofs.Ytoekmdcldfmmcaa.F Go.Proofs.YtoekmdcldfmmcaaW.PrintWords Go.Proofs.YtoekmdcldfmmcaaW.PrintLast
set_option linter.unusedVariables false
set_option linter.unusedSimpArgs false
/-- The binary search finds the border. -/
theorem bs_border (l : List S35) (n : Int) (hp : l.Pairwise (fun x y => x.f0 < y.f0)) : ∀ (k i j : Nat), i ≤ j → j ≤ l.length → j - i ≤ k → (∀ m, m < i → m < l.length → (rd_T35 l (m : Int)).f0 < n) → (∀ m, j ≤ m → m < l.length → n ≤ (rd_T35 l (m : Int)).f0) →
    bsR l n k i j ≤ l.length ∧ (∀ m, m < bsR l n k i j → m < l.length → (rd_T35 l (m : Int)).f0 < n) ∧ (∀ m, bsR l n k i j ≤ m → m < l.length → n ≤ (rd_T35 l (m : Int)).f0) := by
  have hpw : ∀ a b, a < b → b < l.length → (rd_T35 l (a : Int)).f0 < (rd_T35 l (b : Int)).f0 := by
    intro a b h1 h2
    rw [rdg (show a < l.length by omega), rdg h2]
    exact List.pairwise_iff_getElem.1 hp a b (by omega) h2 h1
  intro k
  induction k with
  | zero =>
    intro i j hij hj hk h1 h2
    obtain rfl : i = j := by omega
    exact ⟨hj, h1, h2⟩
  | succ k ih =>
    intro i j hij hj hk h1 h2
    simp only [bsR]
    by_cases c : i < j
    · rw [if_pos c]
      by_cases d : (rd_T35 l (((i + j) / 2 : Nat) : Int)).f0 < n
      · rw [if_pos d]
        refine ih _ _ (by omega) hj (by omega) (fun m hm hml => ?_) h2
        by_cases e : m = (i + j) / 2
        · subst e; exact d
        · have := hpw m ((i + j) / 2) (by omega) (by omega); omega
      · rw [if_neg d]
        refine ih _ _ (by omega) (by omega) (by omega) h1 (fun m hm hml => ?_)
        by_cases e : m = (i + j) / 2
        · subst e; omega
        · have := hpw ((i + j) / 2) m (by omega) hml; omega
    · rw [if_neg c]
      obtain rfl : i = j := by omega
      exact ⟨hj, h1, h2⟩
end Go.Proofs.Ytoekmdcldfmmcaa.Pure
end
section
namespace Go.Proofs.Ytoekmdcldfmmcaa.Pure
open Go.RowKit Go.Proofs.Ytoekmdcldfmmcaa.F Go.Proofs.YtoekmdcldfmmcaaW.PrintWords Go.Proofs.YtoekmdcldfmmcaaW.PrintLast
set_option linter.unusedVariables false
set_option linter.unusedSimpArgs false
theorem find_ (a0 a1 : Int) (l : List S35) (n : Int) : ring_Find.f a0 a1 l n = some (findS a0 a1 l n) := by
  unfold ring_Find.f findS
  rw [chk 4096 (by omega)]
  simp only [Option.bind_some]
  by_cases c : (ckS a0 a1 l).1 = 0
  · have hv := ckS_zero c
    have h5 := hv.2.2.2.2.1
    have h2 := hv.2.1
    rw [if_pos c, if_pos c, if_pos (by omega)]
    obtain ⟨b1, b2, b3⟩ := bs_border l n hv.2.2.2.2.2.1 l.length 0 l.length (Nat.zero_le _) (Nat.le_refl _) (by omega) (fun m h => by omega) (fun m h h' => by omega)
    generalize bsR l n l.length 0 l.length = R at b1 b2 b3 ⊢
    by_cases d : R < l.length ∧ (rd_T35 l (R : Int)).f0 = n
    · have hidx : l.findIdx (fun x => x.f0 == n) = R := by
        rw [List.findIdx_eq d.1]
        refine ⟨by have := d.2; rw [rdg d.1] at this; simpa using this, fun j hj => ?_⟩
        have := b2 j hj (by omega)
        rw [rdg (by omega)] at this
        simp; omega
      rw [if_pos d, hidx, if_pos d.1]
    · rw [if_neg d, if_neg]
      intro hlt
      have hat := List.findIdx_getElem (w := hlt)
      simp only [beq_iff_eq] at hat
      rw [← rdg hlt] at hat
      generalize l.findIdx (fun x => x.f0 == n) = F at hlt hat
      rcases Nat.lt_trichotomy F R with h | h | h
      · have := b2 F h hlt; omega
      · subst h; exact d ⟨hlt, hat⟩
      · have h3 := b3 R (Nat.le_refl _) (by omega)
        have hpw := List.pairwise_iff_getElem.1 hv.2.2.2.2.2.1 R F (by omega) hlt h
        rw [← rdg (show R < l.length by omega), ← rdg hlt] at hpw
        omega
  · rw [if_neg c, if_neg c]
end Go.Proofs.Ytoekmdcldfmmcaa.Pure
end
section
namespace Go.Proofs.Ytoekmdcldfmmcaa.Pure
open Go.RowKit Go.Proofs.Ytoekmdcldfmmcaa.F Go.Proofs.YtoekmdcldfmmcaaW.PrintWords Go.Proofs.YtoekmdcldfmmcaaW.PrintLast
set_option linter.unusedVariables false
set_option linter.unusedSimpArgs false
theorem sameHeldl (l : List S35) (hl : l.length ≤ 4096) : ∀ (m k i : Nat), m = l.length - i → i ≤ l.length → m + 1 ≤ k → K_SameHeld.l0 k l l (i : Int) = some true := by
  intro m
  induction m with
  | zero =>
    intro k i hm hi hk
    obtain ⟨k, rfl⟩ : ∃ k', k = k' + 1 := ⟨k - 1, by omega⟩
    obtain rfl : i = l.length := by omega
    simp only [K_SameHeld.l0]
    rw [if_neg (by omega)]
  | succ m ih =>
    intro k i hm hi hk
    obtain ⟨k, rfl⟩ : ∃ k', k = k' + 1 := ⟨k - 1, by omega⟩
    have hlt : i < l.length := by omega
    simp only [K_SameHeld.l0]
    rw [if_pos (by omega), if_pos (by omega), if_pos (by omega), if_neg (by simp), w_next (by omega)]
    exact ih k (i + 1) (by omega) (by omega) (by omega)
end Go.Proofs.Ytoekmdcldfmmcaa.Pure
end
section
namespace Go.Proofs.Ytoekmdcldfmmcaa.Pure
open Go.RowKit Go.Proofs.Ytoekmdcldfmmcaa.F Go.Proofs.YtoekmdcldfmmcaaW.PrintWords Go.Proofs.YtoekmdcldfmmcaaW.PrintLast
set_option linter.unusedVariables false
set_option linter.unusedSimpArgs false
theorem sameHeld (l : List S35) (k : Nat) (hl : l.length ≤ 100) (hk : 200 ≤ k) : K_SameHeld.f k l l = some true := by
  unfold K_SameHeld.f
  rw [if_pos rfl]
  exact sameHeldl l (by omega) l.length k 0 rfl (Nat.zero_le _) (by omega)
end Go.Proofs.Ytoekmdcldfmmcaa.Pure
end
section
namespace Go.Proofs.Ytoekmdcldfmmcaa.Pure
open Go.RowKit Go.Proofs.Ytoekmdcldfmmcaa.F Go.Proofs.YtoekmdcldfmmcaaW.PrintWords Go.Proofs.YtoekmdcldfmmcaaW.PrintLast
set_option linter.unusedVariables false
set_option linter.unusedSimpArgs false
theorem sameRing (a0 a1 : Int) (l : List S35) (k : Nat) (hl : l.length ≤ 100) (hk : 200 ≤ k) : K_SameRing.f k a0 a1 l a0 a1 l = some true := by
  unfold K_SameRing.f
  rw [if_pos rfl, if_pos rfl, sameHeld l k hl hk]
  rfl
end Go.Proofs.Ytoekmdcldfmmcaa.Pure
end
section
namespace Go.Proofs.Ytoekmdcldfmmcaa.Pure
open Go.RowKit Go.Proofs.Ytoekmdcldfmmcaa.F Go.Proofs.YtoekmdcldfmmcaaW.PrintWords Go.Proofs.YtoekmdcldfmmcaaW.PrintLast
set_option linter.unusedVariables false
set_option linter.unusedSimpArgs false
theorem ownRing (a0 a1 : Int) (l : List S35) (hl : l.length ≤ 100) : K_OwnRing.f a0 a1 l = some (a0, a1, l) := by
  unfold K_OwnRing.f
  simp only [Option.bind_some, List.length_nil, List.nil_append, Nat.zero_add]
  rw [if_pos (by omega)]
end Go.Proofs.Ytoekmdcldfmmcaa.Pure
end
section
namespace Go.Proofs.Ytoekmdcldfmmcaa.Pure
open Go.RowKit Go.Proofs.Ytoekmdcldfmmcaa.F Go.Proofs.YtoekmdcldfmmcaaW.PrintWords Go.Proofs.YtoekmdcldfmmcaaW.PrintLast
set_option linter.unusedVariables false
set_option linter.unusedSimpArgs false
theorem newEq (a : Int) : R05_New.f a = ring_New.f a := rfl
end Go.Proofs.Ytoekmdcldfmmcaa.Pure
end
section
namespace Go.Proofs.Ytoekmdcldfmmcaa.Pure
open Go.RowKit Go.Proofs.Ytoekmdcldfmmcaa.F Go.Proofs.YtoekmdcldfmmcaaW.PrintWords Go.Proofs.YtoekmdcldfmmcaaW.PrintLast
set_option linter.unusedVariables false
set_option linter.unusedSimpArgs false
theorem age_ (a0 a1 : Int) (l : List S35) (n : Int) (k : Nat) (hk : 100 ≤ k) : ring_Age.f a0 a1 l n = R05_Age.f k a0 a1 l n := by
  unfold ring_Age.f R05_Age.f
  rw [find_, rfind k hk]
end Go.Proofs.Ytoekmdcldfmmcaa.Pure
end
section
namespace Go.Proofs.Ytoekmdcldfmmcaa.Pure
open Go.RowKit Go.Proofs.Ytoekmdcldfmmcaa.F Go.Proofs.YtoekmdcldfmmcaaW.PrintWords Go.Proofs.YtoekmdcldfmmcaaW.PrintLast
set_option linter.unusedVariables false
set_option linter.unusedSimpArgs false
theorem age_some (a0 a1 : Int) (l : List S35) (n : Int) : ∃ r, ring_Age.f a0 a1 l n = some r := by
  unfold ring_Age.f
  rw [find_]
  simp only [Option.bind_some]
  split <;> exact ⟨_, rfl⟩
end Go.Proofs.Ytoekmdcldfmmcaa.Pure
end
section
namespace Go.Proofs.Ytoekmdcldfmmcaa.Pure
open Go.RowKit Go.Proofs.Ytoekmdcldfmmcaa.F Go.Proofs.YtoekmdcldfmmcaaW.PrintWords Go.Proofs.YtoekmdcldfmmcaaW.PrintLast
set_option linter.unusedVariables false
set_option linter.unusedSimpArgs false
def restS (a0 a1 : Int) (l : List S35) : Int × Int := if (ckS a0 a1 l).1 = 0 then (wrap64 (a0 - (l.length : Int)), 0) else (0, (ckS a0 a1 l).1)
end Go.Proofs.Ytoekmdcldfmmcaa.Pure
end
section
namespace Go.Proofs.Ytoekmdcldfmmcaa.Pure
open Go.RowKit Go.Proofs.Ytoekmdcldfmmcaa.F Go.Proofs.YtoekmdcldfmmcaaW.PrintWords Go.Proofs.YtoekmdcldfmmcaaW.PrintLast
set_option linter.unusedVariables false
set_option linter.unusedSimpArgs false
theorem rest_ (k : Nat) (hk : 100 ≤ k) (a0 a1 : Int) (l : List S35) : ring_Rest.f k a0 a1 l = some (restS a0 a1 l) := by
  unfold ring_Rest.f restS
  rw [chk k hk]
  simp only [Option.bind_some]
  split <;> rfl
end Go.Proofs.Ytoekmdcldfmmcaa.Pure
end
section
namespace Go.Proofs.Ytoekmdcldfmmcaa.Pure
open Go.RowKit Go.Proofs.Ytoekmdcldfmmcaa.F Go.Proofs.YtoekmdcldfmmcaaW.PrintWords Go.Proofs.YtoekmdcldfmmcaaW.PrintLast
set_option linter.unusedVariables false
set_option linter.unusedSimpArgs false
theorem rrest (k : Nat) (hk : 100 ≤ k) (a0 a1 : Int) (l : List S35) : R05_Rest.f k a0 a1 l = some (restS a0 a1 l) := by
  unfold R05_Rest.f restS
  rw [rchk k hk]
  simp only [Option.bind_some]
  split <;> rfl
end Go.Proofs.Ytoekmdcldfmmcaa.Pure
end
section
namespace Go.Proofs.Ytoekmdcldfmmcaa.Pure
open Go.RowKit Go.Proofs.Ytoekmdcldfmmcaa.F Go.Proofs.YtoekmdcldfmmcaaW.PrintWords Go.Proofs.YtoekmdcldfmmcaaW.PrintLast
set_option linter.unusedVariables false
set_option linter.unusedSimpArgs false
theorem le_fuel {α : Type} {f : Nat → Option α} (hm : ∀ k, LeO (f k) (f (k + 1))) {a b : Nat} (h : a ≤ b) {r : α} (e : f a = some r) : f b = some r := by
  induction h with
  | refl => exact e
  | step _ ih => exact hm _ _ ih
end Go.Proofs.Ytoekmdcldfmmcaa.Pure
end
section
namespace Go.Proofs.Ytoekmdcldfmmcaa.Pure
open Go.RowKit Go.Proofs.Ytoekmdcldfmmcaa.F Go.Proofs.YtoekmdcldfmmcaaW.PrintWords Go.Proofs.YtoekmdcldfmmcaaW.PrintLast
set_option linter.unusedVariables false
set_option linter.unusedSimpArgs false
theorem awake_300 : L05_awake.f 300 = some true := by kernel_rfl
end Go.Proofs.Ytoekmdcldfmmcaa.Pure
end
section
namespace Go.Proofs.Ytoekmdcldfmmcaa.Pure
open Go.RowKit Go.Proofs.Ytoekmdcldfmmcaa.F Go.Proofs.YtoekmdcldfmmcaaW.PrintWords Go.Proofs.YtoekmdcldfmmcaaW.PrintLast
set_option linter.unusedVariables false
set_option linter.unusedSimpArgs false
theorem awake (k : Nat) (hk : 300 ≤ k) : L05_awake.f k = some true := le_fuel L05_awake.mono hk awake_300
end Go.Proofs.Ytoekmdcldfmmcaa.Pure
end
section
namespace Go.Proofs.Ytoekmdcldfmmcaa.Pure
open Go.RowKit Go.Proofs.Ytoekmdcldfmmcaa.F Go.Proofs.YtoekmdcldfmmcaaW.PrintWords Go.Proofs.YtoekmdcldfmmcaaW.PrintLast
set_option linter.unusedVariables false
set_option linter.unusedSimpArgs false
theorem new_len (a : Int) : ∃ x y z, ring_New.f a = some (x, y, [], z) := by
  unfold ring_New.f
  split
  · exact ⟨_, _, _, rfl⟩
  · split <;> exact ⟨_, _, _, rfl⟩
end Go.Proofs.Ytoekmdcldfmmcaa.Pure
end
section
namespace Go.Proofs.Ytoekmdcldfmmcaa.Pure
open Go.RowKit Go.Proofs.Ytoekmdcldfmmcaa.F Go.Proofs.YtoekmdcldfmmcaaW.PrintWords Go.Proofs.YtoekmdcldfmmcaaW.PrintLast
set_option linter.unusedVariables false
set_option linter.unusedSimpArgs false
theorem looks3 (k : Nat) (hk : 400 ≤ k) (a0 a1 : Int) (l : List S35) (hl : l.length ≤ 40) (n : Int) : L05_RingLooks.j3 k n false a0 a1 l a0 a1 l = some true := by
  obtain ⟨k, rfl⟩ : ∃ k', k = k' + 1 := ⟨k - 1, by omega⟩
  simp only [L05_RingLooks.j3]
  rw [if_neg (by decide)]
  obtain ⟨r, hr⟩ := age_some a0 a1 l n
  rw [← age_ a0 a1 l n k (by omega), hr, rest_ k (by omega), rrest k (by omega)]
  simp only [Option.bind_some]
  rw [if_pos trivial, if_pos trivial, if_pos trivial, if_pos trivial, sameRing a0 a1 l k (by omega) (by omega)]
  simp only [Option.bind_some]
  rw [if_pos trivial, awake k (by omega)]
  rfl
end Go.Proofs.Ytoekmdcldfmmcaa.Pure
end
section
namespace Go.Proofs.Ytoekmdcldfmmcaa.Pure
open Go.RowKit Go.Proofs.Ytoekmdcldfmmcaa.F Go.Proofs.YtoekmdcldfmmcaaW.PrintWords Go.Proofs.YtoekmdcldfmmcaaW.PrintLast
set_option linter.unusedVariables false
set_option linter.unusedSimpArgs false
theorem looks2 (k : Nat) (hk : 401 ≤ k) (a0 a1 : Int) (l : List S35) (hl : l.length ≤ 40) (n : Int) : L05_RingLooks.j2 k n false a0 a1 l a0 a1 l = some true := by
  obtain ⟨k, rfl⟩ : ∃ k', k = k' + 1 := ⟨k - 1, by omega⟩
  simp only [L05_RingLooks.j2]
  rw [if_neg (by decide), find_, rfind k (by omega)]
  simp only [Option.bind_some]
  rw [if_pos trivial, bne_self_eq_false]
  exact looks3 k (by omega) a0 a1 l hl n
end Go.Proofs.Ytoekmdcldfmmcaa.Pure
end
section
namespace Go.Proofs.Ytoekmdcldfmmcaa.Pure
open Go.RowKit Go.Proofs.Ytoekmdcldfmmcaa.F Go.Proofs.YtoekmdcldfmmcaaW.PrintWords Go.Proofs.YtoekmdcldfmmcaaW.PrintLast
set_option linter.unusedVariables false
set_option linter.unusedSimpArgs false
theorem looks1 (k : Nat) (hk : 402 ≤ k) (a0 a1 : Int) (l : List S35) (hl : l.length ≤ 40) (w n : Int) : L05_RingLooks.j1 k w n false a0 a1 l a0 a1 l = some true := by
  obtain ⟨k, rfl⟩ : ∃ k', k = k' + 1 := ⟨k - 1, by omega⟩
  simp only [L05_RingLooks.j1]
  rw [if_neg (by decide), first_, rfirst k (by omega)]
  simp only [Option.bind_some]
  rw [if_neg (by simp), bne_self_eq_false]
  exact looks2 k (by omega) a0 a1 l hl n
end Go.Proofs.Ytoekmdcldfmmcaa.Pure
end
section
namespace Go.Proofs.Ytoekmdcldfmmcaa.Pure
open Go.RowKit Go.Proofs.Ytoekmdcldfmmcaa.F Go.Proofs.YtoekmdcldfmmcaaW.PrintWords Go.Proofs.YtoekmdcldfmmcaaW.PrintLast
set_option linter.unusedVariables false
set_option linter.unusedSimpArgs false
theorem looks0 (k : Nat) (hk : 403 ≤ k) (a0 a1 : Int) (l : List S35) (hl : l.length ≤ 40) (w n : Int) : L05_RingLooks.j0 k w n false a0 a1 l a0 a1 l = some true := by
  obtain ⟨k, rfl⟩ : ∃ k', k = k' + 1 := ⟨k - 1, by omega⟩
  simp only [L05_RingLooks.j0]
  rw [if_neg (by decide), chk k (by omega), rchk k (by omega)]
  simp only [Option.bind_some]
  rw [if_pos trivial, bne_self_eq_false]
  exact looks1 k (by omega) a0 a1 l hl w n
end Go.Proofs.Ytoekmdcldfmmcaa.Pure
end
section
namespace Go.Proofs.Ytoekmdcldfmmcaa.Pure
open Go.RowKit Go.Proofs.Ytoekmdcldfmmcaa.F Go.Proofs.YtoekmdcldfmmcaaW.PrintWords Go.Proofs.YtoekmdcldfmmcaaW.PrintLast
set_option linter.unusedVariables false
set_option linter.unusedSimpArgs false
theorem RingLooks : ringLooks.Law := by
  intro y0 y1 y2 h0 h1 h2
  obtain ⟨k, hk⟩ : ∃ k, 500 ≤ k := ⟨500, Nat.le_refl _⟩
  refine ⟨k, ?_⟩
  unfold L05_RingLooks.f
  by_cases c : (y0.f2.length : Int) > 40
  · rw [if_pos c, awake k (by omega)]
    rfl
  · rw [if_neg c, ownRing _ _ _ (by omega)]
    obtain ⟨x, y, z, hn⟩ := new_len y1
    rw [newEq, hn]
    simp only [Option.bind_some]
    rw [sameRing x y [] k (by simp) (by omega)]
    simp only [Option.bind_some]
    rw [if_pos trivial, bne_self_eq_false]
    exact looks0 k (by omega) _ _ _ (by omega) _ _
end Go.Proofs.Ytoekmdcldfmmcaa.Pure
end
section
/- The statement RingLooks holds: the law's function answers true at every input, and the input reads as it did. No condition. (Written by fork.py; its parameters are structs.) -/
namespace Go.Proofs.Ytoekmdcldfmmcaa.ringLooks
open Go.ChangeShapes Go.WideShapes Go.ChangeAt Go.RowKit Go.Proofs.YtoekmdcldfmmcaaW.PrintWords
open Go.ChangeMaps (open_string shut_string)
set_option linter.unusedVariables false
theorem own : ownKnob Try.prog.godebug = none := by kernel_rfl
theorem laidOut : laidOutB Try.prog = true := by kernel_rfl
theorem opens35 : F.Opens Try.prog 35 F.k35 Wf35 := by
  have h := F.opens_struct (fun x : F.S35 => (x.f0, x.f1)) (fun y => ⟨y.1, y.2⟩) (fun _ => rfl) Try.underlying35 (by kernel_rfl)
    (F.opensFs_cons rfl (F.opens_int Try.underlying22 (by kernel_rfl)) (F.opensFs_one rfl (F.opens_int Try.underlying3 (by kernel_rfl))))
  exact h
theorem opens25 : F.Opens Try.prog 25 F.k25 Wf25 := by
  have h := F.opens_struct (fun x : F.S25 => (x.f0, x.f1, x.f2)) (fun y => ⟨y.1, y.2.1, y.2.2⟩) (fun _ => rfl) Try.underlying25 (by kernel_rfl)
    (F.opensFs_cons rfl (F.opens_int Try.underlying3 (by kernel_rfl)) (F.opensFs_cons rfl (F.opens_int Try.underlying22 (by kernel_rfl)) (F.opensFs_one rfl (F.opens_slice Try.underlying23 (by kernel_rfl) opens35))))
  exact h
set_option maxRecDepth 100000 in
theorem lifted (os : Os) (started : os.Started) (H : Type) (enc : TypeId × Value → H) :
    ReturnsInHanded {} Try.checked os 4 .any (Rows.ringLooksSpec.pre6 enc Try.prog Try.f4 Rows.ringLooksRow.domain false) (Rows.ringLooksSpec.post enc Try.prog Try.f4 false true false false) := by
  refine returnsInHanded_of_change_sized (C := Try.checked) own started (by kernel_rfl) Try.func4
    (ChangeSpec.witness6 (enc := enc) (C := Try.checked) false ⟨#[], #[.agg #[.int .i64 0, .int .u64 0, .slice none 0 0], .int .i64 0, .int .u64 0], []⟩ 8 (by kernel_rfl) (by kernel_rfl) (by kernel_rfl) (by kernel_rfl)) ?_
  intro W base args ds gs before hval0 hW hcnd hsz0 _
  have hval : ∀ (j : Nat) t v, Try.f4.params[j]? = some t → args[j]? = some v → Value.okWide Try.prog W .any base t v := hval0
  have hW' := hW
  obtain ⟨p, q, hA0, hV, rfl, hfz, hnd⟩ := hW
  have hA : DataW.TrodAll enc Try.prog W 0 (fun _ => true) true Try.f4.params.toList args.toList ds p := hA0
  rw [Try.params4] at hA hval
  obtain ⟨v0, vs0, d0, ds0, p0, q0, hargs, rfl, rfl, h0, r0⟩ := trodAll_cons hA
  obtain ⟨v1, vs1, d1, ds1, p1, q1, rfl, rfl, rfl, h1, r1⟩ := trodAll_cons r0
  obtain ⟨v2, vs2, d2, ds2, p2, q2, rfl, rfl, rfl, h2, r2⟩ := trodAll_cons r1
  obtain ⟨rfl, rfl, rfl⟩ := trodAll_nil r2
  obtain rfl : args = #[v0, v1, v2] := by cases args; simp_all
  obtain ⟨rfl, rfl⟩ := trodVars_none hV
  have lt0 : ∀ x ∈ p0, x.block < W.heap.size := by obtain ⟨m, hm⟩ := h0; exact DataW.trod_lt m _ _ _ hm
  have lt1 : ∀ x ∈ p1, x.block < W.heap.size := by obtain ⟨m, hm⟩ := h1; exact DataW.trod_lt m _ _ _ hm
  have lt2 : ∀ x ∈ p2, x.block < W.heap.size := by obtain ⟨m, hm⟩ := h2; exact DataW.trod_lt m _ _ _ hm
  obtain ⟨cs0, rfl, _⟩ := okWide_struct Try.underlying25 (hval 0 25 v0 rfl rfl)
  obtain ⟨y0, K0, f0⟩ := opens25.arg h0
  obtain ⟨A0_2, c0_2, e0, l0_2, g0_2⟩ := F.k25_open K0
  obtain rfl : cs0 = #[.int .i64 y0.f0, .int .u64 y0.f1, .slice A0_2 y0.f2.length c0_2] := Array.toList_inj.1 e0
  obtain ⟨y1, rfl, rfl, rfl, f1⟩ := open_int Try.underlying3 (hval 1 3 v1 rfl rfl) h1
  obtain ⟨y2, rfl, rfl, rfl, f2⟩ := open_int Try.underlying22 (hval 2 22 v2 rfl rfl) h2
  clear hA0 hval0 hsz0
  obtain ⟨k, hk⟩ := Pure.RingLooks y0 y1 y2 f0 f1 f2
  refine (F.L05_RingLooks.calls k y0.f0 y0.f1 _ _ y0.f2 y1 y2 true W g0_2 l0_2 hk).mono fun e W' ⟨he, bel⟩ => ?_
  subst he
  exact ⟨_, rfl, _, _, _, [], _, [], hW', trodAll_mk1 (shut_bool Try.underlying4 _), (trodAll_cons_mk (Below.trod laidOut (by kernel_rfl) (of_decide_eq_true (by kernel_rfl)) h0 bel lt0) (trodAll_cons_mk (shut_int Try.underlying3 f1) (trodAll_cons_mk (shut_int Try.underlying22 f2) trodAll_mk0))), rfl, bel.frame _, fun h => by cases h⟩
theorem over : Rows.ringLooksRow.holds Try.pinned (OpenSpec.ofChange Rows.ringLooksSpec) :=
  OpenClaim.holds_of_wide 4 Try.f4 rfl rfl rfl rfl rfl rfl rfl ⟨rfl, rfl, rfl, rfl, rfl⟩ rfl rfl rfl rfl rfl (by kernel_rfl) Try.func4 (by show joinedFacts Try.prog 4 Try.f4 Rows.ringLooksSpec Rows.ringLooksRow = true; unfold joinedFacts; rw [may_enter, lifts_not, make_cut]; kernel_rfl)
    (of_decide_eq_true (by kernel_rfl)) (by unfold Func.isWrapper; first | (rw [if_pos (by decide +kernel)]; kernel_rfl) | (rw [if_neg (by decide +kernel)]; exact ⟨rfl, rfl⟩))
    (fun os started H enc _ => lifted os started H enc)
theorem proved : Rows.RingLooksSaid := over
#print axioms proved
end Go.Proofs.Ytoekmdcldfmmcaa.ringLooks
namespace Go.Proofs.Ytoekmdcldfmmcaa
/-- The row, under a short name, for the claim. -/
theorem ringLooks_holds : Rows.RingLooksSaid := ringLooks.proved
end Go.Proofs.Ytoekmdcldfmmcaa
end
