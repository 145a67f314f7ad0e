/- An argument that reads as data, opened into the print's kinds: generic over the program; by hand. -/
import Derived.Test.YtlcghmfkgblheaaF0
import Derived.ChangeArms
import Derived.OpenShut
import Derived.ChangeShapes
namespace Go.Proofs.Ytlcghmfkgblheaa.F
open Go.RowKit Go.Proofs.YtlcghmfkgblheaaW.PrintWords Go.Proofs.YtlcghmfkgblheaaW.PrintLast Go.Proofs.YtlcghmfkgblheaaW.PrintMore
set_option linter.unusedVariables false
set_option linter.unusedSimpArgs false

/-- Cells of type t that read as data hold a value of the kind d, which is well formed (Wf). -/
def Opens {α : Type} (P : Program) (t : TypeId) (d : Kd α) (Wf : α → Prop) : Prop :=
  P.cellsOf t = d.sz ∧ ∀ {H : Type} (enc : TypeId × Value → H) (w : World) (sp : Nat → Bool) (held : Bool) (fuel : Nat) (cs : List Value) (x : DataW H × List MemPlace),
    DataW.trod enc P w 0 sp held fuel t cs = some x → ∃ y : α, d.K w y cs ∧ Wf y

theorem opens_int {P : Program} {t : TypeId} {k : IntKind} (ht : P.underlying t = some (.int k)) (hc : P.cellsOf t = 1) : Opens P t (Kd.int k) (fun n => (Lit.int k n).wf = true) := by
  refine ⟨hc, fun enc w sp held fuel cs x h => ?_⟩
  cases fuel with
  | zero => simp [DataW.trod] at h
  | succ n =>
    unfold DataW.trod at h
    rw [ht] at h
    split at h <;> simp_all
    exact ⟨_, rfl, h.1.2⟩

theorem opens_bool {P : Program} {t : TypeId} (ht : P.underlying t = some .bool) (hc : P.cellsOf t = 1) : Opens P t Kd.bool (fun _ => True) := by
  refine ⟨hc, fun enc w sp held fuel cs x h => ?_⟩
  cases fuel with
  | zero => simp [DataW.trod] at h
  | succ n =>
    unfold DataW.trod at h
    rw [ht] at h
    split at h <;> first | exact ⟨_, rfl, trivial⟩ | simp_all

theorem opens_slice {α : Type} {P : Program} {t e : TypeId} {d : Kd α} {Wf : α → Prop} (ht : P.underlying t = some (.slice e)) (hc : P.cellsOf t = 1) (hd : Opens P e d Wf) : Opens P t (Kd.slice e d) (fun l => ∀ y ∈ l, Wf y) := by
  refine ⟨hc, fun enc w sp held fuel cs x h => ?_⟩
  rcases DataW.trod_slice ht h with ⟨rfl, _⟩ | ⟨a, len, cap, elems, rest, n, rfl, rfl, _, _, hle, hcap, hel, he, _, _⟩
  · exact ⟨[], ⟨none, 0, rfl, Nat.le_refl _, rfl, by simp, fun h => by simp at h⟩, fun _ h => (List.not_mem_nil h).elim⟩
  · have hone : ∀ i : Fin len, ∃ y : α, (∃ c, c.length = d.sz ∧ d.K w y c ∧ ∀ j u, c[j]? = some u → w.cell? (a.add (i.1 * d.sz + j)) = some u) ∧ Wf y := by
      intro i
      have h1 := he i.1 i.2
      have h2 : i.1 < elems.length := by rw [hel]; exact i.2
      rw [List.getElem?_eq_getElem h2] at h1
      obtain ⟨c, hc1, hc2⟩ := Option.bind_eq_some_iff.mp h1
      obtain ⟨y, hy, hw⟩ := hd.2 enc w sp held n c _ hc2
      rw [hd.1] at hc1
      have h3 := World.cells?_some hc1
      refine ⟨y, ⟨c, d.K_len hy, hy, fun j u hu => ?_⟩, hw⟩
      have hj := (List.getElem?_eq_some_iff.1 hu).1
      have h4 := h3.2.2 j (by rw [← h3.2.1]; exact hj)
      rw [hu] at h4
      rw [Addr.add_add] at h4
      exact h4
    refine ⟨List.ofFn (fun i : Fin len => Classical.choose (hone i)), ⟨some a, cap, by simp, by simpa using hle, by simp, by simp only [maxLen] at hcap; simp; omega, fun _ => ⟨a, rfl, fun j p hp => ?_⟩⟩, fun y hy => ?_⟩
    · obtain ⟨hj, e⟩ := List.getElem?_eq_some_iff.1 hp
      rw [List.getElem_ofFn] at e
      subst e
      exact (Classical.choose_spec (hone ⟨j, by simpa using hj⟩)).1
    · rw [List.mem_ofFn] at hy
      obtain ⟨i, rfl⟩ := hy
      exact (Classical.choose_spec (hone i)).2

/-- Fields from off on. -/
def OpensFs {α : Type} (P : Program) (fs : List Field) (off : Nat) (d : Kd α) (Wf : α → Prop) : Prop :=
  ∀ (H : Type) (enc : TypeId × Value → H) (w : World) (sp : Nat → Bool) (held : Bool) (fuel : Nat) (cs : List Value),
    (∀ f ∈ fs, ∃ x, DataW.trod enc P w 0 sp held fuel f.type ((cs.drop f.offset).take (P.cellsOf f.type)) = some x) → cs.length = off + d.sz → ∃ y : α, d.K w y (cs.drop off) ∧ Wf y

theorem opensFs_one {α : Type} {P : Program} {f : Field} {off : Nat} {d : Kd α} {Wf : α → Prop} (ho : f.offset = off) (hd : Opens P f.type d Wf) : OpensFs P [f] off d Wf := by
  subst ho
  intro H enc w sp held fuel cs hf hl
  obtain ⟨x, hx⟩ := hf f List.mem_cons_self
  rw [List.take_of_length_le (by rw [List.length_drop, hd.1]; omega)] at hx
  exact hd.2 enc w sp held fuel _ x hx

theorem opensFs_cons {α β : Type} {P : Program} {f : Field} {fs : List Field} {off : Nat} {d : Kd α} {d1 : Kd β} {W0 : α → Prop} {W1 : β → Prop} (ho : f.offset = off) (hd : Opens P f.type d W0) (hs : OpensFs P fs (off + d.sz) d1 W1) :
    OpensFs P (f :: fs) off (Kd.pair d d1) (fun y => W0 y.1 ∧ W1 y.2) := by
  subst ho
  intro H enc w sp held fuel cs hf hl
  obtain ⟨x, hx⟩ := hf f List.mem_cons_self
  rw [hd.1] at hx
  obtain ⟨y, hy, hw⟩ := hd.2 enc w sp held fuel _ x hx
  obtain ⟨z, hz, hw'⟩ := hs H enc w sp held fuel cs (fun g hg => hf g (List.mem_cons_of_mem _ hg)) (by rw [hl]; exact (Nat.add_assoc _ _ _).symm)
  refine ⟨(y, z), ⟨_, _, ?_, hy, hz⟩, hw, hw'⟩
  rw [← List.drop_drop]
  exact (List.take_append_drop d.sz _).symm

theorem opens_struct {α β : Type} {P : Program} {t : TypeId} {fs : Array Field} {d : Kd α} {Wf : α → Prop} (f : β → α) (g : α → β) (hfg : ∀ y, f (g y) = y) (ht : P.underlying t = some (.struct fs)) (hc : P.cellsOf t = d.sz)
    (hs : OpensFs P fs.toList 0 d Wf) : Opens P t (Kd.iso d f) (fun x => Wf (f x)) := by
  refine ⟨hc, fun {H} enc w sp held fuel cs x h => ?_⟩
  obtain ⟨xs, n, rfl, _, hl, hxl, hx⟩ := DataW.trod_struct ht h
  have hq : ∀ q ∈ fs.toList, ∃ x, DataW.trod enc P w 0 sp held n q.type ((cs.drop q.offset).take (P.cellsOf q.type)) = some x := by
    intro q hq
    obtain ⟨i, hi, e⟩ := List.getElem_of_mem hq
    have hi' : i < fs.size := by simpa using hi
    have h1 := hx i q (by rw [Array.getElem?_eq_getElem hi']; exact congrArg some (by simpa using e))
    rw [List.getElem?_eq_getElem (by rw [hxl]; exact hi')] at h1
    exact ⟨_, h1⟩
  obtain ⟨y, hy, hw⟩ := hs H enc w sp held n cs hq (by rw [hl, hc, Nat.zero_add])
  refine ⟨g y, ?_, ?_⟩
  · show d.K w (f (g y)) cs
    rw [hfg]; exact hy
  · show Wf (f (g y))
    rw [hfg]; exact hw

/-- A value that is one argument, opened. -/
theorem Opens.arg {α : Type} {P : Program} {t : TypeId} {d : Kd α} {Wf : α → Prop} (h : Opens P t d Wf) {H : Type} {enc : TypeId × Value → H} {w : World} {sp : Nat → Bool} {held : Bool} {v : Value} {D : DataW H} {ps : List MemPlace}
    (ht : DataW.Trod enc P w 0 sp held t v D ps) : ∃ y : α, d.K w y v.cells.toList ∧ Wf y := by
  obtain ⟨fuel, hf⟩ := ht
  exact h.2 enc w sp held fuel _ _ hf

end Go.Proofs.Ytlcghmfkgblheaa.F
