/- A reckoner of Go code over told values: the arguments of a row. -/
import Derived.Test.YtfnjijnaogbgmaaSx21
import Derived.ChangeArms
import Derived.OpenShut
import Derived.ChangeShapes
import Derived.WideShapes
import Derived.ChangeMaps5
import Derived.Carry
namespace Go.Sx
open Go Go.RowKit
set_option linter.unusedVariables false
set_option linter.unusedSimpArgs false

/-- All memory, as it stands. -/
def heapF (w : World) : Frozen := fun b => w.heap[b]?
theorem FV.heap (w : World) : FV (heapF w) w := fun _ _ h => h

mutual
def Kd.wf : (K : Kd) → K.T → Prop
  | .int k, n => (Lit.int k n).wf = true
  | .bool, _ => True
  | .str, s => ByteArray.size s ≤ maxLen
  | .slice e, l => ∀ y : e.T, List.Mem (α := e.T) y l → e.wf y
  | .struct fs, x => Kds.wf fs x
def Kds.wf : (Ks : List Kd) → Kds.T Ks → Prop
  | [], _ => True
  | K :: Ks, x => K.wf x.1 ∧ Kds.wf Ks x.2
end

/-- Cells of type t that read as data hold a value of the kind K. -/
def OpensS (P : Program) (t : TypeId) (K : Kd) : Prop :=
  P.cellsOf t = K.size ∧ ∀ {H : Type} (enc : TypeId × Value → H) (w : World) (sp : Nat → Bool) (held : Bool) (fuel : Nat) (cs : List Value) (x : DataW H × List MemPlace),
    DataW.trod enc P w 0 sp held fuel t cs = some x → ∃ y : K.T, KR (heapF w) K y cs ∧ K.wf y

theorem opensS_int {P : Program} {t : TypeId} {k : IntKind} (ht : P.underlying t = some (.int k)) (hc : P.cellsOf t = 1) : OpensS P t (.int k) := by
  refine ⟨hc, fun enc w sp held fuel cs x h => ?_⟩
  obtain ⟨n, rfl, _, hw⟩ := DataW.trod_int ht h
  exact ⟨n, by simp only [KR], by simpa only [Kd.wf] using hw⟩
theorem opensS_bool {P : Program} {t : TypeId} (ht : P.underlying t = some .bool) (hc : P.cellsOf t = 1) : OpensS P t .bool := by
  refine ⟨hc, fun enc w sp held fuel cs x h => ?_⟩
  obtain ⟨n, rfl, _⟩ := DataW.trod_bool ht h
  exact ⟨n, by simp only [KR], by simp only [Kd.wf]⟩
theorem opensS_str {P : Program} {t : TypeId} (ht : P.underlying t = some .string) (hc : P.cellsOf t = 1) : OpensS P t .str := by
  refine ⟨hc, fun enc w sp held fuel cs x h => ?_⟩
  obtain ⟨n, rfl, _, hs⟩ := DataW.trod_string ht h
  exact ⟨n, by simp only [KR], by simpa only [Kd.wf] using hs⟩
theorem cell_heap {w : World} {a : Addr} {u : Value} (h : w.cell? a = some u) : ∃ cells T fz, a.spot = none ∧ w.heap[a.block]? = some (.cells cells T fz) ∧ cells[a.off]? = some u := by
  unfold World.cell? at h
  split at h
  · rename_i c T fz hb
    split at h
    · cases h
    · rename_i hs
      exact ⟨c, T, fz, by cases hsp : a.spot <;> simp_all, hb, h⟩
  · cases h
theorem add_block (a : Addr) (n : Nat) : (a.add n).block = a.block := by unfold Addr.add; split <;> rfl
theorem add_off (a : Addr) (n : Nat) : (a.add n).off = a.off + n := by unfold Addr.add; split <;> simp_all
theorem opensS_slice {P : Program} {t e : TypeId} {K : Kd} (hz : 0 < K.size) (ht : P.underlying t = some (.slice e)) (hc : P.cellsOf t = 1) (hd : OpensS P e K) : OpensS P t (.slice K) := by
  refine ⟨hc, fun enc w sp held fuel cs x h => ?_⟩
  rcases DataW.trod_slice ht h with ⟨rfl, _⟩ | ⟨a, len, cap, elems, rest, n, rfl, rfl, _, _, hle, hcap, hel, he, _, _⟩
  · exact ⟨[], by simp only [KR]; exact ⟨none, 0, rfl, Nat.le_refl _, .inl rfl⟩, by simp only [Kd.wf]; intro y hy; cases hy⟩
  · have hone : ∀ i : Fin len, ∃ y : K.T, (∃ c, c.length = K.size ∧ KR (heapF w) K y c ∧ ∀ j u, c[j]? = some u → w.cell? (a.add (i.1 * K.size + j)) = some u) ∧ K.wf y := by
      intro i
      have h1 := he i.1 i.2
      have h2 : i.1 < elems.length := by rw [hel]; exact i.2
      rw [List.getElem?_eq_getElem h2] at h1
      obtain ⟨c, hc1, hc2⟩ := Option.bind_eq_some_iff.mp h1
      obtain ⟨y, hy, hw⟩ := hd.2 enc w sp held n c _ hc2
      rw [hd.1] at hc1
      have h3 := World.cells?_some hc1
      refine ⟨y, ⟨c, KR.len _ _ _ hy, hy, fun j u hu => ?_⟩, hw⟩
      have hj := (List.getElem?_eq_some_iff.1 hu).1
      have h4 := h3.2.2 j (by rw [← h3.2.1]; exact hj)
      rw [hu] at h4
      rw [Addr.add_add] at h4
      exact h4
    refine ⟨List.ofFn (fun i : Fin len => Classical.choose (hone i)), ?_, ?_⟩
    · simp only [KR]
      refine ⟨some a, cap, by simp, by simpa using hle, ?_⟩
      cases len with
      | zero => exact .inl (by simp)
      | succ len =>
        obtain ⟨c0, hc0, _, hcell0⟩ := (Classical.choose_spec (hone 0)).1
        have hlt : 0 < c0.length := by rw [hc0]; exact hz
        obtain ⟨cells, T, fz, hs, hb, _⟩ := cell_heap (hcell0 0 c0[0] (List.getElem?_eq_getElem hlt))
        refine .inr ⟨a, cells, T, fz, rfl, by simpa [Addr.add] using hs, by simpa only [heapF, add_block] using hb, ?_⟩
        intro i x hx
        obtain ⟨hj, e⟩ := List.getElem?_eq_some_iff.1 hx
        rw [List.getElem_ofFn] at e
        subst e
        obtain ⟨c, _, hK, hcell⟩ := (Classical.choose_spec (hone ⟨i, by simpa using hj⟩)).1
        refine ⟨c, hK, fun j v hv => ?_⟩
        obtain ⟨cells', T', fz', _, hb', hv'⟩ := cell_heap (hcell j v hv)
        rw [add_block] at hb hb'
        rw [add_off] at hv'
        rw [hb] at hb'
        injection hb' with hb'
        injection hb' with hb'
        subst hb'
        rw [Nat.add_assoc]
        exact hv'
    · simp only [Kd.wf]
      intro y hy
      have hy : y ∈ List.ofFn _ := hy
      rw [List.mem_ofFn] at hy
      obtain ⟨i, rfl⟩ := hy
      exact (Classical.choose_spec (hone i)).2

/-- Fields from off on. -/
def OpensFsS (P : Program) (fs : List Field) (off : Nat) (Ks : List Kd) : Prop :=
  ∀ (H : Type) (enc : TypeId × Value → H) (w : World) (sp : Nat → Bool) (held : Bool) (fuel : Nat) (cs : List Value),
    (∀ f ∈ fs, ∃ x, DataW.trod enc P w 0 sp held fuel f.type ((cs.drop f.offset).take (P.cellsOf f.type)) = some x) → cs.length = off + Kds.size Ks → ∃ y : Kds.T Ks, KRs (heapF w) Ks y (cs.drop off) ∧ Kds.wf Ks y
theorem opensFsS_nil {P : Program} {off : Nat} : OpensFsS P [] off [] := by
  intro H enc w sp held fuel cs hf hl
  refine ⟨(), by simp only [KRs]; exact List.drop_of_length_le (by simp only [Kds.size] at hl; omega), by simp only [Kds.wf]⟩
theorem opensFsS_cons {P : Program} {f : Field} {fs : List Field} {off : Nat} {K : Kd} {Ks : List Kd} (ho : f.offset = off) (hd : OpensS P f.type K) (hs : OpensFsS P fs (off + K.size) Ks) : OpensFsS P (f :: fs) off (K :: Ks) := by
  subst ho
  intro H enc w sp held fuel cs hf hl
  obtain ⟨x, hx⟩ := hf f List.mem_cons_self
  rw [hd.1] at hx
  obtain ⟨y, hy, hw⟩ := hd.2 enc w sp held fuel _ x hx
  obtain ⟨z, hz, hw'⟩ := hs H enc w sp held fuel cs (fun g hg => hf g (List.mem_cons_of_mem _ hg)) (by rw [hl]; simp only [Kds.size]; omega)
  refine ⟨(y, z), ?_, by simp only [Kds.wf]; exact ⟨hw, hw'⟩⟩
  simp only [KRs]
  refine ⟨_, _, ?_, hy, hz⟩
  rw [← List.drop_drop]
  exact (List.take_append_drop K.size _).symm
theorem opensS_struct {P : Program} {t : TypeId} {fs : Array Field} {Ks : List Kd} (ht : P.underlying t = some (.struct fs)) (hc : P.cellsOf t = Kds.size Ks) (hs : OpensFsS P fs.toList 0 Ks) : OpensS P t (.struct Ks) := by
  refine ⟨by simpa only [Kd.size] using hc, fun {H} enc w sp held fuel cs x h => ?_⟩
  obtain ⟨xs, n, rfl, _, hl, hxl, hx⟩ := DataW.trod_struct ht h
  have hq : ∀ q ∈ fs.toList, ∃ x, DataW.trod enc P w 0 sp held n q.type ((cs.drop q.offset).take (P.cellsOf q.type)) = some x := by
    intro q hq
    obtain ⟨i, hi, e⟩ := List.getElem_of_mem hq
    have hi' : i < fs.size := by simpa using hi
    have h1 := hx i q (by rw [Array.getElem?_eq_getElem hi']; exact congrArg some (by simpa using e))
    rw [List.getElem?_eq_getElem (by rw [hxl]; exact hi')] at h1
    exact ⟨_, h1⟩
  obtain ⟨y, hy, hw⟩ := hs H enc w sp held n cs hq (by rw [hl, hc, Nat.zero_add])
  exact ⟨y, by simpa only [KR, List.drop_zero] using hy, by simpa only [Kd.wf] using hw⟩
/-- Elements from i on. -/
theorem opensArr {P : Program} {e : TypeId} {K : Kd} (hd : OpensS P e K) {H : Type} (enc : TypeId × Value → H) (w : World) (sp : Nat → Bool) (held : Bool) (fuel : Nat) (cs : List Value) (n : Nat)
    (hx : ∀ i, i < n → ∃ x, DataW.trod enc P w 0 sp held fuel e ((cs.drop (i * P.cellsOf e)).take (P.cellsOf e)) = some x) : ∀ (m i : Nat), i + m = n → cs.length = n * K.size → ∃ y : Kds.T (List.replicate m K), KRs (heapF w) (List.replicate m K) y (cs.drop (i * K.size)) ∧ Kds.wf (List.replicate m K) y
  | 0, i, hi, hl => by
    have hi : i = n := by omega
    subst hi
    exact ⟨(), by simp only [List.replicate, KRs]; exact List.drop_of_length_le (by rw [hl]; exact Nat.le_refl _), by simp only [List.replicate, Kds.wf]⟩
  | m + 1, i, hi, hl => by
    obtain ⟨x, h1⟩ := hx i (by omega)
    rw [hd.1] at h1
    obtain ⟨y, hy, hw⟩ := hd.2 enc w sp held fuel _ x h1
    obtain ⟨z, hz, hw'⟩ := opensArr hd enc w sp held fuel cs n hx m (i + 1) (by omega) hl
    refine ⟨(y, z), ?_, by simp only [List.replicate, Kds.wf]; exact ⟨hw, hw'⟩⟩
    simp only [List.replicate, KRs]
    refine ⟨_, _, ?_, hy, hz⟩
    rw [Nat.add_mul, Nat.one_mul, ← List.drop_drop]
    exact (List.take_append_drop K.size _).symm
theorem opensS_arr {P : Program} {t e : TypeId} {n : Nat} {K : Kd} (ht : P.underlying t = some (.array n e)) (hc : P.cellsOf t = n * K.size) (hs : Kds.size (List.replicate n K) = n * K.size) (hd : OpensS P e K) : OpensS P t (.struct (List.replicate n K)) := by
  refine ⟨by simp only [Kd.size]; rw [hc, hs], fun {H} enc w sp held fuel cs x h => ?_⟩
  obtain ⟨xs, m, rfl, _, hl, hxl, hx⟩ := DataW.trod_array ht h
  obtain ⟨y, hy, hw⟩ := opensArr hd enc w sp held m cs n (fun i hi => by rw [hx i hi, List.getElem?_eq_getElem (by rw [hxl]; exact hi)]; exact ⟨_, rfl⟩) n 0 (by omega) (by rw [hl, hc])
  exact ⟨y, by simpa only [KR, Nat.zero_mul, List.drop_zero] using hy, by simpa only [Kd.wf] using hw⟩

/-- An argument of the row. -/
theorem OpensS.arg {P : Program} {t : TypeId} {K : Kd} (h : OpensS P t K) {H : Type} {enc : TypeId × Value → H} {w : World} {r : Reach} {b0 : Nat} {sp : Nat → Bool} {held : Bool} {v : Value} {D : DataW H} {ps : List MemPlace}
    (hk : match K with | .struct _ => (∃ fs, P.underlying t = some (.struct fs)) ∨ (∃ n e, P.underlying t = some (.array n e)) | _ => ∀ cs, ¬ Value.okWide P w r b0 t (.agg cs))
    (hv : Value.okWide P w r b0 t v) (ht : DataW.Trod enc P w 0 sp held t v D ps) : ∃ y : K.T, VR ⟨fun _ => none, heapF w⟩ (encArg K fun _ => y) v ∧ K.wf y := by
  obtain ⟨fuel, hf⟩ := ht
  obtain ⟨y, hy, hw⟩ := h.2 enc w sp held fuel _ _ hf
  refine ⟨y, ?_, hw⟩
  have hone : (∀ cs, v ≠ .agg cs) → v.cells.toList = [v] := by
    intro hn
    cases v <;> first | rfl | exact absurd rfl (hn _)
  cases K with
  | struct fs =>
    have : ∃ cs, v = .agg cs := by
      rcases hk with ⟨fs, hu⟩ | ⟨n, e, hu⟩
      · simp only [Value.okWide, hu] at hv; obtain ⟨cs, h1, _⟩ := hv; exact ⟨cs, h1⟩
      · simp only [Value.okWide, hu] at hv; obtain ⟨cs, h1, _⟩ := hv; exact ⟨cs, h1⟩
    obtain ⟨cs, rfl⟩ := this
    simp only [encArg, VR]
    refine ⟨cs, rfl, ?_⟩
    simp only [KR] at hy
    exact KRs.enc fs (fun _ => y) _ hy
  | int k =>
    have he := hone fun cs e => hk cs (e ▸ hv)
    rw [he] at hy
    simp only [KR, List.cons.injEq, and_true] at hy
    simpa only [encArg, VR, SI.d_t] using hy
  | bool =>
    have he := hone fun cs e => hk cs (e ▸ hv)
    rw [he] at hy
    simp only [KR, List.cons.injEq, and_true] at hy
    simpa only [encArg, VR, SB.d_t] using hy
  | str =>
    have he := hone fun cs e => hk cs (e ▸ hv)
    rw [he] at hy
    simp only [KR, List.cons.injEq, and_true] at hy
    simpa only [encArg, VR] using hy
  | slice e =>
    have he := hone fun cs e => hk cs (e ▸ hv)
    rw [he] at hy
    simpa only [encArg, VR] using hy

theorem noAgg {P : Program} {w : World} {r : Reach} {b0 : Nat} {t : TypeId} (h1 : match P.underlying t with | some (.int _) => True | some .bool => True | some .string => True | some (.slice _) => True | _ => False) : ∀ cs, ¬ Value.okWide P w r b0 t (.agg cs) := by
  intro cs h
  simp only [Value.okWide] at h
  split at h <;> rename_i hu
  · rw [hu] at h1; exact h1
  · rw [hu] at h1; exact h1
  · simp only [Cell.okWide] at h
    split at h1 <;> rename_i hu2 <;> first | (simp_all [Cell.ok]; done) | exact h1

/-- A law's function: it gives true. -/
theorem law_of {P : Program} {f : FuncId} {sig : List Kd} {pre : Kds.T sig → Prop} (h : FnOk P f (sigSpec sig [.bool] (fun _ => (true, ())) pre)) {w : World} {args : Array Value} (y : Kds.T sig) (hp : pre y)
    (hd : decArgs sig (encArgs sig fun _ => y) = some fun _ => y) (hv : VRs ⟨fun _ => none, heapF w⟩ (encArgs sig fun _ => y) args.toList) : Calls P f args w fun e w' => e = .returned (.bool true) ∧ Below w.heap.size w w' := by
  refine (h.ok _ ⟨encRes [.bool] (fun _ => (true, ())), [], [fun _ => pre y]⟩ (by simp only [sigSpec, decSpec, hd]) (by simp only [allO, and_true]; exact hp) (heapF w) w args (FV.heap w) hv).mono ?_
  rintro e w' ⟨v, S', rfl, hr, _, _, _, hx⟩
  simp only [encRes, encArgs, encArg, oneOf, VR, SB.d_t] at hx
  subst hx
  exact ⟨rfl, hr.below⟩
end Go.Sx
