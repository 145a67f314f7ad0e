/- A reckoner of Go code over told values: steps that look at no memory are true. -/
import Derived.Test.YtfnjijnaogbgmaaSx7
namespace Go.Sx
open Go Go.RowKit
set_option linter.unusedVariables false
set_option linter.unusedSimpArgs false
section
variable {P : Program} {E : Env} {S : Sg} {w : World}

theorem foldl_set (off : Nat) : ∀ (l : List Value) (k : Nat) (cs : Array Value), off + k + l.length ≤ cs.size →
    ((l.zipIdx k).foldl (fun cs (c, j) => cs.setIfInBounds (off + j) c) cs).toList = spliceV cs.toList (off + k) l ∧ ((l.zipIdx k).foldl (fun cs (c, j) => cs.setIfInBounds (off + j) c) cs).size = cs.size
  | [], k, cs, h => by
    refine ⟨?_, rfl⟩
    simp only [List.zipIdx_nil, List.foldl_nil]
    have : ∀ (l : List Value) (n : Nat), n ≤ l.length → spliceV l n [] = l := by
      intro l
      induction l with
      | nil => intro n hn; cases n with | zero => rfl | succ n => simp at hn
      | cons a l ih => intro n hn; cases n with | zero => rfl | succ n => simp [spliceV, ih n (by simpa using hn)]
    rw [this _ _ (by simpa using h)]
  | a :: l, k, cs, h => by
    simp only [List.length_cons] at h
    obtain ⟨h1, h2⟩ := foldl_set off l (k + 1) (cs.setIfInBounds (off + k) a) (by simp; omega)
    simp only [List.zipIdx_cons, List.foldl_cons]
    refine ⟨?_, by rw [h2]; simp⟩
    rw [h1]
    apply List.ext_getElem?
    intro i
    rw [spliceV_get _ _ _ _ (by simp; omega), spliceV_get _ _ _ _ (by simp; omega)]
    simp only [List.length_cons, Array.getElem?_toList, Array.getElem?_setIfInBounds]
    by_cases e : i = off + k
    · subst e
      rw [if_neg (by omega), if_pos (by omega)]
      simp
      omega
    · by_cases h3 : off + (k + 1) ≤ i ∧ i < off + (k + 1) + l.length
      · rw [if_pos h3, if_pos (by omega)]
        have : i - (off + k) = (i - (off + (k + 1))) + 1 := by omega
        rw [this, List.getElem?_cons_succ]
      · rw [if_neg h3, if_neg (by omega), if_neg (by omega)]

theorem fill_step {place : Nat → Option (Nat × Nat)} {cells : Array Value} {i off size : Nat} {v : Value} {rest : List (Nat × Value)} (hp : place i = some (off, size)) (hs : v.cells.size = size) (hf : off + v.cells.size ≤ cells.size) :
    ∃ cells' : Array Value, Instr.fill place cells ((i, v) :: rest) = Instr.fill place cells' rest ∧ cells'.toList = spliceV cells.toList off v.cells.toList := by
  refine ⟨v.cells.zipIdx.foldl (fun cs (c, j) => cs.setIfInBounds (off + j) c) cells, ?_, ?_⟩
  · simp only [Instr.fill, hp, hs]
    rw [if_neg (by simp; omega)]
  · rw [← Array.foldl_toList, Array.toList_zipIdx]
    simpa using (foldl_set off v.cells.toList 0 cells (by simpa using hf)).1

/-- Parts, told and true. -/
def PartsR (S : Sg) : List (Nat × AV) → List (Nat × Value) → Prop
  | [], vs => vs = []
  | (i, x) :: xs, vs => ∃ v vs', vs = (i, v) :: vs' ∧ VR S x v ∧ PartsR S xs vs'

theorem fold_none {α β : Type} (f : Option α → β → Option α) (hf : ∀ b, f none b = none) : ∀ l : List β, l.foldl f none = none
  | [] => rfl
  | b :: l => by rw [List.foldl_cons, hf, fold_none f hf l]

theorem fill_ok {place : Nat → Option (Nat × Nat)} {g : Nat → AV → List AV → Option (List AV)}
    (hg : ∀ i x cs cs', g i x cs = some cs' → ∃ off, place i = some (off, x.cells.length) ∧ ones x.cells = true ∧ splice cs off x.cells = some cs') :
    ∀ (ps : List (Nat × AV)) (vs : List (Nat × Value)) (cs : List AV) (cells : Array Value) (r : List AV), PartsR S ps vs → VRs S cs cells.toList →
      ps.foldl (fun acc (p : Nat × AV) => match acc with | none => none | some cs => g p.1 p.2 cs) (some cs) = some r →
      ∃ cells' : Array Value, Instr.fill place cells vs = some cells' ∧ VRs S r cells'.toList
  | [], vs, cs, cells, r, hp, hc, h => by
    simp only [PartsR] at hp
    subst hp
    simp only [List.foldl_nil, Option.some.injEq] at h
    subst h
    exact ⟨cells, rfl, hc⟩
  | (i, x) :: ps, vs, cs, cells, r, hp, hc, h => by
    simp only [PartsR] at hp
    obtain ⟨v, vs', rfl, hv, hps⟩ := hp
    simp only [List.foldl_cons] at h
    cases hgi : g i x cs with
    | none => rw [hgi, fold_none _ (fun _ => rfl)] at h; cases h
    | some cs' =>
      rw [hgi] at h
      obtain ⟨off, h1, h2, h3⟩ := hg _ _ _ _ hgi
      obtain ⟨h4, h5⟩ := hv.cells_ones h2
      obtain ⟨h6, h7⟩ := hc.splice h4 h3
      have hl := h4.length
      simp only [Array.length_toList] at hl h7
      obtain ⟨cells', h8, h9⟩ := fill_step (rest := vs') h1 hl h7
      obtain ⟨c2, h10, h11⟩ := fill_ok hg ps vs' cs' cells' r hps (by rw [h9]; exact h6) h
      exact ⟨c2, by rw [h8, h10], h11⟩

theorem szIs_row {t : TypeId} {n : Nat} (h : szIs E t n = true) : ∃ r, E.row t = some r ∧ r.size = n := by
  unfold szIs at h
  split at h
  · rename_i r hr
    exact ⟨r, hr, by simpa using h⟩
  · cases h

def plc (f : Field) : Sem (Nat × Nat) := do pure (f.offset, ← sizeOf f.type)
theorem plc_run (hE : EnvRows P E) {f : Field} {r : TRow} (h : E.row f.type = some r) : (plc f).run P w = .ok (f.offset, r.size) w := by
  simp [plc, row_size hE h]
theorem mapM_places (hE : EnvRows P E) : ∀ (fs : List Field) (hall : ∀ f ∈ fs, ∃ r, E.row f.type = some r),
    ∃ pl : List (Nat × Nat), (fs.mapM plc).run P w = .ok pl w ∧ ∀ i : Nat, pl[i]? = (fs[i]?).map fun f => (f.offset, (match E.row f.type with | some r => r.size | none => 0))
  | [], _ => ⟨[], by simp, by simp⟩
  | f :: fs, hall => by
    obtain ⟨pl, h1, h2⟩ := mapM_places hE fs fun f hf => hall f (List.mem_cons_of_mem _ hf)
    obtain ⟨r, hr⟩ := hall f (List.mem_cons_self ..)
    refine ⟨(f.offset, r.size) :: pl, ?_, ?_⟩
    · simp [List.mapM_cons, plc_run hE hr, h1]
    · intro i
      cases i with
      | zero => simp [hr]
      | succ i => simp [h2 i]

theorem knows_all : ∀ {fs : List Field}, knows E (fs.map fun f => (f.offset, f.type)) = true → ∀ f ∈ fs, ∃ r, E.row f.type = some r
  | [], _, f, hf => by cases hf
  | g :: fs, h, f, hf => by
    simp only [List.map_cons, knows, Bool.and_eq_true] at h
    rcases List.mem_cons.1 hf with rfl | hf
    · exact Option.isSome_iff_exists.1 h.1
    · exact knows_all h.2 f hf

theorem buildA_ok (hE : EnvRows P E) {t : TypeId} {ps : List (Nat × AV)} {vs : Array (Nat × Value)} {cs : List AV} (h : buildA E t ps = some cs) (hp : PartsR S ps vs.toList) :
    ∃ u, (Instr.build t vs).run P w = .ok u w ∧ VR S (.agg cs) u := by
  unfold buildA at h
  split at h
  · rename_i fs sz by_ z kd hr
    obtain ⟨desc, h1, h2⟩ := row_under (w := w) hE hr
    obtain ⟨a, rfl, ha⟩ := digest_st h2
    split at h
    case isFalse => cases h
    rename_i hkn
    rw [← ha] at hkn
    obtain ⟨pl, h3, h4⟩ := mapM_places (w := w) hE a.toList (knows_all hkn)
    obtain ⟨cells', h5, h6⟩ := fill_ok (S := S) (place := fun i => pl[i]?) (g := fun i x cs => match nth fs i with | some (off, ft) => if szIs E ft x.cells.length = true ∧ ones x.cells = true then splice cs off x.cells else none | none => none) (by
      intro i x cs cs' hg
      split at hg
      · rename_i off ft hn
        split at hg
        · rename_i hc
          obtain ⟨fd, h7, h8, h9⟩ := field_at ha hn
          obtain ⟨r, hr', hs⟩ := szIs_row hc.1
          refine ⟨off, ?_, hc.2, hg⟩
          rw [h4 i]
          simp only [Array.getElem?_toList, h7, Option.map_some, h8, h9, hr', hs]
        · cases hg
      · cases hg) ps vs.toList (ofSs z.toList) z cs hp (ofSs_ok _) h
    refine ⟨.agg cells', ?_, by simp only [VR]; exact ⟨_, rfl, h6⟩⟩
    have hz := row_zero (w := w) hE hr
    have hmap : (a.mapM plc).run P w = .ok pl.toArray w := by
      rw [Array.mapM_eq_mapM_toList]
      simp [h3]
    have he : Instr.build t vs = (do
        let zero := (← zeroValue t).cells
        match ← underlying t with
        | .struct fields =>
          let places ← fields.mapM plc
          let some cells := Instr.fill (places[·]?) zero vs.toList | stuck "build: no such field, or a part of the wrong size"
          pure (.agg cells)
        | .array _ elem =>
          let size ← sizeOf elem
          let some cells := Instr.fill (fun i => some (i * size, size)) zero vs.toList | stuck "build: a part of the wrong size"
          pure (.agg cells)
        | _ => stuck "build: struct or array type expected") := rfl
    rw [he]
    have h5' : Instr.fill (fun i => pl.toArray[i]?) z vs.toList = some cells' := by simpa using h5
    simp only [Sem.run_bind, hz, h1, hmap, Result.andThen, Value.cells, h5', Sem.run_pure]
  · rename_i n e sz by_ z kd hr
    obtain ⟨desc, h1, h2⟩ := row_under (w := w) hE hr
    obtain rfl := digest_arr h2
    split at h
    case isFalse => cases h
    rename_i hsome
    obtain ⟨re, hre⟩ := Option.isSome_iff_exists.1 hsome
    obtain ⟨cells', h5, h6⟩ := fill_ok (S := S) (place := fun i => some (i * re.size, re.size)) (g := fun i x cs => if szIs E e x.cells.length = true ∧ ones x.cells = true then splice cs (i * x.cells.length) x.cells else none) (by
      intro i x cs cs' hg
      split at hg
      · rename_i hc
        obtain ⟨r, hr', hs⟩ := szIs_row hc.1
        rw [hre] at hr'
        cases hr'
        exact ⟨_, by rw [hs], hc.2, hg⟩
      · cases hg) ps vs.toList (ofSs z.toList) z cs hp (ofSs_ok _) h
    refine ⟨.agg cells', ?_, by simp only [VR]; exact ⟨_, rfl, h6⟩⟩
    have hz := row_zero (w := w) hE hr
    simp only [Instr.build, Sem.run_bind, hz, h1, row_size hE hre, Result.andThen, Value.cells, h5, Sem.run_pure]
  · cases h

end
end Go.Sx
