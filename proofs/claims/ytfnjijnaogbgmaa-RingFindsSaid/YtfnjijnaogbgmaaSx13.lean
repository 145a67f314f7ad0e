/- A reckoner of Go code over told values: steps that make memory. -/
import Derived.Test.YtfnjijnaogbgmaaSx12
import Derived.Laws.MakeOwn
namespace Go.Sx
open Go Go.RowKit
set_option linter.unusedVariables false
set_option linter.unusedSimpArgs false

section
variable {P : Program} {E : Env} {S : Sg} {w W : World} {h : List Blk}

theorem ofV_cells (v : Value) : VRs S (ofV v).cells v.cells.toList := by
  have one : ∀ v : Value, v.cells = #[v] → (ofV v).cells = [ofV v] → VRs S (ofV v).cells v.cells.toList := by
    intro v h1 h2
    rw [h1, h2]
    exact ⟨v, [], rfl, ofV_ok v, by simp only [VRs]⟩
  cases v
  case agg cs => simp only [ofV, AV.cells, Value.cells]; exact ofSs_ok _
  case pointer a => exact one _ rfl (by cases a <;> rfl)
  case slice a n c => exact one _ rfl (by cases a <;> cases n <;> cases c <;> rfl)
  case map a => exact one _ rfl (by cases a <;> rfl)
  case func f a b => exact one _ rfl (by simp only [ofV]; split <;> rfl)
  all_goals exact one _ rfl rfl

theorem alloc_run (hE : EnvRows P E) {t : TypeId} {r : TRow} (hr : E.row t = some r) : (Instr.alloc t true (.tuple #[])).run P w = .ok (.pointer (some ⟨w.heap.size, 0, none⟩)) (w.alloc (.cells r.z.cells t)) := by
  simp [Instr.alloc, row_zero hE hr, newVar, newRow]
theorem box_run (t : TypeId) (v : Value) : (Instr.box t v).run P w = .ok (.pointer (some ⟨w.heap.size, 0, none⟩)) (w.alloc (.cells v.cells t)) := by
  simp [Instr.box, newVar, newRow]

/-- A new box. -/
theorem Rel.newBox (hr : Rel W S h w) {new : Nat} (hn : S.σ new = none) {t : TypeId} {cs : List AV} {cells : Array Value} (hc : VRs S cs cells.toList) :
    Rel W ⟨upd S.σ new (some (w.heap.size, 0)), S.F⟩ (hset h new (.box t cs)) (w.alloc (.cells cells t)) :=
  hr.new (Chg.alloc _ _) (fun _ h => h) hn ⟨w.heap.size, 0, cells, rfl, heap_alloc_new _ _, VRs.mono (upd_le hn) _ _ hc⟩ (fun g c h => by cases h; exact Nat.le_refl _)

theorem KR.ones {F : Frozen} : (∀ (K : Kd) (x : K.T) (vs : List Value), KR F K x vs → ∀ u ∈ vs, u.oneCell' = true) := by
  intro K x vs h
  have := KR.enc (S := ⟨fun _ => none, F⟩) K (fun _ => x) vs h
  have ho : ∀ (K : Kd) (x : Unit → K.T), Sx.ones (K.enc x) = true := by
    have app : ∀ a b : List AV, Sx.ones a = true → Sx.ones b = true → Sx.ones (a ++ b) = true := by
      intro a b h1 h2
      induction a with
      | nil => exact h2
      | cons c a ih => simp only [List.cons_append, Sx.ones, Bool.and_eq_true] at h1 ⊢; exact ⟨h1.1, ih h1.2⟩
    intro K
    exact Kd.rec (motive_1 := fun K => ∀ x : Unit → K.T, Sx.ones (K.enc x) = true) (motive_2 := fun fs => ∀ x : Unit → Kds.T fs, Sx.ones (Kds.enc fs x) = true)
      (fun k x => by simp [Kd.enc, Sx.ones, AV.one]) (fun x => by simp [Kd.enc, Sx.ones, AV.one]) (fun x => by simp [Kd.enc, Sx.ones, AV.one]) (fun e _ x => by simp [Kd.enc, Sx.ones, AV.one])
      (fun fs ih x => by simpa only [Kd.enc] using ih x) (fun x => by simp [Kds.enc, Sx.ones]) (fun k ks ih1 ih2 x => by simp only [Kds.enc]; exact app _ _ (ih1 _) (ih2 _)) K
  exact this.ones (ho K _)

theorem row_info (hE : EnvRows P E) {t : TypeId} {r : TRow} (h : E.row t = some r) : ∃ i, P.info? t = some i ∧ i.size = r.size ∧ i.bytes = r.bytes ∧ i.zero = some r.z := (hE.rows t r h).info
theorem row_slice (hE : EnvRows P E) {t e : TypeId} {r : TRow} (h : E.row t = some r) (hd : r.d = .slice e) : P.underlying t = some (.slice e) := by
  obtain ⟨desc, h1, h2⟩ := (hE.rows t r h).d
  rw [hd] at h2
  rw [h1, digest_slice h2]

theorem RowAt.zero {F : Frozen} {K : Kd} {z : Value} {n : Nat} (hz : zOk K z.cells.toList = some []) (hs : z.cells.size = K.size) (hp : 0 < K.size) : RowAt F K (madeCells z.cells (n * K.size)) (List.replicate n K.z) := by
  obtain ⟨v, h1, h2⟩ := zOk_ok F K _ _ hz
  rw [List.append_nil] at h1
  intro i x hi
  have hin : i < n := by
    have := (List.getElem?_eq_some_iff.1 hi).1
    simpa using this
  have hx : x = K.z := by
    rw [List.getElem?_replicate, if_pos hin] at hi
    exact (Option.some.inj hi).symm
  subst hx
  refine ⟨v, h2, fun j u hj => ?_⟩
  have hjl : j < K.size := by
    rw [← KR.len _ _ _ h2]
    exact (List.getElem?_eq_some_iff.1 hj).1
  have hlt : i * K.size + j < n * K.size := by
    have := Nat.mul_le_mul_right K.size (show i + 1 ≤ n from hin)
    rw [Nat.add_mul] at this
    omega
  rw [← h1] at hj
  simp only [madeCells]
  rw [Array.getElem?_map, Array.getElem?_range, if_pos hlt]
  simp only [Option.map_some]
  have e : (i * K.size + j) % z.cells.size = j := by
    rw [hs, Nat.mul_comm, Nat.mul_add_mod, Nat.mod_eq_of_lt hjl]
  rw [e]
  have hj' : z.cells[j]? = some u := by simpa using hj
  rw [getElem!_def, hj']

theorem makeSlice_ok (hE : EnvRows P E) (hr : Rel W S h w) {t e : TypeId} {rt re : TRow} {K : Kd} (ht : E.row t = some rt) (hd : rt.d = .slice e) (he : E.row e = some re) (hK : re.kd = some K) {n m : Int} {k1 k2 : IntKind}
    (ho : n = m ∧ 0 ≤ n ∧ n * re.bytes ≤ 140737488355328 ∧ n ≤ 9223372036854775807) {new : Nat} (hn : S.σ new = none) {f : Unit → List K.T} (hf : f () = List.replicate n.toNat K.z) :
    ∃ w', (Instr.makeSlice t (.int k1 n) (.int k2 m)).run P w = .ok (.slice (some ⟨w.heap.size, 0, none⟩) n.toNat n.toNat) w' ∧ Rel W ⟨upd S.σ new (some (w.heap.size, n.toNat)), S.F⟩ (hset h new (.row e K f)) w' := by
  obtain ⟨rfl, h0, h1, h2⟩ := ho
  obtain ⟨i, hi, hi1, hi2, hi3⟩ := row_info hE he
  have hk := (hE.rows e re he).kd K hK
  refine ⟨_, run_make w t e i re.z (row_slice hE ht hd) hi hi3 k1 k2 n n h0 (Int.le_refl _) (by rw [hi2, Int.mul_comm]; omega) h2, ?_⟩
  refine hr.new (Chg.alloc _ _) (fun _ h => h) hn ⟨_, heap_alloc_new _ _, ?_, ?_, ?_, ?_⟩ (fun g c h => by cases h; exact Nat.le_refl _)
  · rw [size_madeCells, hi1, hk.1]
  · rw [hf]; simp
  · simp only [maxLen]; omega
  · rw [hf, hi1, ← hk.1]
    exact RowAt.zero hk.2 (by rw [(hE.rows e re he).z, hk.1]) (by rw [hk.1]; exact (hE.rows e re he).pos)

theorem PartsR.cells : ∀ {ps : List (Nat × AV)} {vs : List (Nat × Value)}, PartsR S ps vs → ones (partCells ps) = true → ∀ p ∈ List.zip ps vs, VRs S p.1.2.cells p.2.2.cells.toList ∧ p.1.1 = p.2.1
  | [], vs, hp, ho, p, hm => by simp at hm
  | (i, x) :: ps, vs, hp, ho, p, hm => by
    simp only [PartsR] at hp
    obtain ⟨v, vs', rfl, h1, h2⟩ := hp
    have app : ∀ a b : List AV, Sx.ones (a ++ b) = true → Sx.ones a = true ∧ Sx.ones b = true := by
      intro a b h
      induction a with
      | nil => exact ⟨rfl, h⟩
      | cons c a ih => simp only [List.cons_append, Sx.ones, Bool.and_eq_true] at h ⊢; exact ⟨⟨h.1, (ih h.2).1⟩, (ih h.2).2⟩
    simp only [partCells] at ho
    obtain ⟨o1, o2⟩ := app _ _ ho
    simp only [List.zip_cons_cons, List.mem_cons] at hm
    rcases hm with rfl | hm
    · exact ⟨(h1.cells_ones o1).1, rfl⟩
    · exact PartsR.cells h2 o2 p hm

theorem fillRow_ok {S' : Sg} {K : Kd} {n : Nat} (hr : Rel W S h w) {ids : List Nat} (hS : S' = frzS S h ids w) :
    ∀ (ps : List (Nat × AV)) (vs : List (Nat × Value)) (ys r : List (Unit → K.T)) (cells : Array Value), PartsR S ps vs → ones (partCells ps) = true → allO (slObss h (partCells ps)) → (∀ i ∈ slsOf (partCells ps), i ∈ ids) →
      ys.length = n → cells.size = n * K.size → RowAt S'.F K cells (ys.map fun y => y ()) →
      ps.foldl (fun acc (p : Nat × AV) => match acc with | none => none | some l => match K.dec (frz h p.2.cells) with | some (y, []) => if p.1 < n then some (l.set p.1 y) else none | _ => none) (some ys) = some r →
      ∃ cells' : Array Value, Instr.fill (fun i => some (i * K.size, K.size)) cells vs = some cells' ∧ cells'.size = n * K.size ∧ r.length = n ∧ RowAt S'.F K cells' (r.map fun y => y ())
  | [], vs, ys, r, cells, hp, ho, hob, hid, hl, hs, hrow, hf => by
    simp only [PartsR] at hp
    subst hp
    simp only [List.foldl_nil, Option.some.injEq] at hf
    subst hf
    exact ⟨cells, rfl, hs, hl, hrow⟩
  | (i, x) :: ps, vs, ys, r, cells, hp, ho, hob, hid, hl, hs, hrow, hf => by
    simp only [PartsR] at hp
    obtain ⟨v, vs', rfl, h1, h2⟩ := hp
    have app : ∀ a b : List AV, Sx.ones (a ++ b) = true → Sx.ones a = true ∧ Sx.ones b = true := by
      intro a b h
      induction a with
      | nil => exact ⟨rfl, h⟩
      | cons c a ih => simp only [List.cons_append, Sx.ones, Bool.and_eq_true] at h ⊢; exact ⟨⟨h.1, (ih h.2).1⟩, (ih h.2).2⟩
    have obapp : ∀ a b : List AV, slObss h (a ++ b) = slObss h a ++ slObss h b := by
      intro a b
      induction a with
      | nil => rfl
      | cons c a ih => simp only [List.cons_append, slObss, ih, List.append_assoc]
    have slapp : ∀ a b : List AV, slsOf (a ++ b) = slsOf a ++ slsOf b := by
      intro a b
      induction a with
      | nil => rfl
      | cons c a ih => simp only [List.cons_append, slsOf, ih, List.append_assoc]
    simp only [partCells] at ho hob hid
    obtain ⟨o1, o2⟩ := app _ _ ho
    rw [obapp, allO_append] at hob
    rw [slapp] at hid
    simp only [List.foldl_cons] at hf
    cases hdec : K.dec (frz h x.cells) with
    | none => rw [hdec, fold_none _ (fun _ => rfl)] at hf; cases hf
    | some q =>
      obtain ⟨y, rest⟩ := q
      cases rest with
      | cons a b => rw [hdec, fold_none _ (fun _ => rfl)] at hf; cases hf
      | nil =>
        rw [hdec] at hf
        simp only at hf
        by_cases hi : i < n
        · rw [if_pos hi] at hf
          obtain ⟨hvc, hv1⟩ := h1.cells_ones o1
          have hfr := frz_ok hr (ids := ids) hvc hob.1 (fun j hj => hid j (List.mem_append_left _ hj))
          rw [← hS] at hfr
          have hkr := Kd.dec_all hdec hfr
          have hvl := KR.len _ _ _ hkr
          have hvs : v.cells.size = K.size := by simpa using hvl
          have hfit : i * K.size + v.cells.size ≤ cells.size := by
            rw [hvs, hs]
            have := Nat.mul_le_mul_right K.size (show i + 1 ≤ n from hi)
            rw [Nat.add_mul] at this
            omega
          obtain ⟨cells', h3, h4⟩ := fill_step (place := fun i => some (i * K.size, K.size)) (rest := vs') (i := i) rfl hvs hfit
          have hcs : cells'.size = n * K.size := by
            have := congrArg List.length h4
            rw [spliceV_length] at this
            simpa [hs] using this
          obtain ⟨c2, h5, h6, h7, h8⟩ := fillRow_ok hr hS ps vs' (ys.set i y) r cells' h2 o2 hob.2 (fun j hj => hid j (List.mem_append_right _ hj)) (by simpa using hl) hcs (by
            intro k z hk
            rw [List.map_set] at hk
            have hkl : k < ys.length := by
              have := (List.getElem?_eq_some_iff.1 hk).1
              simpa using this
            by_cases e : k = i
            · subst e
              have hz : z = y () := by
                rw [List.getElem?_set_self (by simpa using hkl)] at hk
                exact (Option.some.inj hk).symm
              subst hz
              refine ⟨v.cells.toList, hkr, fun j u hj => ?_⟩
              have : cells'.toList[k * K.size + j]? = some u := by
                rw [h4, spliceV_get _ _ _ _ (by simpa using hfit)]
                have hjl := (List.getElem?_eq_some_iff.1 hj).1
                rw [if_pos (by omega), Nat.add_sub_cancel_left]
                exact hj
              simpa using this
            · rw [List.getElem?_set_ne (by omega)] at hk
              obtain ⟨us, h9, h10⟩ := hrow k z hk
              refine ⟨us, h9, fun j u hj => ?_⟩
              have hjl : j < K.size := by
                rw [← KR.len _ _ _ h9]
                exact (List.getElem?_eq_some_iff.1 hj).1
              have : cells'.toList[k * K.size + j]? = some u := by
                rw [h4, spliceV_get _ _ _ _ (by simpa using hfit), if_neg]
                · simpa using h10 j u hj
                · have := mul_lt_row (fld := 0) (n := v.cells.toList.length) e hjl (by rw [Nat.zero_add, hvl]; exact Nat.le_refl _)
                  simpa using this
              simpa using this) hf
          exact ⟨c2, by rw [h3, h5], h6, h7, h8⟩
        · rw [if_neg hi, fold_none _ (fun _ => rfl)] at hf; cases hf

theorem slsOf_σ : ∀ {xs : List AV} {vs : List Value}, VRs S xs vs → ∀ i ∈ slsOf xs, S.σ i ≠ none
  | [], vs, h, i, hi => by simp [slsOf] at hi
  | x :: xs, vs, h, i, hi => by
    simp only [VRs] at h
    obtain ⟨v, vs', rfl, h1, h2⟩ := h
    simp only [slsOf, List.mem_append] at hi
    rcases hi with hi | hi
    · cases x <;> simp only [slOf, List.mem_singleton, List.not_mem_nil] at hi
      subst hi
      simp only [VR] at h1
      obtain ⟨r, h3, _⟩ := h1
      rw [h3]; simp
    · exact slsOf_σ h2 i hi
theorem partCells_σ : ∀ {ps : List (Nat × AV)} {vs : List (Nat × Value)}, PartsR S ps vs → ones (partCells ps) = true → ∀ i ∈ slsOf (partCells ps), S.σ i ≠ none
  | [], vs, hp, ho, i, hi => by simp [partCells, slsOf] at hi
  | (j, x) :: ps, vs, hp, ho, i, hi => by
    simp only [PartsR] at hp
    obtain ⟨v, vs', rfl, h1, h2⟩ := hp
    have app : ∀ a b : List AV, Sx.ones (a ++ b) = true → Sx.ones a = true ∧ Sx.ones b = true := by
      intro a b h
      induction a with
      | nil => exact ⟨rfl, h⟩
      | cons c a ih => simp only [List.cons_append, Sx.ones, Bool.and_eq_true] at h ⊢; exact ⟨⟨h.1, (ih h.2).1⟩, (ih h.2).2⟩
    have slapp : ∀ a b : List AV, slsOf (a ++ b) = slsOf a ++ slsOf b := by
      intro a b
      induction a with
      | nil => rfl
      | cons c a ih => simp only [List.cons_append, slsOf, ih, List.append_assoc]
    simp only [partCells] at ho hi
    obtain ⟨o1, o2⟩ := app _ _ ho
    rw [slapp, List.mem_append] at hi
    rcases hi with hi | hi
    · exact slsOf_σ (h1.cells_ones o1).1 i hi
    · exact partCells_σ h2 o2 i hi

theorem buildSlice_ok (hE : EnvRows P E) (hr : Rel W S h w) {t e : TypeId} {rt re : TRow} {K : Kd} (ht : E.row t = some rt) (hd : rt.d = .slice e) (he : E.row e = some re) (hK : re.kd = some K) {n : Nat} {ps : List (Nat × AV)} {vs : Array (Nat × Value)} {ys : List (Unit → K.T)}
    (hy : decs K n h ps = some ys) (hp : PartsR S ps vs.toList) (h1 : ones (partCells ps) = true) (hob : allO (slObss h (partCells ps))) (h24 : n * K.size ≤ 65536) {new : Nat} (hn : S.σ new = none) :
    ∃ w' S', (Instr.buildSlice t n vs).run P w = .ok (.slice (some ⟨w.heap.size, 0, none⟩) n n) w' ∧ S.le S' ∧ (∀ b, b < W.heap.size → S'.F b = S.F b) ∧ S'.σ = upd S.σ new (some (w.heap.size, n)) ∧
      Rel W S' (hsets h ((new, .row e K (fun _ => ys.map fun y => y ())) :: kill (slsOf (partCells ps)))) w' := by
  have hk := (hE.rows e re he).kd K hK
  have hpos : 0 < K.size := by rw [hk.1]; exact (hE.rows e re he).pos
  have hzs : re.z.cells.size = K.size := by rw [(hE.rows e re he).z, hk.1]
  have hle := frz_le hr (slsOf (partCells ps))
  have hrel := frz_rel hr (slsOf (partCells ps))
  obtain ⟨cells, h2, h3, h4, h5⟩ := fillRow_ok (K := K) (n := n) hr rfl ps vs.toList (List.replicate n (fun _ => K.z)) ys (madeCells re.z.cells (n * K.size)) hp h1 hob (fun _ h => h) (by simp) (size_madeCells _ _) (by
    simpa using RowAt.zero (n := n) hk.2 hzs hpos) hy
  have hn' : (frzS S h (slsOf (partCells ps)) w).σ new = none := hn
  have hrun : (Instr.buildSlice t n vs).run P w = .ok (.slice (some ⟨w.heap.size, 0, none⟩) n n) (w.alloc (.cells cells e)) := by
    obtain ⟨desc, hu1, hu2⟩ := row_under (w := w) hE ht
    rw [hd] at hu2
    obtain rfl := digest_slice hu2
    have hsz := row_size (w := w) hE he
    rw [← hk.1] at hsz
    have hz := row_zero (w := w) hE he
    have hlim : ¬ (n * K.size > 2 ^ 24) := by omega
    by_cases h0 : n * K.size = 0
    · have hc0 : madeCells re.z.cells (n * K.size) = #[] := by rw [h0]; simp [madeCells]
      rw [hc0] at h2
      have hm : (Array.range (n * K.size)).map (fun x => (#[] : Array Value)[x % (#[] : Array Value).size]!) = #[] := by rw [h0]; simp
      simp only [Instr.buildSlice, Sem.run_bind, hu1, hsz, Result.andThen, if_neg hlim, if_pos h0, Sem.run_pure, hm, h2, newRow, run_newObj_alloc]
    · have hm : (Array.range (n * K.size)).map (fun x => re.z.cells[x % re.z.cells.size]!) = madeCells re.z.cells (n * K.size) := rfl
      simp only [Instr.buildSlice, Sem.run_bind, hu1, hsz, Result.andThen, if_neg hlim, if_neg h0, hz, Sem.run_pure, hm, h2, newRow, run_newObj_alloc]
  refine ⟨_, ⟨upd S.σ new (some (w.heap.size, n)), (frzS S h (slsOf (partCells ps)) w).F⟩, hrun, hle.trans (upd_le hn'), frz_old hr _, rfl, ?_⟩
  refine (hrel.new (Chg.alloc _ _) (fun _ h => h) hn' (b := .row e K (fun _ => ys.map fun y => y ())) (r := some (w.heap.size, n)) ⟨_, heap_alloc_new _ _, h3, by simp [h4], by simp only [maxLen]; have := Nat.le_mul_of_pos_right n hpos; omega, h5⟩ (fun g c h => by cases h; exact Nat.le_refl _)).ext ?_
  intro m
  have hne : new ∉ slsOf (partCells ps) := fun hm => partCells_σ hp h1 new hm hn
  simp only [hsets]
  rw [hget_kill, hget_hset, hget_hset, hget_kill]
  by_cases e' : m = new
  · subst e'; simp [hne]
  · simp [e']

end
end Go.Sx
