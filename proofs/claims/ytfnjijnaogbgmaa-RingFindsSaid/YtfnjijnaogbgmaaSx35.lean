/- A reckoner of Go code over told values: rows made by append of make, maps that are deleted from. -/
import Derived.Test.YtfnjijnaogbgmaaSx34
namespace Go.Sx
open Go Go.RowKit
set_option linter.unusedVariables false
set_option linter.unusedSimpArgs false

section
variable {P : Program} {w : World}
theorem run_append_zeros (t ti ty e : TypeId) (i : TypeInfo) (z : Value) (ht : P.underlying t = some (.slice e)) (hti : P.underlying ti = some (.int .i64)) (hi : P.info? e = some i) (hz : i.zero = some z)
    (n : Nat) (h0 : 0 < n) (hs : 0 < i.size) (h63 : (n : Int) ≤ 4611686018427387904) (h48 : n * i.bytes ≤ 281474976710656) :
    (Builtin.append_ #[t, ti] ty #[.slice none 0 0, .int .i64 (n : Int)]).run P w =
      .ok (.slice (some ⟨w.heap.size, 0, none⟩) n (grownCap w n 0 e)) (w.drew.alloc (.cells (Builtin.zeroCells z.cells n ++ Builtin.zeroCells z.cells (grownCap w n 0 e - n)) e)) := by
  have hn : n ≠ 0 := by omega
  have hw : IntKind.i64.wrap (n : Int) = (n : Int) := w64 (by omega) (by omega)
  have h63' : ¬ (9223372036854775807 < (n : Int)) := by omega
  have h48' : ¬ (281474976710656 < Builtin.nextslicecap n 0 * i.bytes) := by rw [nextslicecap_zero h0]; omega
  have h48'' : ¬ (281474976710656 < (n : Int) * (i.bytes : Int)) := by
    have : ((n * i.bytes : Nat) : Int) ≤ 281474976710656 := by omega
    rw [Int.natCast_mul] at this
    omega
  have hneg : ¬ ((n : Int) < 0) := by omega
  have hpos : ¬ ((n : Int) ≤ 0) := by omega
  have hns : ¬ (n * i.size = 0) := by
    intro q
    rcases Nat.mul_eq_zero.1 q with q | q <;> omega
  simp [Builtin.append_, run_underlying ht, run_underlying hti, sizeOf, typeInfo, zeroValue, hi, hz, asInt, asIntOf, Builtin.lenOf, hn, hw, hneg, hpos, h63', h48', h48'', hns, Question.forced, run_firstCells_none, newRow, grownCap]
end
section
variable {G : Gl} {E : Env} {P : Program} {rs : List ResultVar}
/-- Zero elements by append of make, onto nothing. The row is told as empty: they are all given away behind it. -/
theorem AM.growMake (hG : GOk P G E rs) {fr : List AV} {h : List Blk} {R rest : List Oper} {o : Oper} {k : List It} {s x : Operand} {t ti e : TypeId} {rt re : TRow} {K : Kd} {n : SI} (hw : wantedA R fr o = .yes)
    (hop : o.op = .call { callee := .builtin .append, args := #[s, x], argTypes := #[t, ti] }) (hs : ev fr s = .nils) (hx : ev fr x = .int .i64 n) (ht : E.row t = some rt) (hd : rt.d = .slice e) (he : E.row e = some re) (hK : re.kd = some K)
    (hti : P.underlying ti = some (.int .i64)) (hn : 0 < n.d ∧ n.d ≤ 1000000000) (hb : n.d.toNat * re.bytes ≤ 140737488355328)
    (h1 : AM G ⟨putO fr o.dst (.sl h.length K.size (.l 0) (.t fun _ => n.d.toNat)), hset h h.length (.row e K fun _ => []), .ops R rest :: k⟩) : AM G ⟨fr, h, .ops R (o :: rest) :: k⟩ := by
  refine ⟨fun S a w hcfg => ?_⟩
  simp only [wpK]
  unfold wpListIn
  rw [if_pos (wantedA_yes hcfg.fr hw)]
  refine wpIn_of_wp (by rw [hop]; simp) ?_
  have hp := hG.p
  subst hp
  have hE : EnvRows G.P E := by
    have := hG.ok.rows
    rw [hG.e] at this
    exact this
  have e1 := hcfg.fr.ev s
  have e2 := hcfg.fr.ev x
  rw [hs] at e1
  rw [hx] at e2
  simp only [VR] at e1 e2
  obtain ⟨i, hi, hi1, hi2, hi3⟩ := row_info hE he
  have hsl := row_slice hE ht hd
  have hk := (hE.rows e re he).kd K hK
  have hpos := (hE.rows e re he).pos
  obtain ⟨m, hm⟩ : ∃ m : Nat, n.d = (m : Int) := ⟨n.d.toNat, by omega⟩
  rw [hm] at hn
  rw [hm, Int.toNat_natCast] at hb
  have hge := grownCap_ge w m 0 e
  have hcm := grownCap_le_maxLen w m 0 e (by simp only [maxLen]; omega)
  have hf : S.σ h.length = none := hcfg.fresh _ (Nat.le_refl _)
  have hrel := hcfg.rel.new (X := fun _ => False) (Chg.drewAlloc w (.cells (Builtin.zeroCells re.z.cells m ++ Builtin.zeroCells re.z.cells (grownCap w m 0 e - m)) e)) (fun _ h => h) hf (b := .row e K fun _ => []) (r := some (w.heap.size, grownCap w m 0 e))
    ⟨_, heap_alloc_new w.drew _, by
      rw [Array.size_append, zeroCells_size, zeroCells_size, (hE.rows e re he).z, ← hk.1, ← Nat.add_mul]
      congr 1
      omega, by simp, hcm, fun i x hi => by simp at hi⟩ (fun g c h => by cases h; exact Nat.le_refl _)
  have hrun : (execOp a.eval o).run G.P w = .ok (.value (.slice (some ⟨w.heap.size, 0, none⟩) m (grownCap w m 0 e))) (w.drew.alloc (.cells (Builtin.zeroCells re.z.cells m ++ Builtin.zeroCells re.z.cells (grownCap w m 0 e - m)) e)) := by
    have hr := run_append_zeros (P := G.P) (w := w) t ti o.type e i re.z hsl hti hi hi3 m (by omega) (by rw [hi1]; exact hpos) (by omega) (by rw [hi2]; omega)
    have : (Builtin.append_ #[t, ti] o.type (#[s, x].map a.eval)).run G.P w = .ok (.slice (some ⟨w.heap.size, 0, none⟩) m (grownCap w m 0 e)) (w.drew.alloc (.cells (Builtin.zeroCells re.z.cells m ++ Builtin.zeroCells re.z.cells (grownCap w m 0 e - m)) e)) := by
      have q : #[s, x].map a.eval = #[.slice none 0 0, .int .i64 (m : Int)] := by
        simp [e1, e2, hm]
      rw [q]
      exact hr
    simp only [execOp, hop]
    exact value_of' (s := Builtin.append_ #[t, ti] o.type (#[s, x].map a.eval)) this
  unfold Oper.wp
  rw [hrun]
  have := h1.go _ _ _ (hcfg.next (us := [(h.length, .row e K fun _ => [])]) (upd_le (r := some (w.heap.size, grownCap w m 0 e)) hf) (fun _ _ => rfl) (fun id hid => by simp only [upd]; rw [if_neg (by simpa using hid)]) hrel o.dst (x := .sl h.length K.size (.l 0) (.t fun _ => n.d.toNat)) (v := .slice (some ⟨w.heap.size, 0, none⟩) m (grownCap w m 0 e)) (by
    simp only [VR]
    exact ⟨some (w.heap.size, grownCap w m 0 e), by simp [upd], by simp [hm]; omega, 0, by simp [hm], .inl (by simp)⟩))
  simp only [wpK] at this
  exact this
end
/-- Entries of a map of numbers to truth values. -/
def EsI (es : List MapEntry) (l : List (Int × Bool)) : Prop := es.map (fun e => (e.key, e.val)) = l.map (fun kv => (Value.int .i64 kv.1, Value.bool kv.2))
def findI : List (Int × Bool) → Int → Nat → Option (Nat × Value)
  | [], _, _ => none
  | kv :: l, n, i => if n = kv.1 then some (i, .bool kv.2) else findI l n (i + 1)
def lookI : List (Int × Bool) → Int → Bool
  | [], _ => false
  | kv :: l, n => if n = kv.1 then kv.2 else lookI l n
def delI (l : List (Int × Bool)) (n : Int) : List (Int × Bool) := l.eraseP fun kv => n == kv.1
theorem EsI.cons {e : MapEntry} {es : List MapEntry} {l : List (Int × Bool)} (h : EsI (e :: es) l) : ∃ kv l', l = kv :: l' ∧ e.key = .int .i64 kv.1 ∧ e.val = .bool kv.2 ∧ EsI es l' := by
  cases l with
  | nil => simp [EsI] at h
  | cons kv l => simp only [EsI, List.map_cons, List.cons.injEq, Prod.mk.injEq] at h; exact ⟨kv, l, rfl, h.1.1, h.1.2, h.2⟩
theorem findNow_int (n : Int) : ∀ (es : List MapEntry) (l : List (Int × Bool)) (i : Nat), EsI es l → Instr.findNow (.int .i64) (.int .i64 n) es i = some (findI l n i)
  | [], l, i, h => by
    cases l with
    | nil => rfl
    | cons kv l => simp [EsI] at h
  | e :: es, l, i, h => by
    obtain ⟨kv, l', rfl, h1, h2, h3⟩ := h.cons
    rw [Instr.findNow, h1, h2, findI]
    simp only [Instr.sameNow, if_true]
    by_cases q : n = kv.1
    · simp [q]
    · rw [if_neg q, beq_eq_false_iff_ne.2 q]
      exact findNow_int n es l' (i + 1) h3
theorem findI_some {n : Int} : ∀ {l : List (Int × Bool)} {i j : Nat} {v : Value}, findI l n i = some (j, v) → i ≤ j ∧ j - i < l.length ∧ delI l n = l.eraseIdx (j - i) ∧ v = .bool (lookI l n)
  | [], i, j, v, h => by simp [findI] at h
  | kv :: l, i, j, v, h => by
    rw [findI] at h
    by_cases q : n = kv.1
    · rw [if_pos q] at h
      simp only [Option.some.injEq, Prod.mk.injEq] at h
      obtain ⟨rfl, rfl⟩ := h
      refine ⟨Nat.le_refl _, by simp, ?_, by rw [lookI, if_pos q]⟩
      rw [Nat.sub_self, List.eraseIdx_zero, List.tail_cons, delI, List.eraseP_cons_of_pos (by simp [q])]
    · rw [if_neg q] at h
      obtain ⟨h1, h2, h3, h4⟩ := findI_some h
      refine ⟨by omega, by simp; omega, ?_, by rw [lookI, if_neg q]; exact h4⟩
      rw [show j - i = (j - (i + 1)) + 1 by omega, List.eraseIdx_cons_succ, delI, List.eraseP_cons_of_neg (by simp [q]), ← delI, h3]
theorem findI_none {n : Int} : ∀ {l : List (Int × Bool)} {i : Nat}, findI l n i = none → delI l n = l ∧ lookI l n = false
  | [], i, h => ⟨rfl, rfl⟩
  | kv :: l, i, h => by
    rw [findI] at h
    by_cases q : n = kv.1
    · rw [if_pos q] at h; cases h
    · rw [if_neg q] at h
      obtain ⟨h1, h2⟩ := findI_none h
      exact ⟨by rw [delI, List.eraseP_cons_of_neg (by simp [q]), ← delI, h1], by rw [lookI, if_neg q]; exact h2⟩
theorem map_eraseI {α β : Type} (f : α → β) : ∀ (l : List α) (i : Nat), (l.eraseIdx i).map f = (l.map f).eraseIdx i
  | [], _ => rfl
  | a :: l, 0 => rfl
  | a :: l, i + 1 => by rw [List.eraseIdx_cons_succ, List.map_cons, List.map_cons, List.eraseIdx_cons_succ, map_eraseI f l i]
section
variable {P : Program} {w : World}
theorem run_checkKey_int {tk : TypeId} (htk : P.underlying tk = some (.int .i64)) (b : Bool) (n : Int) : (Instr.checkKey b 10000 tk (.int .i64 n)).run P w = .ok () w := by
  show (Instr.checkKey b (9999 + 1) tk (.int .i64 n)).run P w = _
  rw [Instr.checkKey]
  simp [run_underlying htk]
theorem run_findKey_int {tk : TypeId} (htk : P.underlying tk = some (.int .i64)) (n : Int) {es : List MapEntry} {l : List (Int × Bool)} (h : EsI es l) : (Instr.findKey tk (.int .i64 n) es).run P w = .ok (findI l n 0) w := by
  simp [Instr.findKey, run_underlying htk, findNow_int n es l 0 h]
end
section
variable {G : Gl} {E : Env} {P : Program} {rs : List ResultVar}
/-- A map of numbers to truth values is told by its object from here on. -/
theorem AM.openMap {fr : List AV} {h : List Blk} {k : List It} (id : Nat) {T : TypeId} {l : Unit → List (Int × Bool)} (hb : hget h id = .map T (.int .i64) .bool l) (hid : id < h.length)
    (h1 : ∀ es : Array MapEntry, EsI es.toList (l ()) → AM G ⟨fr, hset h id (.obj fun _ => .map es es.size), k⟩) : AM G ⟨fr, h, k⟩ := by
  refine ⟨fun S a w hcfg => ?_⟩
  have ha : alive (hget h id) = true := by rw [hb]; rfl
  obtain ⟨r, e1, e2⟩ := hcfg.rel.blk id ha
  rw [hb] at e2
  obtain ⟨g, c, es, rfl, e3, e4, e5⟩ := e2
  have hes : EsI es.toList (l ()) := by
    apply List.ext_getElem?
    intro i
    rw [List.getElem?_map, List.getElem?_map]
    rcases Nat.lt_or_ge i es.size with q | q
    · obtain ⟨q1, q2, q3⟩ := e5 i es[i] ((l ())[i]'(by omega)) (by simp [q]) (by simp)
      rw [List.getElem?_eq_getElem (by simpa using q), List.getElem?_eq_getElem (by omega)]
      simp only [KV, KR, List.cons.injEq, and_true] at q2 q3
      simp [q2, q3]
    · rw [List.getElem?_eq_none (by simpa using q), List.getElem?_eq_none (by omega)]
      rfl
  have hrel := hcfg.rel.write ha e1 (w' := w) ⟨rfl, rfl, rfl, Nat.le_refl _, fun _ _ _ => rfl⟩ (b := .obj fun _ => .map es es.size) ⟨g, c, rfl, e3⟩
  exact (h1 es hes).go S a w ⟨hrel, hcfg.old, hcfg.le, fun id' h' => hcfg.fresh id' (by have h' : (hset h id (.obj fun _ => .map es es.size)).length ≤ id' := h'; rw [hset_length] at h'; show h.length ≤ id'; omega), hcfg.fr, hcfg.defers⟩
/-- An entry is deleted. -/
theorem AM.delMap (hG : GOk P G E rs) {fr : List AV} {h : List Blk} {R rest : List Oper} {o : Oper} {k : List It} {m x : Operand} {t ti tk te : TypeId} {id : Nat} {n : SI} {es : Array MapEntry} {clock : Nat} {l : List (Int × Bool)} (hw : wantedA R fr o = .yes)
    (hop : o.op = .call { callee := .builtin .delete, args := #[m, x], argTypes := #[t, ti] }) (hm : ev fr m = .mp id) (hx : ev fr x = .int .i64 n) (hb : hget h id = .obj fun _ => .map es clock) (ht : P.underlying t = some (.map tk te)) (htk : P.underlying tk = some (.int .i64)) (hes : EsI es.toList l)
    (h1 : ∀ es' : Array MapEntry, EsI es'.toList (delI l n.d) → AM G ⟨putO fr o.dst (.tup []), hset h id (.obj fun _ => .map es' clock), .ops R rest :: k⟩) : AM G ⟨fr, h, .ops R (o :: rest) :: k⟩ := by
  refine ⟨fun S a w hcfg => ?_⟩
  simp only [wpK]
  unfold wpListIn
  rw [if_pos (wantedA_yes hcfg.fr hw)]
  refine wpIn_of_wp (by rw [hop]; simp) ?_
  have hp := hG.p
  subst hp
  have ha : alive (hget h id) = true := by rw [hb]; rfl
  obtain ⟨r, e1, e2⟩ := hcfg.rel.blk id ha
  rw [hb] at e2
  obtain ⟨g, c, rfl, e3⟩ := e2
  have e4 := hcfg.fr.ev m
  have e5 := hcfg.fr.ev x
  rw [hm] at e4
  rw [hx] at e5
  simp only [VR] at e4 e5
  obtain ⟨g', c', e6, e7⟩ := e4
  rw [e1] at e6
  obtain ⟨rfl, rfl⟩ : g = g' ∧ c = c' := by simpa using e6
  have hg : g < w.heap.size := (Array.getElem?_eq_some_iff.1 e3).1
  have key : ∃ es' : Array MapEntry, EsI es'.toList (delI l n.d) ∧ (Builtin.delete_ #[t, ti] o.type (#[m, x].map a.eval)).run G.P w = .ok (.tuple #[]) { w with heap := w.heap.setIfInBounds g (.map es' clock) } := by
    have q : #[m, x].map a.eval = #[.map (some g), .int .i64 n.d] := by simp [e5, e7]
    rw [q]
    rcases hf : findI l n.d 0 with _ | ⟨j, v⟩
    · refine ⟨es, by rw [(findI_none hf).1]; exact hes, ?_⟩
      simp [Builtin.delete_, run_underlying ht, getObj, setObj, Sem.run, Result.andThen, e3, run_checkKey_int htk, run_findKey_int htk _ hes, hf]
    · obtain ⟨_, h2, h3, h4⟩ := findI_some hf
      rw [Nat.sub_zero] at h2 h3
      refine ⟨es.eraseIdxIfInBounds j, ?_, ?_⟩
      · rw [h3]
        have hl : es.size = l.length := by
          have := congrArg List.length hes
          simpa using this
        rw [Array.eraseIdxIfInBounds, dif_pos (by omega), Array.toList_eraseIdx]
        unfold EsI at hes ⊢
        rw [map_eraseI, map_eraseI, hes]
      · simp [Builtin.delete_, run_underlying ht, getObj, setObj, Sem.run, Result.andThen, e3, run_checkKey_int htk, run_findKey_int htk _ hes, hf]
  obtain ⟨es', hes', hrun'⟩ := key
  have hrun : (execOp a.eval o).run G.P w = .ok (.value (.tuple #[])) { w with heap := w.heap.setIfInBounds g (.map es' clock) } := by
    simp only [execOp, hop]
    exact value_of' (s := Builtin.delete_ #[t, ti] o.type (#[m, x].map a.eval)) hrun'
  have hch : Chg w { w with heap := w.heap.setIfInBounds g (.map es' clock) } (fun k => k = g) := by
    refine ⟨rfl, rfl, rfl, by simp, fun k hk hx => ?_⟩
    simp only
    rw [Array.getElem?_setIfInBounds_ne (fun e => hx e.symm)]
  have hrel := hcfg.rel.write ha e1 hch (b := .obj fun _ => .map es' clock) ⟨g, c, rfl, by simp [hg]⟩
  unfold Oper.wp
  rw [hrun]
  have := (h1 es' hes').go S _ _ (hcfg.next (us := [(id, .obj fun _ => .map es' clock)]) (.refl _) (fun _ _ => rfl) (fun _ _ => rfl) hrel o.dst (x := .tup []) (v := .tuple #[]) (by simp [VR, VRs]))
  simp only [wpK] at this
  exact this
/-- An entry is looked up. -/
theorem AM.lookMap (hG : GOk P G E rs) {fr : List AV} {h : List Blk} {R rest : List Oper} {o : Oper} {k : List It} {m x : Operand} {t tk te : TypeId} {id : Nat} {n : SI} {es : Array MapEntry} {clock : Nat} {l : List (Int × Bool)} (hw : wantedA R fr o = .yes)
    (hop : o.op = .lookup t m x false) (hm : ev fr m = .mp id) (hx : ev fr x = .int .i64 n) (hb : hget h id = .obj fun _ => .map es clock) (ht : P.underlying t = some (.map tk te)) (htk : P.underlying tk = some (.int .i64)) (hte : ∀ w, (zeroValue te).run P w = .ok (.bool false) w) (hes : EsI es.toList l)
    (h1 : AM G ⟨putO fr o.dst (.bool (.t fun _ => lookI l n.d)), h, .ops R rest :: k⟩) : AM G ⟨fr, h, .ops R (o :: rest) :: k⟩ := by
  refine ⟨fun S a w hcfg => ?_⟩
  simp only [wpK]
  unfold wpListIn
  rw [if_pos (wantedA_yes hcfg.fr hw)]
  refine wpIn_of_wp (by rw [hop]; simp) ?_
  have hp := hG.p
  subst hp
  have ha : alive (hget h id) = true := by rw [hb]; rfl
  obtain ⟨r, e1, e2⟩ := hcfg.rel.blk id ha
  rw [hb] at e2
  obtain ⟨g, c, rfl, e3⟩ := e2
  have e4 := hcfg.fr.ev m
  have e5 := hcfg.fr.ev x
  rw [hm] at e4
  rw [hx] at e5
  simp only [VR] at e4 e5
  obtain ⟨g', c', e6, e7⟩ := e4
  rw [e1] at e6
  obtain ⟨rfl, rfl⟩ : g = g' ∧ c = c' := by simpa using e6
  have hrun' : (Instr.lookup t (a.eval m) (a.eval x) false).run G.P w = .ok (.bool (lookI l n.d)) w := by
    rw [e5, e7]
    rcases hf : findI l n.d 0 with _ | ⟨j, v⟩
    · simp [Instr.lookup, run_underlying ht, getObj, Sem.run, Result.andThen, e3, run_checkKey_int htk, run_findKey_int htk _ hes, hf, hte, (findI_none hf).2]
    · obtain ⟨_, _, _, h4⟩ := findI_some hf
      simp [Instr.lookup, run_underlying ht, getObj, Sem.run, Result.andThen, e3, run_checkKey_int htk, run_findKey_int htk _ hes, hf, h4]
  have hrun : (execOp a.eval o).run G.P w = .ok (.value (.bool (lookI l n.d))) w := by
    simp only [execOp, hop]
    exact value_of' hrun'
  unfold Oper.wp
  rw [hrun]
  have := h1.go S _ _ (hcfg.next (us := []) (.refl _) (fun _ _ => rfl) (fun _ _ => rfl) hcfg.rel o.dst (x := .bool (.t fun _ => lookI l n.d)) (v := .bool (lookI l n.d)) (by simp [VR, SB.d]))
  simp only [wpK] at this
  exact this
end
end Go.Sx
