/- A reckoner of Go code over told values: strings that are appended and read out, pointers that are converted, functions without a body, iterators. -/
import Derived.Test.YtfnjijnaogbgmaaSx15
import Derived.Lib.AppendStr
import Derived.Lib.Builder
import Derived.Lib.UnsafeStr
import Derived.Laws.Externs
namespace Go.Sx
open Go Go.RowKit
set_option linter.unusedVariables false
set_option linter.unusedSimpArgs false

theorem strCells_I (s : ByteArray) : Lib.strCells s = (bytesI s).map fun n => Value.int .u8 n := by
  simp [Lib.strCells, bytesI, List.map_map, Function.comp_def]
theorem bytesI_length (s : ByteArray) : (bytesI s).length = s.size := by
  simp [bytesI]
theorem listAt_bytes (F : Frozen) (l : List Int) : ListAt F (.int .u8) (l.map fun n => Value.int .u8 n) l := by
  intro i x hi
  refine ⟨[.int .u8 x], by simp only [KR], fun j v hj => ?_⟩
  cases j with
  | zero =>
    simp at hj
    subst hj
    simp only [Kd.size, Nat.mul_one, Nat.add_zero, List.getElem?_map]
    have hi' : l[i]? = some x := hi
    rw [hi']; rfl
  | succ j => simp at hj

section
variable {P : Program} {E : Env} {S : Sg} {w W : World} {h : List Blk}

theorem run_unsafeStringI (w : World) (pt it ty e : TypeId) (hp : P.underlying pt = some (.pointer e)) (hc : P.cellsOf e = 1) (g cells : Nat) (hsh : w.shape? g = some (e, cells)) (l : List Int) (hby : ∀ n ∈ l, 0 ≤ n ∧ n < 256) (h0 : l ≠ []) (hn : l.length ≤ cells) (h63 : l.length ≤ 9223372036854775807)
    (hcell : ∀ j x, l[j]? = some x → w.cell? ((⟨g, 0, none⟩ : Addr).add j) = some (.int .u8 x)) :
    (Builtin.unsafeString_ #[pt, it] ty #[.pointer (some ⟨g, 0, none⟩), .int .i64 l.length]).run P w = .ok (.string (bytesOf l)) (w.freeze ⟨g, 0, none⟩ l.length) := by
  have hx : ∀ x, x ∈ l → ((x.toNat.toUInt8).toNat : Int) = x := by
    intro x hx
    obtain ⟨h1, h2⟩ := hby x hx
    have : x.toNat < 256 := by omega
    simp only [Nat.toUInt8, UInt8.toNat_ofNat']
    omega
  have := Lib.run_unsafeString_row (P := P) w pt it ty e hp hc g cells hsh (l.map fun n => n.toNat.toUInt8) (by simpa using h0) (by simpa using hn) (by simpa using h63) (by
    intro j x hj
    rw [List.getElem?_map] at hj
    obtain ⟨y, hy, rfl⟩ := Option.map_eq_some_iff.1 hj
    rw [hx y (List.mem_of_getElem? hy)]
    exact hcell j y hy)
  simpa only [List.length_map, bytesOf] using this

/-- A block is given up in a world that is changed there alone. -/
theorem Rel.kill (hr : Rel W S h w) {w' : World} {n g c : Nat} (ha : alive (hget h n) = true) (hσ : S.σ n = some (some (g, c))) (hc : Chg w w' (fun k => k = g)) : Rel W S (hset h n .dead) w' := by
  obtain ⟨ho1, ho2⟩ := hr.own n g c ha hσ
  refine ⟨hc.below hr.below (fun k hk => by rw [hk]; exact ho1), hr.fv.chg hc (fun k hk => by rw [hk]; exact ho2), ?_, ?_, ?_⟩
  · intro id hid
    rw [hget_hset] at hid ⊢
    by_cases e : id = n
    · rw [if_pos e] at hid; simp [alive] at hid
    · rw [if_neg e] at hid ⊢
      obtain ⟨r, h1, h2⟩ := hr.blk id hid
      refine ⟨r, h1, h2.mono (.refl _) fun g' c' hgc => ?_⟩
      subst hgc
      refine hc.block g' (h2.lt hid) fun hx => ?_
      subst hx
      exact e (hr.inj id n g' c' c hid ha h1 hσ)
  · intro id g' c' hid h1
    rw [hget_hset] at hid
    by_cases e : id = n
    · rw [if_pos e] at hid; simp [alive] at hid
    · rw [if_neg e] at hid; exact hr.own id g' c' hid h1
  · intro id id' g' c1 c2 hid hid' h1 h2
    rw [hget_hset] at hid hid'
    by_cases e : id = n
    · rw [if_pos e] at hid; simp [alive] at hid
    · by_cases e' : id' = n
      · rw [if_pos e'] at hid'; simp [alive] at hid'
      · rw [if_neg e] at hid; rw [if_neg e'] at hid'
        exact hr.inj id id' g' c1 c2 hid hid' h1 h2

theorem row_u8 (hE : EnvRows P E) {e : TypeId} {re : TRow} (he : E.row e = some re) (hK : re.kd = some (.int .u8)) : ∃ i, P.info? e = some i ∧ i.size = 1 ∧ i.bytes = re.bytes ∧ i.zero = some re.z ∧ re.z.cells.size = 1 ∧ P.cellsOf e = 1 := by
  obtain ⟨i, h1, h2, h3, h4⟩ := row_info hE he
  have hk := ((hE.rows e re he).kd _ hK).1
  have hz := (hE.rows e re he).z
  simp only [Kd.size] at hk
  refine ⟨i, h1, by omega, h3, h4, by omega, ?_⟩
  simp only [Program.cellsOf, h1, Option.map_some, Option.getD_some]
  omega

/-- A string's bytes onto nothing. -/
theorem appendS_empty (hE : EnvRows P E) (hr : Rel W S h w) {t u e ty : TypeId} {re : TRow} (ht : P.underlying t = some (.slice e)) (hu : P.underlying u = some .string) (he : E.row e = some re) (hK : re.kd = some (.int .u8)) (s : ByteArray)
    (ho1 : (bytesI s).length * re.bytes ≤ 140737488355328) (ho2 : (bytesI s).length ≤ maxLen) {new : Nat} (hn : S.σ new = none) {f : Unit → List Int} (hf : f () = bytesI s) {ln : SN} (hln : ln.d = (bytesI s).length) :
    ∃ v w' r, (Builtin.append_ #[t, u] ty #[.slice none 0 0, .string s]).run P w = .ok v w' ∧ Rel W ⟨upd S.σ new r, S.F⟩ (hset h new (.row e (.int .u8) f)) w' ∧ VR ⟨upd S.σ new r, S.F⟩ (.sl new 1 (.l 0) ln) v := by
  obtain ⟨i, hi, hi1, hi2, hi3, hz1, _⟩ := row_u8 hE he hK
  rw [bytesI_length] at ho1 ho2 hln
  by_cases h0 : s.size = 0
  · have hf0 : f () = [] := by rw [hf]; exact List.eq_nil_of_length_eq_zero (by rw [bytesI_length, h0])
    refine ⟨.slice none 0 0, w, none, ?_, ?_, ?_⟩
    · simp [Builtin.append_, run_underlying ht, run_underlying hu, sizeOf, typeInfo, hi, Builtin.lenOf, Builtin.firstCells, h0]
    · exact hr.new (X := fun _ => False) ⟨rfl, rfl, rfl, Nat.le_refl _, fun _ _ _ => rfl⟩ (fun _ h => h) hn (b := .row e (.int .u8) f) (r := none) (by simp only [BRel]; exact hf0) (fun g c h => by cases h)
    · simp only [VR]
      exact ⟨none, by simp [upd], rfl, by rw [hln, h0], none, rfl⟩
  · have hge := grownCap_ge w s.size 0 e
    have hcm := grownCap_le_maxLen w s.size 0 e ho2
    refine ⟨_, _, some (w.heap.size, grownCap w s.size 0 e), run_append_nil_string w t u ty e i re.z ht hu hi hi3 s (by omega) (by simp only [maxLen] at ho2; omega) (by rw [hi2]; omega), ?_, ?_⟩
    · refine hr.new (X := fun _ => False) (Chg.drewAlloc _ _) (fun _ h => h) hn (b := .row e (.int .u8) f) ⟨_, heap_alloc_new w.drew _, ?_, ?_, hcm, ?_⟩ (fun g c h => by cases h; exact Nat.le_refl _)
      · rw [Array.size_append, zeroCells_size, hz1, Array.size_map]
        have : s.data.size = s.size := rfl
        simp only [Kd.size]
        omega
      · rw [hf, bytesI_length]; exact hge
      · rw [hf]
        have := RowAt.app' (F := S.F) (K := .int .u8) (xs := []) (news := Lib.strCells s) (rest := Builtin.zeroCells re.z.cells (grownCap w s.size 0 e - s.size)) (l1 := []) (l2 := bytesI s) (fun i x hi => by simp at hi) (by simp) (by rw [strCells_I]; exact listAt_bytes _ _)
        have e2 : (Lib.strCells s).toArray = s.data.map (fun b => Value.int .u8 b.toNat) := by apply Array.ext'; simp [Lib.strCells]
        rw [e2] at this
        simpa only [List.nil_append, Array.empty_append] using this
    · simp only [VR]
      refine ⟨some (w.heap.size, grownCap w s.size 0 e), by simp [upd], by simp only [SN.d_l, hln]; omega, 0, by simp [hln], .inl (by simp)⟩

/-- A string's bytes onto a row of one's own. -/
theorem appendS_own (hE : EnvRows P E) (hr : Rel W S h w) {t u e ty : TypeId} {re : TRow} (ht : P.underlying t = some (.slice e)) (hu : P.underlying u = some .string) (he : E.row e = some re) (hK : re.kd = some (.int .u8)) {id sz : Nat} {len : SN} {sv : Value} (hs : VR S (.sl id sz (.l 0) len) sv)
    {l : Unit → List Int} (hg : hget h id = .row e (.int .u8) l) (hlen : len.d = (l ()).length) (s : ByteArray)
    (ho1 : ((l ()).length + (bytesI s).length) * re.bytes ≤ 140737488355328) (ho2 : (l ()).length + (bytesI s).length ≤ maxLen) {new : Nat} (hn : S.σ new = none)
    {f : Unit → List Int} (hf : f () = l () ++ bytesI s) {ln : SN} (hln : ln.d = (l ()).length + (bytesI s).length) :
    ∃ v w' r, (Builtin.append_ #[t, u] ty #[sv, .string s]).run P w = .ok v w' ∧ Rel W ⟨upd S.σ new r, S.F⟩ (hsets h [(new, .row e (.int .u8) f), (id, .dead)]) w' ∧ VR ⟨upd S.σ new r, S.F⟩ (.sl new 1 (.l 0) ln) v := by
  obtain ⟨i, hi, hi1, hi2, hi3, hz1, _⟩ := row_u8 hE he hK
  have ha : alive (hget h id) = true := by rw [hg]; rfl
  have hbl := bytesI_length s
  have zero : ∀ (A : Option Addr) (n cap : Nat), n ≤ cap → s.size = 0 → (Builtin.append_ #[t, u] ty #[.slice A n cap, .string s]).run P w = .ok (.slice A n cap) w := by
    intro A n cap hle h0
    cases A <;> simp [Builtin.append_, run_underlying ht, run_underlying hu, sizeOf, typeInfo, hi, Builtin.lenOf, Builtin.firstCells, h0, hle, storeCells]
  simp only [VR] at hs
  obtain ⟨r, hσ, hs⟩ := hs
  obtain ⟨r', hσ', hb⟩ := hr.blk id ha
  rw [hσ] at hσ'
  cases hσ'
  rw [hg] at hb
  cases r with
  | none =>
    obtain ⟨h5, h6, A, rfl⟩ := hs
    simp only [BRel] at hb
    by_cases h0 : s.size = 0
    · refine ⟨_, w, none, zero _ _ _ (Nat.le_refl _) h0, ?_, ?_⟩
      · have := (hr.new (X := fun _ => False) ⟨rfl, rfl, rfl, Nat.le_refl _, fun _ _ _ => rfl⟩ (fun _ h => h) hn (b := .row e (.int .u8) f) (r := none) (by simp only [BRel]; rw [hf, hb]; exact List.eq_nil_of_length_eq_zero (by simp [hbl, h0])) (fun g c h => by cases h)).forget id
        simpa only [hsets] using this
      · simp only [VR]
        exact ⟨none, by simp [upd], rfl, by rw [hln, hb, hbl, h0]; rfl, A, rfl⟩
    · have hl0 : (l ()).length = 0 := by rw [hb]; rfl
      have hge := grownCap_ge w s.size 0 e
      have hcm := grownCap_le_maxLen w s.size 0 e (by omega)
      have hrun : ∃ v, (Builtin.append_ #[t, u] ty #[.slice A 0 0, .string s]).run P w = .ok v (w.drew.alloc (.cells ((Lib.strCells s).toArray ++ Builtin.zeroCells re.z.cells (grownCap w s.size 0 e - s.size)) e)) ∧ v = .slice (some ⟨w.heap.size, 0, none⟩) s.size (grownCap w s.size 0 e) := by
        have e2 : s.data.map (fun b => Value.int .u8 b.toNat) = (Lib.strCells s).toArray := by apply Array.ext'; simp [Lib.strCells]
        cases A with
        | none =>
          refine ⟨_, ?_, rfl⟩
          have := run_append_nil_string w t u ty e i re.z ht hu hi hi3 s (by omega) (by simp only [maxLen] at ho2; omega) (by rw [hi2]; rw [hl0, hbl, Nat.zero_add] at ho1; omega)
          rw [e2] at this
          exact this
        | some b =>
          refine ⟨_, ?_, rfl⟩
          have := Lib.run_append_grow_string (P := P) w t u ty e i re.z ht hu hi hi3 b 0 0 [] (by simp) (fun j v hj => by simp at hj) s (by omega) (by simp only [maxLen] at ho2; omega) (by rw [Nat.zero_add, nextslicecap_zero (by omega), hi2]; rw [hl0, hbl, Nat.zero_add] at ho1; omega)
          simpa using this
      obtain ⟨v, hrun, rfl⟩ := hrun
      refine ⟨_, _, some (w.heap.size, grownCap w s.size 0 e), hrun, ?_, ?_⟩
      · have hnew := hr.new (X := fun _ => False) (Chg.drewAlloc w (.cells ((Lib.strCells s).toArray ++ Builtin.zeroCells re.z.cells (grownCap w s.size 0 e - s.size)) e)) (fun _ h => h) hn (b := .row e (.int .u8) f) (r := some (w.heap.size, grownCap w s.size 0 e)) ⟨_, heap_alloc_new w.drew _, by
            rw [Array.size_append, zeroCells_size, hz1]
            simp only [List.size_toArray, Lib.strCells_length, Kd.size]
            omega, by rw [hf, hb, List.nil_append, hbl]; exact hge, hcm, by
            rw [hf, hb]
            have := RowAt.app' (F := S.F) (K := .int .u8) (xs := []) (news := Lib.strCells s) (rest := Builtin.zeroCells re.z.cells (grownCap w s.size 0 e - s.size)) (l1 := []) (l2 := bytesI s) (fun i x hi => by simp at hi) (by simp) (by rw [strCells_I]; exact listAt_bytes _ _)
            simpa only [List.nil_append, Array.empty_append] using this⟩ (fun g c h => by cases h; exact Nat.le_refl _)
        simpa only [hsets] using hnew.forget id
      · simp only [VR]
        exact ⟨some (w.heap.size, grownCap w s.size 0 e), by simp [upd], by simp only [SN.d_l, hln, hl0, hbl]; omega, 0, by simp [hln, hl0, hbl], .inl (by simp)⟩
  | some p =>
    obtain ⟨g, c⟩ := p
    obtain ⟨h5, o, rfl, h6⟩ := hs
    obtain ⟨cells, h7, h8, h9, h10, h11⟩ := hb
    simp only [SN.d_l, Nat.zero_add, Nat.sub_zero, Nat.zero_mul, Kd.size, Nat.mul_one] at h5 h6 h8 ⊢
    by_cases h0 : s.size = 0
    · refine ⟨_, w, some (g, c), zero _ _ _ (by omega) h0, ?_, ?_⟩
      · refine hr.move ha hσ hn ⟨rfl, rfl, rfl, Nat.le_refl _, fun _ _ _ => rfl⟩ (b := .row e (.int .u8) f) ⟨cells, h7, by simpa [Kd.size] using h8, ?_, h10, ?_⟩
        · rw [hf, List.length_append, hbl, h0]; omega
        · rw [hf, List.eq_nil_of_length_eq_zero (hbl.trans h0), List.append_nil]; exact h11
      · simp only [VR]
        refine ⟨some (g, c), by simp [upd], by simp only [SN.d_l, hln]; omega, o, by simp [hln, hlen, hbl, h0], ?_⟩
        rcases h6 with h6 | h6
        · exact .inl (by simp [h6])
        · exact .inr (by simpa using h6)
    · have hxs : ((cells.toList).take (l ()).length).length = (l ()).length := by
        rw [List.length_take, Array.length_toList (xs := cells), h8]
        exact Nat.min_eq_left h9
      have hla : ListAt S.F (.int .u8) (cells.toList.take (l ()).length) (l ()) := by
        intro k y hk'
        obtain ⟨vs, h12, h13⟩ := h11 k y hk'
        refine ⟨vs, h12, fun j v hj => ?_⟩
        have hjl : j < 1 := by have := KR.len _ _ _ h12; simp only [Kd.size] at this; rw [← this]; exact (List.getElem?_eq_some_iff.1 hj).1
        have hkl := (List.getElem?_eq_some_iff.1 hk').1
        have hkl : k < (l ()).length := hkl
        simp only [Kd.size, Nat.mul_one]
        rw [List.getElem?_take, if_pos (by omega)]
        simpa [Kd.size] using h13 j v hj
      by_cases hc0 : c = 0
      · subst hc0
        have hl0 : (l ()).length = 0 := by omega
        have hge := grownCap_ge w s.size 0 e
        have hcm := grownCap_le_maxLen w s.size 0 e (by omega)
        have hrun := Lib.run_append_grow_string (P := P) w t u ty e i re.z ht hu hi hi3 ⟨g, o, none⟩ 0 0 [] (by simp) (fun j v hj => by simp at hj) s (by omega) (by simp only [maxLen] at ho2; omega) (by rw [Nat.zero_add, nextslicecap_zero (by omega), hi2]; rw [hl0, hbl, Nat.zero_add] at ho1; omega)
        simp only [Nat.zero_add, List.nil_append, Array.empty_append] at hrun
        rw [show len.d = 0 by omega]
        refine ⟨_, _, some (w.heap.size, grownCap w s.size 0 e), hrun, ?_, ?_⟩
        · have hnew := hr.new (X := fun _ => False) (Chg.drewAlloc w (.cells ((Lib.strCells s).toArray ++ Builtin.zeroCells re.z.cells (grownCap w s.size 0 e - s.size)) e)) (fun _ h => h) hn (b := .row e (.int .u8) f) (r := some (w.heap.size, grownCap w s.size 0 e)) ⟨_, heap_alloc_new w.drew _, by
              rw [Array.size_append, zeroCells_size, hz1]
              simp only [List.size_toArray, Lib.strCells_length, Kd.size]
              omega, by rw [hf, List.length_append, hl0, hbl, Nat.zero_add]; exact hge, hcm, by
              rw [hf, List.eq_nil_of_length_eq_zero hl0]
              have := RowAt.app' (F := S.F) (K := .int .u8) (xs := []) (news := Lib.strCells s) (rest := Builtin.zeroCells re.z.cells (grownCap w s.size 0 e - s.size)) (l1 := []) (l2 := bytesI s) (fun i x hi => by simp at hi) (by simp) (by rw [strCells_I]; exact listAt_bytes _ _)
              simpa only [List.nil_append, Array.empty_append] using this⟩ (fun g c h => by cases h; exact Nat.le_refl _)
          simpa only [hsets] using hnew.forget id
        · simp only [VR]
          exact ⟨some (w.heap.size, grownCap w s.size 0 e), by simp [upd], by simp only [SN.d_l, hln, hl0, hbl]; omega, 0, by simp [hln, hl0, hbl], .inl (by simp)⟩
      · have ho : o = 0 := by rcases h6 with h6 | h6 <;> omega
        subst ho
        rw [hlen]
        by_cases hroom : (l ()).length + s.size ≤ c
        · have hrun := Lib.run_append_room_string (P := P) w t u ty e i ht hu hi hi1 g (l ()).length c cells h7 s hroom (by omega)
          refine ⟨_, _, some (g, c), hrun, ?_, ?_⟩
          · refine hr.move ha hσ hn (Chg.setRow _ _ _) (b := .row e (.int .u8) f) ⟨_, setRow_heap w g cells _ e (0, 0) h7, ?_, ?_, h10, ?_⟩
            · rw [List.size_toArray, List.length_append, List.length_append, hxs, List.length_drop, Array.length_toList (xs := cells), Lib.strCells_length]
              simp only [Kd.size]
              omega
            · rw [hf, List.length_append, hbl]; exact hroom
            · rw [hf, ]
              exact RowAt.app hla (by rw [hxs]; simp [Kd.size]) (by rw [strCells_I]; exact listAt_bytes _ _)
          · simp only [VR]
            exact ⟨some (g, c), by simp [upd], by simp only [SN.d_l, hln, hbl]; omega, 0, by simp [hln, hbl], .inl (by simp)⟩
        · have hge := grownCap_ge w ((l ()).length + s.size) c e
          have hcm := grownCap_le_maxLen w ((l ()).length + s.size) c e (by omega)
          have hrun := Lib.run_append_grow_string (P := P) w t u ty e i re.z ht hu hi hi3 ⟨g, 0, none⟩ (l ()).length c (cells.toList.take (l ()).length) (by rw [hxs, hi1, Nat.mul_one]) (by
              intro j v hj
              rw [add_none, Nat.zero_add, cell_of_row w g _ cells e (0, 0) h7]
              rw [List.getElem?_take] at hj
              split at hj
              · simpa using hj
              · cases hj) s (by omega) (by simp only [maxLen] at ho2; omega) (by rw [hi2]; exact growslice_fits (by omega) (by rw [← hbl]; exact ho1))
          refine ⟨_, _, some (w.heap.size, grownCap w ((l ()).length + s.size) c e), hrun, ?_, ?_⟩
          · have hnew := hr.new (X := fun _ => False) (w' := w.drew.alloc (.cells ((cells.toList.take (l ()).length).toArray ++ (Lib.strCells s).toArray ++ Builtin.zeroCells re.z.cells (grownCap w ((l ()).length + s.size) c e - ((l ()).length + s.size))) e)) ⟨rfl, rfl, rfl, by simp, fun k hk _ => Below.heap_alloc w.drew _ k hk⟩ (fun _ h => h) hn (b := .row e (.int .u8) f) (r := some (w.heap.size, grownCap w ((l ()).length + s.size) c e)) ⟨_, heap_alloc_new w.drew _, by
                rw [Array.size_append, Array.size_append, zeroCells_size, hz1]
                simp only [List.size_toArray, Lib.strCells_length, Kd.size]
                rw [hxs]
                omega, by rw [hf, List.length_append, hbl]; exact hge, hcm, by
                rw [hf]
                exact RowAt.app' hla (by rw [hxs]; simp [Kd.size]) (by rw [strCells_I]; exact listAt_bytes _ _)⟩ (fun g c h => by cases h; exact Nat.le_refl _)
            simpa only [hsets] using hnew.forget id
          · simp only [VR]
            exact ⟨some (w.heap.size, grownCap w ((l ()).length + s.size) c e), by simp [upd], by simp only [SN.d_l, hln, hbl]; omega, 0, by simp [hln, hbl], .inl (by simp)⟩

/-- A step that looks at memory: the further ones. -/
theorem mop2_ok (hE : EnvOk P E) (hr : Rel W S h w) {ρ : Operand → AV} {a : Act} (hρ : ∀ y, VR S (ρ y) (a.eval y)) {o : Oper} {r : Res} {new : Nat} (hm : mop2 E ρ h new o.op = some r) (ho : allO r.obs)
    (hnew : ∀ id ∈ r.up.map (·.1), new ≤ id → S.σ id = none) {K : Act → World → Prop} {Q : Exit → Act → World → Prop}
    (hK : ∀ v w' S', S.le S' → (∀ b, b < W.heap.size → S'.F b = S.F b) → (∀ id, id ∉ r.up.map (·.1) → S'.σ id = S.σ id) → Rel W S' (hsets h r.up) w' → VR S' r.v v → K (a.put o.dst v) w') : o.wp P a w K Q := by
  have fin : ∀ v w' S', (execOp a.eval o).run P w = .ok (.value v) w' → S.le S' → (∀ b, b < W.heap.size → S'.F b = S.F b) → (∀ id, id ∉ r.up.map (·.1) → S'.σ id = S.σ id) → Rel W S' (hsets h r.up) w' → VR S' r.v v → o.wp P a w K Q := by
    intro v w' S' h1 h2 h3 h4 h5 h6
    unfold Oper.wp
    rw [h1]
    exact hK v w' S' h2 h3 h4 h5 h6
  have hupd : ∀ (n : Nat) (r : Option (Nat × Nat)) (id : Nat), id ≠ n → upd S.σ n r id = S.σ id := by
    intro n r id hne; simp [upd, hne]
  have boxAt : ∀ {id : Nat} {T : TypeId} {cs : List AV} {v : Value}, hget h id = .box T cs → VR S (.ptr id 0) v → ∃ g cells, v = .pointer (some ⟨g, 0, none⟩) ∧ w.shape? g = some (T, cells) ∧ cells = cs.length := by
    intro id T cs v hb hv
    obtain ⟨r, h1, h2⟩ := hr.blk id (by rw [hb]; rfl)
    rw [hb] at h2
    obtain ⟨g, c, cells, rfl, h3, h4⟩ := h2
    simp only [VR] at hv
    obtain ⟨g', c', h5, rfl⟩ := hv
    rw [h1] at h5
    obtain ⟨rfl, rfl⟩ : g = g' ∧ c = c' := by simpa using h5
    exact ⟨g, cells.size, rfl, by simp only [World.shape?, h3], by simpa using h4.length⟩
  cases hop : o.op <;> rw [hop] at hm <;> simp only [mop2, reduceCtorEq] at hm
  case convert src dst x =>
    split at hm
    · rename_i rs hrs
      split at hm
      · rename_i rd hrd
        obtain ⟨ds, hs1, hs2⟩ := row_under (w := w) hE.rows hrs
        obtain ⟨dd, hd1, hd2⟩ := row_under (w := w) hE.rows hrd
        have hs1' := (hE.rows.rows src rs hrs).d
        have hd1' := (hE.rows.rows dst rd hrd).d
        split at hm
        · rename_i t hst
          split at hm
          · rename_i hdt
            split at hm
            · rename_i id hx
              split at hm
              · rename_i T cs hb
                split at hm
                · rename_i hc
                  obtain rfl := Option.some.inj hm
                  have hxv := hρ x
                  rw [hx] at hxv
                  obtain ⟨g, cells, h1, h2, h3⟩ := boxAt hb hxv
                  obtain ⟨rt, hrt, hrz⟩ := szIs_row hc.2
                  obtain ⟨i, hi1, hi2, hi3, hi4⟩ := row_info hE.rows hrt
                  have hpos := (hE.rows.rows T rt hrt).pos
                  obtain ⟨d1, e1, e2⟩ := hs1'
                  obtain ⟨d2, e3, e4⟩ := hd1'
                  rw [hst] at e2
                  rw [hdt] at e4
                  have := digest_ptr e2
                  subst this
                  have h5 : d2 = .unsafePointer := by cases d2 <;> simp [digest] at e4; rfl
                  subst h5
                  refine fin (.pointer (some ⟨g, 0, none⟩)) w S ?_ (.refl _) (fun _ _ => rfl) (fun _ _ => rfl) hr (by rw [h1] at hxv; exact hxv)
                  simp only [execOp, hop]
                  rw [h1]
                  exact value_of' (Lib.run_to_unsafe (w := w) ⟨g, 0, none⟩ e1 e3 (j := i) (by rw [← hc.1]; exact hi1) (by omega) h2 (by simp only; omega))
                · cases hm
              · cases hm
            · cases hm
          · cases hm
        · rename_i hst
          split at hm
          · rename_i t hdt
            split at hm
            · rename_i id hx
              split at hm
              · rename_i T cs hb
                split at hm
                · rename_i hc
                  obtain rfl := Option.some.inj hm
                  have hxv := hρ x
                  rw [hx] at hxv
                  obtain ⟨g, cells, h1, h2, h3⟩ := boxAt hb hxv
                  obtain ⟨rt, hrt, hrz⟩ := szIs_row hc.2.1
                  obtain ⟨i, hi1, hi2, hi3, hi4⟩ := row_info hE.rows hrt
                  have hpos := (hE.rows.rows T rt hrt).pos
                  obtain ⟨n, hn1, hn2, hn3⟩ := hE.lies T hc.2.2
                  obtain ⟨rt', hrt', hrz'⟩ := szIs_row hn2
                  rw [hrt] at hrt'
                  cases hrt'
                  obtain ⟨d1, e1, e2⟩ := hs1'
                  obtain ⟨d2, e3, e4⟩ := hd1'
                  rw [hst] at e2
                  rw [hdt] at e4
                  have := digest_ptr e4
                  subst this
                  have h5 : d1 = .unsafePointer := by cases d1 <;> simp [digest] at e2; rfl
                  subst h5
                  obtain ⟨rfl, hc2⟩ := hc
                  refine fin (.pointer (some ⟨g, 0, none⟩)) w S ?_ (.refl _) (fun _ _ => rfl) (fun _ _ => rfl) hr (by rw [h1] at hxv; exact hxv)
                  simp only [execOp, hop]
                  rw [h1]
                  have hone : cells / P.cellsOf T = 1 := by
                    rw [hn1, ← hrz', hrz, h3]
                    exact Nat.div_self (by omega)
                  exact value_of' (Lib.run_from_unsafe (w := w) ⟨g, 0, none⟩ e1 e3 (j := i) hi1 h2 (by rw [hone]; exact hn3))
                · cases hm
              · cases hm
            · cases hm
          · cases hm
        · cases hm
      · cases hm
    · cases hm
  case range t x =>
    split at hm
    · rename_i ht
      split at hm
      · rename_i s hx
        obtain rfl := Option.some.inj hm
        have hn : S.σ new = none := hnew new (by simp) (Nat.le_refl _)
        have hxv := hρ x
        rw [hx] at hxv
        simp only [VR] at hxv
        obtain ⟨d, h1, h2⟩ := row_under (w := w) hE.rows ht
        obtain rfl := digest_str h2
        refine fin (.pointer (some ⟨w.heap.size, 0, none⟩)) (w.alloc (.stringIter (s ()) 0)) ⟨upd S.σ new (some (w.heap.size, 0)), S.F⟩ ?_ (upd_le hn) (fun _ _ => rfl) (fun id hid => hupd _ _ _ (by simpa using hid)) ?_ ?_
        · simp only [execOp, hop]
          rw [hxv]
          refine value_of' ?_
          simp [Instr.range, h1, Result.andThen]
        · exact hr.new (X := fun _ => False) (Chg.alloc _ _) (fun _ h => h) hn (b := .iter s fun _ => 0) (r := some (w.heap.size, 0)) ⟨w.heap.size, 0, rfl, heap_alloc_new w _⟩ (fun g c h => by cases h; exact Nat.le_refl _)
        · simp only [VR]
          exact ⟨w.heap.size, 0, by simp [upd], rfl⟩
      · cases hm
    · cases hm
  case call c =>
    obtain ⟨callee, args, ats⟩ := c
    cases callee <;> (try simp only [reduceCtorEq] at hm)
    case builtin b =>
      cases b <;> (try simp only [reduceCtorEq] at hm)
      case append =>
        split at hm
        · rename_i s x hargs
          split at hm
          · rename_i t t' hats
            split at hm
            · rename_i e bytes hsr
              have e1 : args = #[s, x] := by rw [← Array.toArray_toList (xs := args), hargs]
              have e2 : ats = #[t, t'] := by rw [← Array.toArray_toList (xs := ats), hats]
              subst e1 e2
              have hexec : ∀ v w', (Builtin.append_ #[t, t'] o.type #[a.eval s, a.eval x]).run P w = .ok v w' → (execOp a.eval o).run P w = .ok (.value v) w' := by
                intro v w' hrun
                have : (Builtin.append_ #[t, t'] o.type (#[s, x].map a.eval)).run P w = .ok v w' := by simpa using hrun
                simp only [execOp, hop]
                exact value_of' (s := Builtin.append_ #[t, t'] o.type (#[s, x].map a.eval)) this
              obtain ⟨re, ht, hu, he, hKd, hby⟩ : ∃ re, P.underlying t = some (.slice e) ∧ P.underlying t' = some .string ∧ E.row e = some re ∧ re.kd = some (.int .u8) ∧ re.bytes = bytes := by
                unfold strRow at hsr
                split at hsr
                · rename_i rt' hrt'
                  split at hsr
                  · rename_i hrt
                    split at hsr
                    · rename_i hre
                      simp only [Option.some.injEq, Prod.mk.injEq] at hsr
                      obtain ⟨rfl, rfl⟩ := hsr
                      obtain ⟨d1, k1, k2⟩ := (hE.rows.rows _ _ hrt').d
                      obtain ⟨d2, k3, k4⟩ := (hE.rows.rows _ _ hrt).d
                      obtain rfl := digest_str k2
                      obtain rfl := digest_slice k4
                      exact ⟨_, k3, k1, hre, rfl, rfl⟩
                    · cases hsr
                  · cases hsr
                · cases hsr
              subst hby
              split at hm
              · rename_i b hx
                have hxv := hρ x
                rw [hx] at hxv
                simp only [VR] at hxv
                split at hm
                · rename_i hs
                  obtain rfl := Option.some.inj hm
                  have hn : S.σ new = none := hnew new (by simp) (Nat.le_refl _)
                  simp only [allO, and_true] at ho
                  have hsv := hρ s
                  rw [hs] at hsv
                  simp only [VR] at hsv
                  obtain ⟨v, w', r, h1, h2, h3⟩ := appendS_empty (ty := o.type) hE.rows hr ht hu he hKd (b ()) ho.1 ho.2 hn (f := fun _ => bytesI (b ())) rfl (ln := .t fun _ => (bytesI (b ())).length) rfl
                  exact fin v w' _ (hexec _ _ (by rw [hsv, hxv]; exact h1)) (upd_le hn) (fun _ _ => rfl) (fun id hid => hupd _ _ _ (by simpa using hid)) h2 h3
                · rename_i id sz len hs
                  split at hm
                  · rename_i l hl
                    obtain rfl := Option.some.inj hm
                    have hn : S.σ new = none := hnew new (by simp) (Nat.le_refl _)
                    simp only [allO, and_true] at ho
                    have hsv := hρ s
                    rw [hs] at hsv
                    have hg : hget h id = .row e (.int .u8) l := by
                      unfold rowU8 at hl
                      split at hl
                      · rename_i T l' hg
                        split at hl
                        · rename_i hT
                          subst hT
                          cases hl
                          exact hg
                        · cases hl
                      · cases hl
                    obtain ⟨v, w', r, h1, h2, h3⟩ := appendS_own (ty := o.type) hE.rows hr ht hu he hKd hsv hg ho.1 (b ()) ho.2.1 ho.2.2 hn (f := fun _ => l () ++ bytesI (b ())) rfl (ln := .t fun _ => (l ()).length + (bytesI (b ())).length) rfl
                    exact fin v w' _ (hexec _ _ (by rw [hxv]; exact h1)) (upd_le hn) (fun _ _ => rfl) (fun id' hid => hupd _ _ _ (fun e => hid (by simp [e]))) h2 h3
                  · cases hm
                · cases hm
              · cases hm
            · cases hm
          · cases hm
        · cases hm
      case unsafeSliceData =>
        split at hm
        · rename_i x hargs
          split at hm
          · rename_i id sz len hx
            obtain rfl := Option.some.inj hm
            simp only [allO, and_true] at ho
            have e1 : args = #[x] := by rw [← Array.toArray_toList (xs := args), hargs]
            subst e1
            have hxv := hρ x
            rw [hx] at hxv
            simp only [VR] at hxv
            obtain ⟨r, h1, h2⟩ := hxv
            cases r with
            | none => obtain ⟨_, h3, _⟩ := h2; omega
            | some p =>
              obtain ⟨g, c⟩ := p
              obtain ⟨h3, o', h4, h5⟩ := h2
              simp only [SN.d_l, Nat.zero_add, Nat.zero_mul, Nat.sub_zero] at h3 h4 h5
              have ho' : o' = 0 := by rcases h5 with h5 | h5 <;> omega
              subst ho'
              refine fin (.pointer (some ⟨g, 0, none⟩)) w S ?_ (.refl _) (fun _ _ => rfl) (fun _ _ => rfl) hr ?_
              · simp only [execOp, hop]
                have : (Builtin.unsafeSliceData_ ats o.type (#[x].map a.eval)).run P w = .ok (.pointer (some ⟨g, 0, none⟩)) w := by
                  have e : #[x].map a.eval = #[a.eval x] := by simp
                  rw [e, h4]
                  exact Lib.run_unsafeSliceData_row w _ _ _ _ _ (by omega)
                exact value_of' (s := Builtin.unsafeSliceData_ ats o.type (#[x].map a.eval)) this
              · simp only [VR]
                exact ⟨g, c, h1, by simp⟩
          · cases hm
        · cases hm
      case unsafeString =>
        split at hm
        · rename_i p n hargs
          split at hm
          · rename_i t t2 hats
            split at hm
            · rename_i e _ _ _ _ ht
              split at hm
              · rename_i he
                split at hm
                · rename_i id hp
                  split at hm
                  · rename_i m hn
                    split at hm
                    · rename_i l hl
                      obtain rfl := Option.some.inj hm
                      simp only [allO, and_true, nI_eq] at ho
                      have e1 : args = #[p, n] := by rw [← Array.toArray_toList (xs := args), hargs]
                      have e2 : ats = #[t, t2] := by rw [← Array.toArray_toList (xs := ats), hats]
                      subst e1 e2
                      have hg : hget h id = .row e (.int .u8) l := by
                        unfold rowU8 at hl
                        split at hl
                        · rename_i T l' hg
                          split at hl
                          · rename_i hT
                            subst hT
                            cases hl
                            exact hg
                          · cases hl
                        · cases hl
                      have ha : alive (hget h id) = true := by rw [hg]; rfl
                      obtain ⟨r, h1, h2⟩ := hr.blk id ha
                      rw [hg] at h2
                      have hpv := hρ p
                      rw [hp] at hpv
                      simp only [VR] at hpv
                      obtain ⟨g, c, h3, h4⟩ := hpv
                      rw [h1] at h3
                      cases h3
                      obtain ⟨cells, h5, h6, h7, h8, h9⟩ := h2
                      have hnv := hρ n
                      rw [hn] at hnv
                      simp only [VR] at hnv
                      obtain ⟨i, hi, hi1, hi2, hi3, hz1, hi4⟩ := row_u8 hE.rows he rfl
                      obtain ⟨d, k1, k2⟩ := (hE.rows.rows _ _ ht).d
                      obtain rfl := digest_ptr k2
                      have hlen : ((l ()).take m.d.toNat).length = m.d.toNat := by rw [List.length_take]; omega
                      have hmd : m.d = (((l ()).take m.d.toNat).length : Int) := by rw [hlen]; omega
                      simp only [Kd.size, Nat.mul_one] at h6
                      have hrun := run_unsafeStringI (P := P) w t t2 o.type e k1 hi4 g cells.size (by simp only [World.shape?, h5]) ((l ()).take m.d.toNat) (fun n hn => ho.2.2 n (List.mem_of_mem_take hn)) (by intro h0; rw [h0] at hlen; simp at hlen; omega) (by rw [hlen]; omega) (by rw [hlen]; simp only [maxLen] at h8; omega) (by
                        intro j x hj
                        rw [List.getElem?_take] at hj
                        split at hj
                        · obtain ⟨vs, h10, h11⟩ := h9 j x hj
                          simp only [KR] at h10
                          subst h10
                          have := h11 0 _ rfl
                          simp only [Kd.size, Nat.mul_one, Nat.add_zero] at this
                          rw [add_none, Nat.zero_add, cell_of_row w g _ cells e (0, 0) h5]
                          exact this
                        · cases hj)
                      refine fin (.string (bytesOf ((l ()).take m.d.toNat))) (w.freeze ⟨g, 0, none⟩ ((l ()).take m.d.toNat).length) S ?_ (.refl _) (fun _ _ => rfl) (fun _ _ => rfl) ?_ ?_
                      · simp only [execOp, hop]
                        have e : #[p, n].map a.eval = #[.pointer (some ⟨g, 0, none⟩), .int .i64 (((l ()).take m.d.toNat).length : Int)] := by
                          simp only [List.map_toArray, List.map_cons, List.map_nil, h4, hnv, SN.d_l, SI.d_l]
                          rw [← hmd]
                          try simp
                        have : (Builtin.unsafeString_ #[t, t2] o.type (#[p, n].map a.eval)).run P w = .ok (.string (bytesOf ((l ()).take m.d.toNat))) (w.freeze ⟨g, 0, none⟩ ((l ()).take m.d.toNat).length) := by rw [e]; exact hrun
                        exact value_of' (s := Builtin.unsafeString_ #[t, t2] o.type (#[p, n].map a.eval)) this
                      · have := hr.kill (w' := w.freeze ⟨g, 0, none⟩ ((l ()).take m.d.toNat).length) ha h1 (by
                          unfold World.freeze
                          split
                          · exact Chg.refl _ _
                          · exact ⟨rfl, rfl, rfl, by simp, fun k hk hx => by
                              simp only [Array.getElem?_modify]
                              rw [if_neg (fun e => hx e.symm)]⟩)
                        simpa only [hsets] using this
                      · simp only [VR]
                    · cases hm
                  · cases hm
                · cases hm
              · cases hm
            · cases hm
          · cases hm
        · cases hm
    case value f =>
      split at hm
      · rename_i g xs hcall
        split at hm
        · rename_i spec hspec
          split at hm
          · rename_i x obs hout
            obtain rfl := Option.some.inj hm
            obtain ⟨first, cap, hf, hxs⟩ := callsTo_ok hcall (hρ f) (by simpa using VRs_map hρ args.toList : VRs S (args.toList.map ρ) (args.map a.eval).toList)
            obtain ⟨fn, e, h1, h2, h3, h4, h5, h6⟩ := hE.ext g spec hspec
            obtain ⟨v, h7, h8⟩ := h6 S xs _ x obs w hout ho hxs
            refine fin v w S ?_ (.refl _) (fun _ _ => rfl) (fun _ _ => rfl) hr h8
            have := run_callFunc_extern h1 h2 h3 h4 h5 (first ++ args.map a.eval ++ cap) w
            simp only [execOp, hop, resolve, hf, Deferred.ofValue, Sem.run_bind, Sem.run_pure, Result.andThen, invoke, this, h7]
          · cases hm
        · cases hm
      · cases hm

end
end Go.Sx
