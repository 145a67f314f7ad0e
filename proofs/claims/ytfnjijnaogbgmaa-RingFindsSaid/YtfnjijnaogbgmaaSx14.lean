/- A reckoner of Go code over told values: append. -/
import Derived.Test.YtfnjijnaogbgmaaSx13
namespace Go.Sx
open Go Go.RowKit
set_option linter.unusedVariables false
set_option linter.unusedSimpArgs false

/-- Elements lie in a list of cells. -/
def ListAt (F : Frozen) (K : Kd) (cs : List Value) (l : List K.T) : Prop :=
  ∀ (i : Nat) (x : K.T), l[i]? = some x → ∃ vs, KR F K x vs ∧ ∀ (j : Nat) (v : Value), vs[j]? = some v → cs[i * K.size + j]? = some v
theorem RowAt.app {F : Frozen} {K : Kd} {xs news rest : List Value} {l1 l2 : List K.T} (h1 : ListAt F K xs l1) (hl : xs.length = l1.length * K.size) (h2 : ListAt F K news l2) : RowAt F K (xs ++ news ++ rest).toArray (l1 ++ l2) := by
  intro i x hi
  by_cases h : i < l1.length
  · rw [List.getElem?_append_left h] at hi
    obtain ⟨vs, h3, h4⟩ := h1 i x hi
    refine ⟨vs, h3, fun j v hj => ?_⟩
    have := h4 j v hj
    have hlt := (List.getElem?_eq_some_iff.1 this).1
    simp only [List.getElem?_toArray]
    rw [List.append_assoc, List.getElem?_append_left hlt]
    exact this
  · rw [List.getElem?_append_right (by omega)] at hi
    obtain ⟨vs, h3, h4⟩ := h2 _ x hi
    refine ⟨vs, h3, fun j v hj => ?_⟩
    have := h4 j v hj
    have hlt := (List.getElem?_eq_some_iff.1 this).1
    have e : i * K.size + j = xs.length + ((i - l1.length) * K.size + j) := by
      rw [hl, ← Nat.add_assoc, ← Nat.add_mul]
      congr 2
      omega
    simp only [List.getElem?_toArray]
    rw [List.append_assoc, e, List.getElem?_append_right (by omega), Nat.add_sub_cancel_left, List.getElem?_append_left hlt]
    exact this

theorem RowAt.app' {F : Frozen} {K : Kd} {xs news : List Value} {rest : Array Value} {l1 l2 : List K.T} (h1 : ListAt F K xs l1) (hl : xs.length = l1.length * K.size) (h2 : ListAt F K news l2) : RowAt F K (xs.toArray ++ news.toArray ++ rest) (l1 ++ l2) := by
  have e : xs.toArray ++ news.toArray ++ rest = (xs ++ news ++ rest.toList).toArray := by apply Array.ext'; simp
  rw [e]
  exact RowAt.app h1 hl h2

section
variable {P : Program} {E : Env} {S : Sg} {w W : World} {h : List Blk}

theorem news_of {F : Frozen} {K : Kd} {l : List K.T} {a : Addr} {cells : Array Value} {T : TypeId} {fz : Nat × Nat} (hp : 0 < K.size) (ha : a.spot = none) (hb : w.heap[a.block]? = some (.cells cells T fz))
    (he : ∀ (i : Nat) (x : K.T), l[i]? = some x → ∃ vs, KR F K x vs ∧ ∀ (j : Nat) (v : Value), vs[j]? = some v → cells[a.off + i * K.size + j]? = some v) :
    ∃ news : List Value, news.length = l.length * K.size ∧ (∀ (j : Nat) (u : Value), news[j]? = some u → w.cell? (a.add j) = some u) ∧ (∀ u ∈ news, u.oneCell' = true) ∧ ListAt F K news l := by
  have hidx : ∀ p, p < l.length * K.size → ∃ u, cells[a.off + p]? = some u ∧ u.oneCell' = true := by
    intro p hpl
    have hi : p / K.size < l.length := (Nat.div_lt_iff_lt_mul hp).2 hpl
    obtain ⟨vs, h1, h2⟩ := he _ _ (List.getElem?_eq_getElem hi)
    have hl := KR.len _ _ _ h1
    have hj : p % K.size < vs.length := by rw [hl]; exact Nat.mod_lt _ hp
    have := h2 _ _ (List.getElem?_eq_getElem hj)
    have e : a.off + p / K.size * K.size + p % K.size = a.off + p := by rw [Nat.add_assoc, Nat.div_add_mod']
    rw [e] at this
    exact ⟨_, this, KR.ones K _ vs h1 _ (List.getElem_mem _)⟩
  have hlen : ((cells.toList.drop a.off).take (l.length * K.size)).length = l.length * K.size := by
    rw [List.length_take, List.length_drop]
    by_cases h0 : l.length * K.size = 0
    · omega
    · obtain ⟨u, h1, _⟩ := hidx (l.length * K.size - 1) (by omega)
      have := (Array.getElem?_eq_some_iff.1 h1).1
      simp only [Array.length_toList]
      omega
  have hget : ∀ p, p < l.length * K.size → ((cells.toList.drop a.off).take (l.length * K.size))[p]? = cells[a.off + p]? := by
    intro p hp'
    rw [List.getElem?_take, if_pos hp', List.getElem?_drop]
    simp
  refine ⟨(cells.toList.drop a.off).take (l.length * K.size), hlen, ?_, ?_, ?_⟩
  · intro j u hj
    have hjl : j < l.length * K.size := by rw [← hlen]; exact (List.getElem?_eq_some_iff.1 hj).1
    rw [hget j hjl] at hj
    have ea : a = ⟨a.block, a.off, none⟩ := by cases a; simp only at ha; subst ha; rfl
    rw [ea, add_none, cell_of_row w a.block _ cells T fz hb]
    exact hj
  · intro u hu
    obtain ⟨p, hp1, hp2⟩ := List.getElem_of_mem hu
    have hpl : p < l.length * K.size := by rw [← hlen]; exact hp1
    obtain ⟨u', h1, h2⟩ := hidx p hpl
    have := hget p hpl
    rw [List.getElem?_eq_getElem hp1, hp2, h1] at this
    rw [Option.some.inj this]
    exact h2
  · intro i x hi
    obtain ⟨vs, h1, h2⟩ := he i x hi
    refine ⟨vs, h1, fun j v hj => ?_⟩
    have hil := (List.getElem?_eq_some_iff.1 hi).1
    have hjl : j < K.size := by rw [← KR.len _ _ _ h1]; exact (List.getElem?_eq_some_iff.1 hj).1
    have := Nat.mul_le_mul_right K.size (show i + 1 ≤ l.length from hil)
    rw [Nat.add_mul] at this
    rw [hget _ (by omega), ← Nat.add_assoc]
    exact h2 j v hj

theorem news_ok (hr : Rel W S h w) {K : Kd} (hp : 0 < K.size) {x : AV} {xv : Value} (hx : VR S x xv) {l2 : Unit → List K.T} (hl2 : newsOf K (roOf h x) = some l2) (hob : allO (slObs h x)) :
    ∃ A c, xv = .slice A (l2 ()).length c ∧ ((l2 ()) = [] ∨ ∃ ad news, A = some ad ∧ news.length = (l2 ()).length * K.size ∧ (∀ (j : Nat) (u : Value), news[j]? = some u → w.cell? (ad.add j) = some u) ∧ (∀ u ∈ news, u.oneCell' = true) ∧ ListAt S.F K news (l2 ())) := by
  have fro : ∀ (K2 : Kd) (l : Unit → List K2.T), castL K2 K l = some l2 → VR S (.ro K2 l) xv → ∃ A c, xv = .slice A (l2 ()).length c ∧ ((l2 ()) = [] ∨ ∃ ad news, A = some ad ∧ news.length = (l2 ()).length * K.size ∧ (∀ (j : Nat) (u : Value), news[j]? = some u → w.cell? (ad.add j) = some u) ∧ (∀ u ∈ news, u.oneCell' = true) ∧ ListAt S.F K news (l2 ())) := by
    intro K2 l hc hv
    obtain ⟨he, hl⟩ := castL_eq hc
    subst he
    subst hl
    simp only [VR, KR] at hv
    obtain ⟨A, c, h1, h2, h3⟩ := hv
    simp only [List.cons.injEq, and_true] at h1
    refine ⟨A, c, h1, ?_⟩
    rcases h3 with h3 | ⟨a, cells, T, fz, rfl, h5, h6, h7⟩
    · exact .inl h3
    · obtain ⟨news, n1, n2, n3, n4⟩ := news_of (w := w) hp h5 (hr.fv _ _ h6) h7
      exact .inr ⟨a, news, rfl, n1, n2, n3, n4⟩
  cases x
  case ro K2 l => simp only [roOf, newsOf] at hl2; exact fro K2 l hl2 hx
  case nils =>
    simp only [roOf, newsOf, Option.some.injEq] at hl2
    subst hl2
    simp only [VR] at hx
    exact ⟨none, 0, hx, .inl rfl⟩
  case e0 =>
    simp only [roOf, newsOf, Option.some.injEq] at hl2
    subst hl2
    simp only [VR] at hx
    obtain ⟨A, hx⟩ := hx
    exact ⟨A, 0, hx, .inl rfl⟩
  case sl id sz off len =>
    simp only [roOf] at hl2
    split at hl2
    · rename_i T K1 l hg
      split at hl2
      · rename_i hsz
        simp only [newsOf] at hl2
        obtain ⟨he, hl⟩ := castL_eq hl2
        subst he
        subst hl
        simp only [slObs, hg, allO, and_true] at hob
        simp only [VR] at hx
        obtain ⟨r, h1, h2⟩ := hx
        obtain ⟨r', h3, h4⟩ := hr.blk id (by rw [hg]; rfl)
        rw [h1] at h3
        cases h3
        rw [hg] at h4
        have hlen : (((l ()).drop off.d).take len.d).length = len.d := by simp; omega
        cases r with
        | none =>
          obtain ⟨h5, h6, A, rfl⟩ := h2
          exact ⟨A, 0, by rw [hlen, h6], .inl (by rw [h6]; simp)⟩
        | some p =>
          obtain ⟨g, c⟩ := p
          obtain ⟨h5, o, rfl, h6⟩ := h2
          obtain ⟨cells, h7, h8, h9, h10, h11⟩ := h4
          refine ⟨_, _, by rw [hlen], ?_⟩
          by_cases he : ((l ()).drop off.d).take len.d = []
          · exact .inl he
          · have hpos : 0 < len.d := by rw [← hlen]; exact List.length_pos_iff.2 he
            have ho' : o = off.d * sz := by rcases h6 with h6 | h6 <;> omega
            obtain ⟨news, n1, n2, n3, n4⟩ := news_of (w := w) (F := S.F) (l := ((l ()).drop off.d).take len.d) (a := ⟨g, o, none⟩) hp rfl h7 (by
              intro i y hy
              have hy' : (l ())[off.d + i]? = some y := by
                rw [List.getElem?_take] at hy
                split at hy
                · rwa [List.getElem?_drop] at hy
                · cases hy
              obtain ⟨vs, h12, h13⟩ := h11 _ _ hy'
              refine ⟨vs, h12, fun j v hj => ?_⟩
              rw [← h13 j v hj, ho', ← hsz, Nat.add_mul])
            exact .inr ⟨_, news, rfl, n1, n2, n3, n4⟩
      · simp [newsOf] at hl2
    · simp [newsOf] at hl2
  all_goals simp [roOf, newsOf] at hl2

theorem append_zero (t ty e : TypeId) (i : TypeInfo) (ht : P.underlying t = some (.slice e)) (hi : P.info? e = some i) (A B : Option Addr) (n cap c : Nat) (hn : n ≤ cap) :
    (Builtin.append_ #[t, t] ty #[.slice A n cap, .slice B 0 c]).run P w = .ok (.slice A n cap) w := by
  cases A <;> cases B <;> simp [Builtin.append_, run_underlying ht, sizeOf, typeInfo, hi, Builtin.lenOf, hn, Builtin.firstCells, loadCells, loadCellsFrom, storeCells]

theorem Chg.drewAlloc (w : World) (o : Obj) : Chg w (w.drew.alloc o) (fun _ => False) :=
  ⟨rfl, rfl, rfl, by simp, fun k hk _ => Below.heap_alloc w.drew o k hk⟩
theorem zeroCells_size (z : Array Value) (n : Nat) : (Builtin.zeroCells z n).size = n * z.size := by simp [Builtin.zeroCells]

/-- Onto nothing. -/
theorem append_empty (hE : EnvRows P E) (hr : Rel W S h w) {t e ty : TypeId} {rt re : TRow} {K : Kd} (ht : E.row t = some rt) (hd : rt.d = .slice e) (he : E.row e = some re) (hK : re.kd = some K) (A : Option Addr)
    {x : AV} {xv : Value} (hx : VR S x xv) {l2 : Unit → List K.T} (hl2 : newsOf K (roOf h x) = some l2) (hob : allO (slObs h x)) (ho1 : (l2 ()).length * re.bytes ≤ 140737488355328) (ho2 : (l2 ()).length ≤ maxLen) {new : Nat} (hn : S.σ new = none)
    {f : Unit → List K.T} (hf : f () = l2 ()) {ln : SN} (hln : ln.d = (l2 ()).length) :
    ∃ v w' r, (Builtin.append_ #[t, t] ty #[.slice A 0 0, xv]).run P w = .ok v w' ∧ Chg w w' (fun _ => False) ∧ Rel W ⟨upd S.σ new r, S.F⟩ (hset h new (.row e K f)) w' ∧ VR ⟨upd S.σ new r, S.F⟩ (.sl new K.size (.l 0) ln) v := by
  have hk := (hE.rows e re he).kd K hK
  have hpos : 0 < K.size := by rw [hk.1]; exact (hE.rows e re he).pos
  obtain ⟨i, hi, hi1, hi2, hi3⟩ := row_info hE he
  have hsl := row_slice hE ht hd
  obtain ⟨B, c, rfl, hB⟩ := news_ok hr hpos hx hl2 hob
  have hisz : i.size = K.size := by rw [hi1, hk.1]
  rcases hB with hB | ⟨ad, news, rfl, n1, n2, n3, n4⟩
  · have hl0 : (l2 ()).length = 0 := by rw [hB]; rfl
    refine ⟨.slice A 0 0, w, none, ?_, ⟨rfl, rfl, rfl, Nat.le_refl _, fun _ _ _ => rfl⟩, ?_, ?_⟩
    · rw [hl0]; exact append_zero t ty e i hsl hi A B 0 0 c (Nat.le_refl _)
    · exact hr.new (X := fun _ => False) ⟨rfl, rfl, rfl, Nat.le_refl _, fun _ _ _ => rfl⟩ (fun _ h => h) hn (b := .row e K f) (r := none) (by simp only [BRel]; rw [hf, hB]) (fun g c h => by cases h)
    · simp only [VR]
      exact ⟨none, by simp [upd], rfl, by rw [hln, hl0], A, rfl⟩
  · by_cases hl0 : (l2 ()).length = 0
    · have hB : l2 () = [] := List.eq_nil_of_length_eq_zero hl0
      refine ⟨.slice A 0 0, w, none, ?_, ⟨rfl, rfl, rfl, Nat.le_refl _, fun _ _ _ => rfl⟩, ?_, ?_⟩
      · rw [hl0]; exact append_zero t ty e i hsl hi A _ 0 0 c (Nat.le_refl _)
      · exact hr.new (X := fun _ => False) ⟨rfl, rfl, rfl, Nat.le_refl _, fun _ _ _ => rfl⟩ (fun _ h => h) hn (b := .row e K f) (r := none) (by simp only [BRel]; rw [hf, hB]) (fun g c h => by cases h)
      · simp only [VR]
        exact ⟨none, by simp [upd], rfl, by rw [hln, hl0], A, rfl⟩
    · have hge := grownCap_ge w (l2 ()).length 0 e
      have hcm := grownCap_le_maxLen w (l2 ()).length 0 e ho2
      have hrel : Rel W ⟨upd S.σ new (some (w.heap.size, grownCap w (l2 ()).length 0 e)), S.F⟩ (hset h new (.row e K f)) (w.drew.alloc (.cells (news.toArray ++ Builtin.zeroCells re.z.cells (grownCap w (l2 ()).length 0 e - (l2 ()).length)) e)) := by
        refine hr.new (X := fun _ => False) (Chg.drewAlloc _ _) (fun _ h => h) hn (b := .row e K f) ⟨_, heap_alloc_new w.drew _, ?_, ?_, hcm, ?_⟩ (fun g c h => by cases h; exact Nat.le_refl _)
        · rw [Array.size_append, zeroCells_size, (hE.rows e re he).z, ← hk.1]
          simp only [List.size_toArray]
          rw [n1, ← Nat.add_mul]
          congr 1
          omega
        · rw [hf]; exact hge
        · rw [hf]
          have := RowAt.app' (F := S.F) (K := K) (xs := []) (news := news) (rest := Builtin.zeroCells re.z.cells (grownCap w (l2 ()).length 0 e - (l2 ()).length)) (l1 := []) (l2 := l2 ()) (fun i x hi => by simp at hi) (by simp) n4
          simpa only [List.nil_append, Array.empty_append] using this
      have hvr : VR ⟨upd S.σ new (some (w.heap.size, grownCap w (l2 ()).length 0 e)), S.F⟩ (.sl new K.size (.l 0) ln) (.slice (some ⟨w.heap.size, 0, none⟩) (l2 ()).length (grownCap w (l2 ()).length 0 e)) := by
        simp only [VR]
        refine ⟨some (w.heap.size, grownCap w (l2 ()).length 0 e), by simp [upd], by simp only [SN.d_l, hln]; omega, 0, by simp [hln], .inl (by simp)⟩
      refine ⟨_, _, _, ?_, Chg.drewAlloc _ _, hrel, hvr⟩
      cases A with
      | none => exact run_append_nil w t ty e i re.z hsl hi hi3 ad _ c news (by rw [n1, hisz]) n2 (by omega) (by simp only [maxLen] at ho2; omega) (by rw [hi2]; omega)
      | some b =>
        have := run_append_grow (P := P) w t ty e i re.z hsl hi hi3 b 0 0 [] (by simp) (fun j v hj => by simp at hj) ad (l2 ()).length c news (by rw [n1, hisz]) n2 (by omega) (by simp only [maxLen] at ho2; omega) (by
          rw [Nat.zero_add, nextslicecap_zero (by omega), hi2]; omega)
        simpa using this

/-- A block goes over into another number. -/
theorem Rel.move (hr : Rel W S h w) {w' : World} {id new g c c' : Nat} (ha : alive (hget h id) = true) (hσ : S.σ id = some (some (g, c))) (hn : S.σ new = none) (hc : Chg w w' (fun k => k = g)) {b : Blk}
    (hb : BRel ⟨upd S.σ new (some (g, c')), S.F⟩ b (some (g, c')) w') : Rel W ⟨upd S.σ new (some (g, c')), S.F⟩ (hsets h [(new, b), (id, .dead)]) w' := by
  obtain ⟨ho1, ho2⟩ := hr.own id g c ha hσ
  have hne : new ≠ id := by rintro rfl; rw [hσ] at hn; cases hn
  have hg : ∀ m, hget (hsets h [(new, b), (id, .dead)]) m = if m = id then .dead else if m = new then b else hget h m := by
    intro m; simp only [hsets]; rw [hget_hset, hget_hset]
  refine ⟨hc.below hr.below (fun k hk => by rw [hk]; exact ho1), hr.fv.chg hc (fun k hk => by rw [hk]; exact ho2), ?_, ?_, ?_⟩
  · intro m hm
    rw [hg] at hm ⊢
    by_cases e : m = id
    · rw [if_pos e] at hm; simp [alive] at hm
    · rw [if_neg e] at hm ⊢
      by_cases e' : m = new
      · subst e'
        rw [if_pos rfl]
        exact ⟨_, by simp [upd], hb⟩
      · rw [if_neg e'] at hm ⊢
        obtain ⟨r, h1, h2⟩ := hr.blk m hm
        refine ⟨r, by simp [upd, e', h1], h2.mono (upd_le hn) fun g' c' hgc => ?_⟩
        subst hgc
        refine hc.block g' (h2.lt hm) fun hx => ?_
        subst hx
        exact e (hr.inj m id g' c' c hm ha h1 hσ)
  · intro m g' c1 hm hσm
    rw [hg] at hm
    simp only [upd] at hσm
    by_cases e : m = id
    · rw [if_pos e] at hm; simp [alive] at hm
    · rw [if_neg e] at hm
      by_cases e' : m = new
      · rw [if_pos e'] at hσm
        cases hσm
        exact ⟨ho1, ho2⟩
      · rw [if_neg e'] at hm hσm
        exact hr.own m g' c1 hm hσm
  · intro m m' g' c1 c2 hm hm' hσm hσm'
    rw [hg] at hm hm'
    simp only [upd] at hσm hσm'
    by_cases e : m = id
    · rw [if_pos e] at hm; simp [alive] at hm
    · by_cases e2 : m' = id
      · rw [if_pos e2] at hm'; simp [alive] at hm'
      · rw [if_neg e] at hm
        rw [if_neg e2] at hm'
        by_cases e' : m = new <;> by_cases e2' : m' = new
        · rw [e', e2']
        · rw [if_pos e'] at hσm
          cases hσm
          rw [if_neg e2'] at hm' hσm'
          exact absurd (hr.inj m' id _ c2 c hm' ha hσm' hσ) e2
        · rw [if_pos e2'] at hσm'
          cases hσm'
          rw [if_neg e'] at hm hσm
          exact absurd (hr.inj m id _ c1 c hm ha hσm hσ) e
        · rw [if_neg e'] at hm hσm
          rw [if_neg e2'] at hm' hσm'
          exact hr.inj m m' g' c1 c2 hm hm' hσm hσm'

/-- Onto a row of one's own. -/
theorem append_own (hE : EnvRows P E) (hr : Rel W S h w) {t e ty : TypeId} {rt re : TRow} {K : Kd} (ht : E.row t = some rt) (hd : rt.d = .slice e) (he : E.row e = some re) (hK : re.kd = some K) {id sz : Nat} {len : SN} {sv : Value} (hs : VR S (.sl id sz (.l 0) len) sv)
    {l : Unit → List K.T} (hg : hget h id = .row e K l) (hlen : len.d = (l ()).length)
    {x : AV} {xv : Value} (hx : VR S x xv) {l2 : Unit → List K.T} (hl2 : newsOf K (roOf h x) = some l2) (hob : allO (slObs h x)) (ho1 : ((l ()).length + (l2 ()).length) * re.bytes ≤ 140737488355328) (ho2 : (l ()).length + (l2 ()).length ≤ maxLen) {new : Nat} (hn : S.σ new = none)
    {f : Unit → List K.T} (hf : f () = l () ++ l2 ()) {ln : SN} (hln : ln.d = (l ()).length + (l2 ()).length) :
    ∃ v w' r, (Builtin.append_ #[t, t] ty #[sv, xv]).run P w = .ok v w' ∧ Rel W ⟨upd S.σ new r, S.F⟩ (hsets h [(new, .row e K f), (id, .dead)]) w' ∧ VR ⟨upd S.σ new r, S.F⟩ (.sl new K.size (.l 0) ln) v := by
  have hk := (hE.rows e re he).kd K hK
  have hpos : 0 < K.size := by rw [hk.1]; exact (hE.rows e re he).pos
  obtain ⟨i, hi, hi1, hi2, hi3⟩ := row_info hE he
  have hsl := row_slice hE ht hd
  have hisz : i.size = K.size := by rw [hi1, hk.1]
  have ha : alive (hget h id) = true := by rw [hg]; rfl
  simp only [VR] at hs
  obtain ⟨r, hσ, hs⟩ := hs
  obtain ⟨r', hσ', hb⟩ := hr.blk id ha
  rw [hσ] at hσ'
  cases hσ'
  rw [hg] at hb
  have empty : (l ()) = [] → ∀ A, sv = .slice A 0 0 → ∃ v w' r, (Builtin.append_ #[t, t] ty #[sv, xv]).run P w = .ok v w' ∧ Rel W ⟨upd S.σ new r, S.F⟩ (hsets h [(new, .row e K f), (id, .dead)]) w' ∧ VR ⟨upd S.σ new r, S.F⟩ (.sl new K.size (.l 0) ln) v := by
    intro hl0 A hsv
    subst hsv
    rw [hl0] at ho1 ho2 hf hln
    obtain ⟨v, w', r, h1, _, h2, h3⟩ := append_empty (ty := ty) hE hr ht hd he hK A hx hl2 hob (by simpa using ho1) (by simpa using ho2) hn (f := f) (by simpa using hf) (ln := ln) (by simpa using hln)
    exact ⟨v, w', r, h1, by simpa only [hsets] using h2.forget id, h3⟩
  cases r with
  | none =>
    obtain ⟨h5, h6, A, rfl⟩ := hs
    exact empty hb A rfl
  | some p =>
    obtain ⟨g, c⟩ := p
    obtain ⟨h5, o, rfl, h6⟩ := hs
    obtain ⟨cells, h7, h8, h9, h10, h11⟩ := hb
    simp only [SN.d_l, Nat.zero_add, Nat.sub_zero, Nat.zero_mul] at h5 h6 empty ⊢
    by_cases hc0 : c = 0
    · subst hc0
      have hl0 : (l ()).length = 0 := by omega
      exact empty (List.eq_nil_of_length_eq_zero hl0) (some ⟨g, o, none⟩) (by rw [hlen, hl0])
    · have ho : o = 0 := by rcases h6 with h6 | h6 <;> omega
      subst ho
      rw [hlen]
      obtain ⟨B, cx, rfl, hB⟩ := news_ok hr hpos hx hl2 hob
      have hxs : ((cells.toList).take ((l ()).length * K.size)).length = (l ()).length * K.size := by
        rw [List.length_take, Array.length_toList (xs := cells), h8]
        exact Nat.min_eq_left (Nat.mul_le_mul_right _ h9)
      have hla : ListAt S.F K (cells.toList.take ((l ()).length * K.size)) (l ()) := by
        intro k y hk'
        obtain ⟨vs, h12, h13⟩ := h11 k y hk'
        refine ⟨vs, h12, fun j v hj => ?_⟩
        have hjl : j < K.size := by rw [← KR.len _ _ _ h12]; exact (List.getElem?_eq_some_iff.1 hj).1
        have hkl := (List.getElem?_eq_some_iff.1 hk').1
        have := Nat.mul_le_mul_right K.size (show k + 1 ≤ (l ()).length from hkl)
        rw [Nat.add_mul] at this
        rw [List.getElem?_take, if_pos (by omega)]
        simpa using h13 j v hj
      by_cases hl0 : (l2 ()).length = 0
      · refine ⟨.slice (some ⟨g, 0, none⟩) (l ()).length c, w, some (g, c), by rw [hl0]; exact append_zero t ty e i hsl hi _ B _ _ cx h9, ?_, ?_⟩
        · refine hr.move ha hσ hn ⟨rfl, rfl, rfl, Nat.le_refl _, fun _ _ _ => rfl⟩ (b := .row e K f) ⟨cells, h7, h8, ?_, h10, ?_⟩
          · rw [hf, List.length_append, hl0]; omega
          · rw [hf, List.eq_nil_of_length_eq_zero hl0, List.append_nil]; exact h11
        · simp only [VR]
          exact ⟨some (g, c), by simp [upd], by simp only [SN.d_l, hln]; omega, 0, by simp [hln, hl0], .inl (by simp)⟩
      · rcases hB with hB | ⟨ad, news, rfl, n1, n2, n3, n4⟩
        · rw [hB] at hl0; simp at hl0
        · by_cases hroom : (l ()).length + (l2 ()).length ≤ c
          · have hfit : (l ()).length * K.size + news.length ≤ cells.size := by
              rw [n1, h8, ← Nat.add_mul]
              exact Nat.mul_le_mul_right _ hroom
            have hrun := run_append_room (P := P) w t ty e i hsl hi g (l ()).length c cells h7 ad (l2 ()).length cx news (by rw [n1, hisz]) n2 n3 hroom (by rw [hisz]; exact hfit)
            rw [hisz] at hrun
            refine ⟨_, _, some (g, c), hrun, ?_, ?_⟩
            · refine hr.move ha hσ hn (Chg.setRow _ _ _) (b := .row e K f) ⟨_, setRow_heap w g cells _ e (0, 0) h7, ?_, ?_, h10, ?_⟩
              · rw [List.size_toArray, List.length_append, List.length_append, hxs, List.length_drop, Array.length_toList (xs := cells)]
                omega
              · rw [hf, List.length_append]; exact hroom
              · rw [hf]
                exact RowAt.app hla hxs n4
            · simp only [VR]
              exact ⟨some (g, c), by simp [upd], by simp only [SN.d_l, hln]; omega, 0, by simp [hln], .inl (by simp)⟩
          · have hge := grownCap_ge w ((l ()).length + (l2 ()).length) c e
            have hcm := grownCap_le_maxLen w ((l ()).length + (l2 ()).length) c e ho2
            have hrun := run_append_grow (P := P) w t ty e i re.z hsl hi hi3 ⟨g, 0, none⟩ (l ()).length c (cells.toList.take ((l ()).length * K.size)) (by rw [hxs, hisz]) (by
              intro j v hj
              rw [add_none, Nat.zero_add, cell_of_row w g _ cells e (0, 0) h7]
              rw [List.getElem?_take] at hj
              split at hj
              · simpa using hj
              · cases hj) ad (l2 ()).length cx news (by rw [n1, hisz]) n2 (by omega) (by simp only [maxLen] at ho2; omega) (by rw [hi2]; exact growslice_fits (by omega) ho1)
            refine ⟨_, _, some (w.heap.size, grownCap w ((l ()).length + (l2 ()).length) c e), hrun, ?_, ?_⟩
            · have hnew := hr.new (X := fun _ => False) (w' := w.drew.alloc (.cells ((cells.toList.take ((l ()).length * K.size)).toArray ++ news.toArray ++ Builtin.zeroCells re.z.cells (grownCap w ((l ()).length + (l2 ()).length) c e - ((l ()).length + (l2 ()).length))) e)) ⟨rfl, rfl, rfl, by simp, fun k hk _ => Below.heap_alloc w.drew _ k hk⟩ (fun _ h => h) hn (b := .row e K f) (r := some (w.heap.size, grownCap w ((l ()).length + (l2 ()).length) c e)) ⟨_, heap_alloc_new w.drew _, by
                  rw [Array.size_append, Array.size_append, zeroCells_size, (hE.rows e re he).z, ← hk.1]
                  simp only [List.size_toArray]
                  rw [hxs, n1, ← Nat.add_mul, ← Nat.add_mul]
                  congr 1
                  omega, by rw [hf, List.length_append]; exact hge, hcm, by
                  rw [hf]
                  exact RowAt.app' hla hxs n4⟩ (fun g c h => by cases h; exact Nat.le_refl _)
              simpa only [hsets] using hnew.forget id
            · simp only [VR]
              exact ⟨some (w.heap.size, grownCap w ((l ()).length + (l2 ()).length) c e), by simp [upd], by simp only [SN.d_l, hln]; omega, 0, by simp [hln], .inl (by simp)⟩

end
end Go.Sx
