/- A reckoner of Go code over told values: steps that write. -/
import Derived.Test.YtfnjijnaogbgmaaSx11
namespace Go.Sx
open Go Go.RowKit
set_option linter.unusedVariables false
set_option linter.unusedSimpArgs false

theorem hget_kill : ∀ (ids : List Nat) (h : List Blk) (m : Nat), hget (hsets h (kill ids)) m = if m ∈ ids then .dead else hget h m
  | [], h, m => by simp [kill, hsets]
  | i :: ids, h, m => by
    simp only [kill, hsets]
    rw [hget_kill ids, hget_hset]
    by_cases e : m = i
    · subst e; simp
    · by_cases e' : m ∈ ids <;> simp [e, e']

section
variable {P : Program} {E : Env} {S : Sg} {w W : World} {h : List Blk}

theorem Rel.ext (hr : Rel W S h w) {h' : List Blk} (he : ∀ id, hget h' id = hget h id) : Rel W S h' w :=
  ⟨hr.below, hr.fv, fun id ha => by rw [he] at ha ⊢; exact hr.blk id ha, fun id g c ha => by rw [he] at ha; exact hr.own id g c ha, fun id id' g c c' ha ha' => by rw [he] at ha ha'; exact hr.inj id id' g c c' ha ha'⟩

open Classical in
noncomputable def frzF (S : Sg) (h : List Blk) (ids : List Nat) (w : World) : Frozen :=
  fun b => if (∃ id, id ∈ ids ∧ alive (hget h id) = true ∧ ∃ c, S.σ id = some (some (b, c))) then w.heap[b]? else S.F b
noncomputable def frzS (S : Sg) (h : List Blk) (ids : List Nat) (w : World) : Sg := ⟨S.σ, frzF S h ids w⟩

theorem frz_le (hr : Rel W S h w) (ids : List Nat) : S.le (frzS S h ids w) := by
  refine ⟨fun _ _ h => h, fun b o hb => ?_⟩
  simp only [frzS, frzF]
  split
  · exact hr.fv b o hb
  · exact hb
theorem frz_fv (hr : Rel W S h w) (ids : List Nat) : FV (frzS S h ids w).F w := by
  intro b o hb
  simp only [frzS, frzF] at hb
  split at hb
  · exact hb
  · exact hr.fv b o hb
theorem frz_rel (hr : Rel W S h w) (ids : List Nat) : Rel W (frzS S h ids w) (hsets h (kill ids)) w := by
  have key : ∀ id, alive (hget (hsets h (kill ids)) id) = true → id ∉ ids ∧ alive (hget h id) = true ∧ hget (hsets h (kill ids)) id = hget h id := by
    intro id ha
    rw [hget_kill] at ha
    split at ha
    · simp [alive] at ha
    · rename_i hn
      exact ⟨hn, ha, by rw [hget_kill, if_neg hn]⟩
  refine ⟨hr.below, frz_fv hr ids, ?_, ?_, ?_⟩
  · intro id ha
    obtain ⟨h1, h2, h3⟩ := key id ha
    obtain ⟨r, h4, h5⟩ := hr.blk id h2
    exact ⟨r, h4, by rw [h3]; exact h5.mono (frz_le hr ids) fun _ _ _ => rfl⟩
  · intro id g c ha hσ
    obtain ⟨h1, h2, h3⟩ := key id ha
    obtain ⟨h4, h5⟩ := hr.own id g c h2 hσ
    refine ⟨h4, ?_⟩
    simp only [frzS, frzF]
    rw [if_neg]
    · exact h5
    · rintro ⟨id', h6, h7, c', h8⟩
      have := hr.inj id id' g c c' h2 h7 hσ h8
      subst this
      exact h1 h6
  · intro id id' g c c' ha ha' hσ hσ'
    exact hr.inj id id' g c c' (key id ha).2.1 (key id' ha').2.1 hσ hσ'

theorem frz_old (hr : Rel W S h w) (ids : List Nat) : ∀ b, b < W.heap.size → (frzS S h ids w).F b = S.F b := by
  intro b hb
  simp only [frzS, frzF]
  rw [if_neg]
  rintro ⟨id, _, ha, c, hσ⟩
  have := (hr.own id b c ha hσ).1
  omega
theorem roOf_ok (hr : Rel W S h w) {ids : List Nat} {x : AV} {v : Value} (hx : VR S x v) (ho : allO (slObs h x)) (hi : ∀ i ∈ slOf x, i ∈ ids) : VR (frzS S h ids w) (roOf h x) v := by
  cases x
  case sl id sz off len =>
    simp only [roOf]
    split
    · rename_i T K l hg
      split
      · rename_i hsz
        simp only [slObs, hg, allO, and_true] at ho
        simp only [VR] at hx
        obtain ⟨r, h1, h2⟩ := hx
        obtain ⟨r', h3, h4⟩ := hr.blk id (by rw [hg]; rfl)
        rw [h1] at h3
        cases h3
        rw [hg] at h4
        simp only [VR, KR]
        have hlen : (((l ()).drop off.d).take len.d).length = len.d := by simp; omega
        cases r with
        | none =>
          obtain ⟨h5, h6, A, rfl⟩ := h2
          refine ⟨A, 0, by rw [hlen, h6], by rw [hlen, h6]; exact Nat.le_refl _, .inl (by rw [h6]; simp)⟩
        | some p =>
          obtain ⟨g, c⟩ := p
          obtain ⟨h5, o, rfl, h6⟩ := h2
          obtain ⟨cells, h7, h8, h9, h10, h11⟩ := h4
          refine ⟨_, _, by rw [hlen], by rw [hlen]; omega, ?_⟩
          by_cases he : ((l ()).drop off.d).take len.d = []
          · exact .inl he
          · have hpos : 0 < len.d := by rw [← hlen]; exact List.length_pos_iff.2 he
            have ho' : o = off.d * sz := by rcases h6 with h6 | h6 <;> omega
            refine .inr ⟨⟨g, o, none⟩, cells, T, (0, 0), rfl, rfl, ?_, ?_⟩
            · simp only [frzS, frzF]
              rw [if_pos ⟨id, hi id (by simp [slOf]), by rw [hg]; rfl, c, h1⟩]
              exact h7
            · intro i y hy
              have hy' : (l ())[off.d + i]? = some y := by
                rw [List.getElem?_take] at hy
                split at hy
                · rwa [List.getElem?_drop] at hy
                · cases hy
              obtain ⟨vs, h12, h13⟩ := h11 _ _ hy'
              refine ⟨vs, KR.mono (frz_le hr ids).F _ _ _ h12, fun j v hj => ?_⟩
              rw [← h13 j v hj, ho', ← hsz, Nat.add_mul]
      · simp only [VR]
    · simp only [VR]
  all_goals exact VR.mono (frz_le hr ids) _ _ hx
theorem frz_ok (hr : Rel W S h w) {ids : List Nat} : ∀ {xs : List AV} {vs : List Value}, VRs S xs vs → allO (slObss h xs) → (∀ i ∈ slsOf xs, i ∈ ids) → VRs (frzS S h ids w) (frz h xs) vs
  | [], vs, hx, _, _ => by simpa only [frz, VRs] using hx
  | x :: xs, vs, hx, ho, hi => by
    simp only [VRs] at hx
    obtain ⟨v, vs', rfl, h1, h2⟩ := hx
    simp only [slObss, allO_append] at ho
    simp only [frz]
    exact ⟨v, vs', rfl, roOf_ok hr h1 ho.1 fun i h => hi i (by simp [slsOf, h]), frz_ok hr h2 ho.2 fun i h => hi i (by simp [slsOf, h])⟩

theorem spliceV_eq : ∀ (l : List Value) (off : Nat) (us : List Value), off + us.length ≤ l.length → l.take off ++ us ++ l.drop (off + us.length) = spliceV l off us := by
  intro l off us hl
  apply List.ext_getElem?
  intro i
  rw [spliceV_get _ _ _ _ hl]
  by_cases h1 : i < off
  · rw [if_neg (by omega), List.append_assoc, List.getElem?_append_left (by simp; omega), List.getElem?_take, if_pos h1]
  · by_cases h2 : i < off + us.length
    · rw [if_pos (by omega), List.append_assoc, List.getElem?_append_right (by simp; omega), List.getElem?_append_left (by simp; omega)]
      congr 1
      simp; omega
    · rw [if_neg (by omega), List.getElem?_append_right (by simp; omega), List.getElem?_drop]
      congr 1
      simp; omega

theorem storeVar_run (hE : EnvRows P E) {t T : TypeId} {g off : Nat} {cells : Array Value} {v : Value} (hs : szIs E t v.cells.size = true) (hb : w.heap[g]? = some (.cells cells T (0, 0))) (hf : off + v.cells.size ≤ cells.size) (h1 : ∀ u ∈ v.cells.toList, u.oneCell' = true) :
    (storeVar t ⟨g, off, none⟩ v).run P w = .ok () (w.setRow g (spliceV cells.toList off v.cells.toList).toArray) := by
  have := run_storeCells_at P g off T v.cells.toList 0 cells w hb (by simpa using hf) h1
  simp only [Nat.add_zero] at this
  rw [spliceV_eq _ _ _ (by simpa using hf)] at this
  simp [storeVar, szIs_size hE hs, this]

theorem mul_lt_row {i i' K j : Nat} (hne : i' ≠ i) (hj : j < K) {fld n : Nat} (hf : fld + n ≤ K) : ¬ (i * K + fld ≤ i' * K + j ∧ i' * K + j < i * K + fld + n) := by
  rintro ⟨h1, h2⟩
  rcases Nat.lt_or_ge i' i with h | h
  · have := Nat.mul_le_mul_right K (show i' + 1 ≤ i from h)
    rw [Nat.add_mul] at this
    omega
  · have := Nat.mul_le_mul_right K (show i + 1 ≤ i' by omega)
    rw [Nat.add_mul] at this
    omega

theorem storeA_ok (hE : EnvRows P E) (hr : Rel W S h w) {t : TypeId} {x y : AV} {xv yv : Value} {r : Res} (hs : storeA E h t x y = some r) (ho : allO r.obs) (hx : VR S x xv) (hy : VR S y yv) :
    r.v = .any ∧ ∃ w' S', (Instr.storeAt t xv yv).run P w = .ok () w' ∧ S.le S' ∧ (∀ b, b < W.heap.size → S'.F b = S.F b) ∧ S'.σ = S.σ ∧ Rel W S' (hsets h r.up) w' := by
  unfold storeA at hs
  split at hs
  case isFalse => cases hs
  rename_i hc
  obtain ⟨hc1, hc2⟩ := hc
  obtain ⟨hyc, hy1⟩ := hy.cells_ones hc2
  have hlen : yv.cells.size = y.cells.length := by simpa using hyc.length
  split at hs
  · rename_i id off
    split at hs
    · rename_i T cs hg
      split at hs
      · rename_i cs' hcs'
        obtain rfl := Option.some.inj hs
        refine ⟨rfl, ?_⟩
        simp only [VR] at hx
        obtain ⟨g, c, h1, rfl⟩ := hx
        obtain ⟨rr, h2, h3⟩ := hr.blk id (by rw [hg]; rfl)
        rw [h1] at h2
        cases h2
        rw [hg] at h3
        obtain ⟨g', c', cells, h4, h5, h6⟩ := h3
        cases h4
        obtain ⟨h7, h8⟩ := h6.splice hyc hcs'
        have hrun := storeVar_run (P := P) (w := w) (t := t) (v := yv) (off := off) hE (by rw [hlen]; exact hc1) h5 (by simpa using h8) hy1
        refine ⟨w.setRow g (spliceV cells.toList off yv.cells.toList).toArray, S, ?_, .refl _, fun _ _ => rfl, rfl, ?_⟩
        · simp only [Instr.storeAt, Instr.sureAddr, Sem.run_bind, Sem.run_pure, Result.andThen, hrun]
        · simp only [hsets]
          refine hr.write (by rw [hg]; rfl) h1 (Chg.setRow _ _ _) ⟨g, c, _, rfl, setRow_heap w g cells _ T (0, 0) h5, ?_⟩
          simpa using h7
      · cases hs
    · cases hs
  · rename_i id i sz fld
    split at hs
    · rename_i T K l hg
      split at hs
      · rename_i hsz
        split at hs
        · rename_i cs hcs
          split at hs
          · rename_i z hz
            split at hs
            · cases hs
            · rename_i hnc
              obtain rfl := Option.some.inj hs
              refine ⟨rfl, ?_⟩
              simp only [allO] at ho
              obtain ⟨hil, hobs⟩ := ho
              simp only [VR] at hx
              obtain ⟨g, c, h1, rfl⟩ := hx
              obtain ⟨rr, h2, h3⟩ := hr.blk id (by rw [hg]; rfl)
              rw [h1] at h2
              cases h2
              rw [hg] at h3
              obtain ⟨cells, h4, h5, h6, h7, h8⟩ := h3
              have hle := frz_le hr (slsOf y.cells)
              have hrel := frz_rel hr (slsOf y.cells)
              obtain ⟨vs, h9, h10⟩ := h8 i.d _ (getD_get K.z hil)
              have hfr := frz_ok hr (ids := slsOf y.cells) hyc hobs fun _ h => h
              have henc := KR.enc (S := frzS S h (slsOf y.cells) w) K (fun _ => (l ()).getD i.d K.z) vs (KR.mono hle.F _ _ _ h9)
              obtain ⟨h11, h12⟩ := henc.splice hfr hcs
              have hvl := KR.len _ _ _ h9
              have hfit : i.d * K.size + fld + yv.cells.size ≤ cells.size := by
                have a1 : fld + yv.cells.size ≤ K.size := by rw [← hvl]; simpa using h12
                have a2 := Nat.mul_le_mul_right K.size (show i.d + 1 ≤ c by omega)
                rw [Nat.add_mul] at a2
                omega
              have hrun := storeVar_run (P := P) (w := w) (t := t) (v := yv) (off := i.d * K.size + fld) hE (by rw [hlen]; exact hc1) h4 hfit hy1
              refine ⟨w.setRow g (spliceV cells.toList (i.d * K.size + fld) yv.cells.toList).toArray, frzS S h (slsOf y.cells) w, ?_, hle, frz_old hr _, rfl, ?_⟩
              · rw [← hsz]
                simp only [Instr.storeAt, Instr.sureAddr, Sem.run_bind, Sem.run_pure, Result.andThen, hrun]
              · have hni : id ∉ slsOf y.cells := by simpa using hnc
                have hg' : hget (hsets h (kill (slsOf y.cells))) id = .row T K l := by rw [hget_kill, if_neg hni, hg]
                refine (hrel.write (n := id) (b := .row T K fun _ => (l ()).set i.d (z ())) (by rw [hg']; rfl) h1 (Chg.setRow _ _ _) ⟨_, setRow_heap w g cells _ T (0, 0) h4, ?_, by simpa using h6, h7, ?_⟩).ext ?_
                · simp [spliceV_length, h5]
                · intro k y' hk
                  have hkl : k < (l ()).length := by
                    have := (List.getElem?_eq_some_iff.1 hk).1
                    simpa using this
                  by_cases e : k = i.d
                  · subst e
                    have hy' : y' = z () := by
                      rw [List.getElem?_set_self (by simpa using hil)] at hk
                      exact (Option.some.inj hk).symm
                    subst hy'
                    refine ⟨spliceV vs fld yv.cells.toList, Kd.dec_all hz h11, fun j v hj => ?_⟩
                    rw [spliceV_get _ _ _ _ (by simpa using h12)] at hj
                    simp only [List.getElem?_toArray]
                    rw [spliceV_get _ _ _ _ (by simpa using hfit)]
                    by_cases hin : fld ≤ j ∧ j < fld + yv.cells.toList.length
                    · rw [if_pos hin] at hj
                      rw [if_pos (by omega)]
                      rw [← hj]
                      congr 1
                      omega
                    · rw [if_neg hin] at hj
                      rw [if_neg (by omega)]
                      simpa using h10 j v hj
                  · rw [List.getElem?_set_ne (by omega)] at hk
                    obtain ⟨us, h13, h14⟩ := h8 k y' hk
                    refine ⟨us, KR.mono hle.F _ _ _ h13, fun j v hj => ?_⟩
                    have hjl : j < K.size := by
                      rw [← KR.len _ _ _ h13]
                      exact (List.getElem?_eq_some_iff.1 hj).1
                    simp only [List.getElem?_toArray]
                    rw [spliceV_get _ _ _ _ (by simpa using hfit)]
                    rw [if_neg]
                    · simpa using h14 j v hj
                    · exact mul_lt_row e hjl (by rw [← hvl]; exact h12)
                · intro m
                  simp only [hsets]
                  rw [hget_kill, hget_hset, hget_hset, hget_kill]
                  by_cases e : m = id
                  · subst e; simp [hni]
                  · simp [e]
          · cases hs
        · cases hs
      · cases hs
    · cases hs
  · cases hs

end
end Go.Sx
