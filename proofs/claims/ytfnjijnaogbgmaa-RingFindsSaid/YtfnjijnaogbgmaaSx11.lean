/- A reckoner of Go code over told values: steps that look at memory. -/
import Derived.Test.YtfnjijnaogbgmaaSx10
namespace Go.Sx
open Go Go.RowKit
set_option linter.unusedVariables false
set_option linter.unusedSimpArgs false

mutual
theorem KR.enc {S : Sg} : (K : Kd) → (x : Unit → K.T) → (vs : List Value) → KR S.F K (x ()) vs → VRs S (K.enc x) vs
  | .int k, x, vs, h => by
    simp only [KR] at h; subst h
    simp only [Kd.enc]
    exact ⟨_, _, rfl, by simp only [VR]; rfl, by simp only [VRs]⟩
  | .bool, x, vs, h => by
    simp only [KR] at h; subst h
    simp only [Kd.enc]
    exact ⟨_, _, rfl, by simp only [VR]; rfl, by simp only [VRs]⟩
  | .str, x, vs, h => by
    simp only [KR] at h; subst h
    simp only [Kd.enc]
    exact ⟨_, _, rfl, by simp only [VR], by simp only [VRs]⟩
  | .slice e, x, vs, h => by
    have h' := h
    simp only [KR] at h'
    obtain ⟨A, c, rfl, _⟩ := h'
    simp only [Kd.enc]
    exact ⟨_, _, rfl, by simp only [VR]; exact h, by simp only [VRs]⟩
  | .struct fs, x, vs, h => by
    simp only [KR] at h
    simp only [Kd.enc]
    exact KRs.enc fs x vs h
theorem KRs.enc {S : Sg} : (K : List Kd) → (x : Unit → Kds.T K) → (vs : List Value) → KRs S.F K (x ()) vs → VRs S (Kds.enc K x) vs
  | [], x, vs, h => by simp only [KRs] at h; subst h; simp only [Kds.enc, VRs]
  | k :: ks, x, vs, h => by
    simp only [KRs] at h
    obtain ⟨v1, v2, rfl, h1, h2⟩ := h
    simp only [Kds.enc]
    exact VRs.append (KR.enc k (fun _ => (x ()).1) v1 h1) (KRs.enc ks (fun _ => (x ()).2) v2 h2)
end

theorem castL_eq {K e : Kd} {l : Unit → List K.T} {l' : Unit → List e.T} (h : castL K e l = some l') : ∃ he : K = e, he ▸ l = l' := by
  unfold castL at h
  split at h
  · rename_i hs
    exact ⟨Kd.eq_of_same K e hs, Option.some.inj h⟩
  · cases h

mutual
theorem Kd.dec_ok {S : Sg} : (K : Kd) → (cs : List AV) → (x : Unit → K.T) → (r : List AV) → (vs : List Value) → K.dec cs = some (x, r) → VRs S cs vs → ∃ v1 v2, vs = v1 ++ v2 ∧ KR S.F K (x ()) v1 ∧ VRs S r v2
  | .int k, cs, x, r, vs, h, hv => by
    simp only [Kd.dec] at h
    split at h
    · split at h
      · rename_i hk
        subst hk
        simp only [Option.some.injEq, Prod.mk.injEq] at h
        obtain ⟨rfl, rfl⟩ := h
        simp only [VRs] at hv
        obtain ⟨v, vs', rfl, hv1, hv2⟩ := hv
        simp only [VR] at hv1
        exact ⟨[v], vs', rfl, by simp only [KR, hv1], hv2⟩
      · cases h
    · cases h
  | .bool, cs, x, r, vs, h, hv => by
    simp only [Kd.dec] at h
    split at h
    · simp only [Option.some.injEq, Prod.mk.injEq] at h
      obtain ⟨rfl, rfl⟩ := h
      simp only [VRs] at hv
      obtain ⟨v, vs', rfl, hv1, hv2⟩ := hv
      simp only [VR] at hv1
      exact ⟨[v], vs', rfl, by simp only [KR, hv1], hv2⟩
    · cases h
  | .str, cs, x, r, vs, h, hv => by
    simp only [Kd.dec] at h
    split at h
    · simp only [Option.some.injEq, Prod.mk.injEq] at h
      obtain ⟨rfl, rfl⟩ := h
      simp only [VRs] at hv
      obtain ⟨v, vs', rfl, hv1, hv2⟩ := hv
      simp only [VR] at hv1
      exact ⟨[v], vs', rfl, by simp only [KR, hv1], hv2⟩
    · cases h
  | .slice e, cs, x, r, vs, h, hv => by
    simp only [Kd.dec] at h
    split at h
    · split at h
      · rename_i l' hl
        simp only [Option.some.injEq, Prod.mk.injEq] at h
        obtain ⟨rfl, rfl⟩ := h
        obtain ⟨he, hl⟩ := castL_eq hl
        subst he
        subst hl
        simp only [VRs] at hv
        obtain ⟨v, vs', rfl, hv1, hv2⟩ := hv
        simp only [VR] at hv1
        exact ⟨[v], vs', rfl, hv1, hv2⟩
      · cases h
    · simp only [Option.some.injEq, Prod.mk.injEq] at h
      obtain ⟨rfl, rfl⟩ := h
      simp only [VRs] at hv
      obtain ⟨v, vs', rfl, hv1, hv2⟩ := hv
      simp only [VR] at hv1
      exact ⟨[v], vs', rfl, by simp only [KR]; exact ⟨none, 0, by rw [hv1]; rfl, Nat.le_refl _, .inl rfl⟩, hv2⟩
    · simp only [Option.some.injEq, Prod.mk.injEq] at h
      obtain ⟨rfl, rfl⟩ := h
      simp only [VRs] at hv
      obtain ⟨v, vs', rfl, hv1, hv2⟩ := hv
      simp only [VR] at hv1
      obtain ⟨A, hv1⟩ := hv1
      exact ⟨[v], vs', rfl, by simp only [KR]; exact ⟨A, 0, by rw [hv1]; rfl, Nat.le_refl _, .inl rfl⟩, hv2⟩
    · cases h
  | .struct fs, cs, x, r, vs, h, hv => by
    simp only [Kd.dec] at h
    obtain ⟨v1, v2, h1, h2, h3⟩ := Kds.dec_ok fs cs x r vs h hv
    exact ⟨v1, v2, h1, by simpa only [KR] using h2, h3⟩
theorem Kds.dec_ok {S : Sg} : (K : List Kd) → (cs : List AV) → (x : Unit → Kds.T K) → (r : List AV) → (vs : List Value) → Kds.dec K cs = some (x, r) → VRs S cs vs → ∃ v1 v2, vs = v1 ++ v2 ∧ KRs S.F K (x ()) v1 ∧ VRs S r v2
  | [], cs, x, r, vs, h, hv => by
    simp only [Kds.dec, Option.some.injEq, Prod.mk.injEq] at h
    have h := h.2
    subst h
    exact ⟨[], vs, rfl, by simp only [KRs], hv⟩
  | k :: ks, cs, x, r, vs, h, hv => by
    simp only [Kds.dec] at h
    split at h
    · cases h
    · rename_i y r1 hy
      split at h
      · cases h
      · rename_i z r2 hz
        simp only [Option.some.injEq, Prod.mk.injEq] at h
        obtain ⟨rfl, rfl⟩ := h
        obtain ⟨v1, v2, rfl, h1, h2⟩ := Kd.dec_ok k _ _ _ _ hy hv
        obtain ⟨v3, v4, rfl, h3, h4⟩ := Kds.dec_ok ks _ _ _ _ hz h2
        exact ⟨v1 ++ v3, v4, by rw [List.append_assoc], by simp only [KRs]; exact ⟨v1, v3, rfl, h1, h3⟩, h4⟩
end
theorem Kd.dec_all {S : Sg} {K : Kd} {cs : List AV} {x : Unit → K.T} {vs : List Value} (h : K.dec cs = some (x, [])) (hv : VRs S cs vs) : KR S.F K (x ()) vs := by
  obtain ⟨v1, v2, rfl, h1, h2⟩ := Kd.dec_ok K _ _ _ _ h hv
  simp only [VRs] at h2
  subst h2
  simpa using h1

section
variable {P : Program} {E : Env} {S : Sg} {w W : World} {h : List Blk}

theorem load_run (hE : EnvRows P E) {t T : TypeId} {cs : List AV} {vs : List Value} {g base off : Nat} {cells : Array Value} {fz : Nat × Nat} {r : AV} (hb : w.heap[g]? = some (.cells cells T fz)) (hvs : VRs S cs vs)
    (hc : ∀ (j : Nat) (v : Value), vs[j]? = some v → cells[base + j]? = some v) (hp : partA E t cs off = some r) : ∃ u, (loadVar t ⟨g, base + off, none⟩).run P w = .ok u w ∧ VR S r u := by
  unfold partA at hp
  split at hp
  · cases hp
  · rename_i row hr
    split at hp
    · rename_i hagg
      split at hp
      · rename_i l hl
        obtain rfl := Option.some.inj hp
        obtain ⟨h1, h2⟩ := hvs.cut hl
        refine ⟨.agg ((vs.drop off).take row.size).toArray, ?_, by simp only [VR]; exact ⟨_, rfl, h1⟩⟩
        have hlen : ((vs.drop off).take row.size).length = row.size := by simp; omega
        have hl := run_loadCells_list (P := P) w ⟨g, base + off, none⟩ ((vs.drop off).take row.size) (by
          intro j v hj
          rw [add_none, cell_of_row w g _ cells T fz hb]
          rw [List.getElem?_take] at hj
          split at hj
          · rw [List.getElem?_drop] at hj
            rw [Nat.add_assoc]
            exact hc _ _ hj
          · cases hj)
        rw [hlen] at hl
        simp [loadVar, row_agg hE hr, hagg, row_size hE hr, hl]
      · cases hp
    · rename_i hagg
      split at hp
      · rename_i v hv
        obtain rfl := Option.some.inj hp
        obtain ⟨u, h1, h2⟩ := hvs.nth hv
        refine ⟨u, ?_, h2⟩
        have := hc _ _ h1
        have hcell : w.cell? ⟨g, base + off, none⟩ = some u := by rw [cell_of_row w g _ cells T fz hb]; exact this
        simp [loadVar, row_agg hE hr, hagg, hcell]
      · cases hp

theorem getD_get {α : Type} {l : List α} {i : Nat} (d : α) (h : i < l.length) : l[i]? = some (l.getD i d) := by
  simp [List.getD, h]

theorem loadA_ok (hE : EnvRows P E) (hr : Rel W S h w) {t : TypeId} {x : AV} {v : Value} {r : Res} (hl : loadA E h t x = some r) (ho : allO r.obs) (hx : VR S x v) :
    r.up = [] ∧ ∃ u, (Instr.loadAt t v).run P w = .ok u w ∧ VR S r.v u := by
  unfold loadA at hl
  split at hl
  · rename_i id off
    split at hl
    · rename_i T cs hg
      split at hl
      · rename_i y hy
        obtain rfl := Option.some.inj hl
        refine ⟨rfl, ?_⟩
        simp only [VR] at hx
        obtain ⟨g, c, h1, rfl⟩ := hx
        obtain ⟨rr, h2, h3⟩ := hr.blk id (by rw [hg]; rfl)
        rw [h1] at h2
        cases h2
        rw [hg] at h3
        obtain ⟨g', c', cells, h4, h5, h6⟩ := h3
        cases h4
        obtain ⟨u, h7, h8⟩ := load_run (base := 0) hE h5 h6 (fun j v hj => by rw [Nat.zero_add]; simpa using hj) hy
        refine ⟨u, ?_, h8⟩
        rw [Nat.zero_add] at h7
        simp [Instr.loadAt, Instr.sureAddr, h7]
      · cases hl
    · cases hl
  · rename_i id i sz fld
    split at hl
    · rename_i T K l hg
      split at hl
      · rename_i y hy
        split at hl
        · rename_i hsz
          obtain rfl := Option.some.inj hl
          refine ⟨rfl, ?_⟩
          simp only [allO, nI_eq, and_true] at ho
          simp only [VR] at hx
          obtain ⟨g, c, h1, rfl⟩ := hx
          obtain ⟨rr, h2, h3⟩ := hr.blk id (by rw [hg]; rfl)
          rw [h1] at h2
          cases h2
          rw [hg] at h3
          obtain ⟨cells, h4, h5, h6, h7, h8⟩ := h3
          obtain ⟨vs, h9, h10⟩ := h8 i.d _ (getD_get K.z ho)
          obtain ⟨u, h11, h12⟩ := load_run (base := i.d * K.size) (cs := K.enc fun _ => (l ()).getD i.d K.z) hE h4 (KR.enc K _ vs h9) h10 hy
          refine ⟨u, ?_, h12⟩
          rw [hsz] at h11
          simp [Instr.loadAt, Instr.sureAddr, h11]
        · cases hl
      · cases hl
    · cases hl
  · rename_i K l i fld
    split at hl
    · rename_i y hy
      obtain rfl := Option.some.inj hl
      refine ⟨rfl, ?_⟩
      simp only [allO, nI_eq, and_true] at ho
      simp only [VR] at hx
      obtain ⟨a, h1, h2, rfl⟩ := hx
      rcases h1 with h1 | ⟨a', cells, T, fz, h3, h4, h5, h6⟩
      · rw [h1] at ho; simp at ho
      · cases h3
        obtain ⟨vs, h9, h10⟩ := h6 i.d _ (getD_get K.z ho)
        obtain ⟨u, h11, h12⟩ := load_run (base := a.off + i.d * K.size) (cs := K.enc fun _ => (l ()).getD i.d K.z) hE (hr.fv _ _ h5) (KR.enc K _ vs h9) h10 hy
        exact ⟨u, by simp [Instr.loadAt, Instr.sureAddr, h11], h12⟩
    · cases hl
  · rename_i cs off
    split at hl
    · rename_i y hy
      obtain rfl := Option.some.inj hl
      refine ⟨rfl, ?_⟩
      simp only [VR] at hx
      obtain ⟨g, vs, T, rfl, h5, h6⟩ := hx
      obtain ⟨u, h7, h8⟩ := load_run (base := 0) hE (hr.fv _ _ h5) h6 (fun j v hj => by rw [Nat.zero_add]; simpa using hj) hy
      refine ⟨u, ?_, h8⟩
      rw [Nat.zero_add] at h7
      simp [Instr.loadAt, Instr.sureAddr, h7]
    · cases hl
  · cases hl

end
end Go.Sx
