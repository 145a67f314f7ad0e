/- A reckoner of Go code over told values: steps that look at no memory are true. -/
import Derived.Test.YtfnjijnaogbgmaaSx6
namespace Go.Sx
open Go Go.RowKit
set_option linter.unusedVariables false
set_option linter.unusedSimpArgs false
section
variable {P : Program} {E : Env} {S : Sg} {w : World}

def OV (S : Sg) (x : Option AV) (v : Option Value) : Prop := (x = none ∧ v = none) ∨ ∃ y u, x = some y ∧ v = some u ∧ VR S y u

theorem slice_any {x : AV} {v : Value} (hx : VR S x v) (h : (∃ K l, x = .ro K l) ∨ (∃ a b c d, x = .sl a b c d) ∨ x = .nils ∨ x = .e0) : ∃ A n c, v = .slice A n c := by
  rcases h with ⟨K, l, rfl⟩ | ⟨a, b, c, d, rfl⟩ | rfl | rfl
  · simp only [VR, KR] at hx
    obtain ⟨A, c, h1, _⟩ := hx
    simp only [List.cons.injEq, and_true] at h1
    exact ⟨_, _, _, h1⟩
  · simp only [VR] at hx
    obtain ⟨r, _, h⟩ := hx
    cases r with
    | none => obtain ⟨_, _, A, rfl⟩ := h; exact ⟨_, _, _, rfl⟩
    | some p => obtain ⟨_, o, rfl, _⟩ := h; exact ⟨_, _, _, rfl⟩
  · simp only [VR] at hx; exact ⟨_, _, _, hx⟩
  · simp only [VR] at hx; obtain ⟨A, rfl⟩ := hx; exact ⟨_, _, _, rfl⟩

theorem slice3_run (t : TypeId) (e : TypeId) (ht : (underlying t).run P w = .ok (.slice e) w) {n : Nat} (he : (sizeOf e).run P w = .ok n w) (A : Option Addr) (l c : Nat) (k1 k2 : IntKind) (lo : Option Value) (hlo : lo = none ∨ ∃ k, lo = some (.int k 0)) :
    (Instr.sliceAt t (.slice A l c) lo (some (.int k1 0)) (some (.int k2 0))).run P w = .ok (.slice A 0 0) w := by
  rcases hlo with rfl | ⟨k, rfl⟩ <;> simp [Instr.sliceAt, Instr.slice, ht, Instr.sliceBounds, Instr.sliceBound, asIntOf, he]

theorem ov_int {S : Sg} {x : Option AV} {v : Option Value} {k : IntKind} {n : SI} (h : OV S x v) (hx : x = some (.int k n)) : v = some (.int k n.d) := by
  rcases h with ⟨rfl, _⟩ | ⟨y, u, rfl, rfl, hu⟩
  · cases hx
  · cases hx
    simp only [VR] at hu
    rw [hu]
theorem ov_none {S : Sg} {x : Option AV} {v : Option Value} (h : OV S x v) (hx : x = none) : v = none := by
  rcases h with ⟨_, h⟩ | ⟨y, u, rfl, rfl, hu⟩
  · exact h
  · cases hx

theorem sliceA_ok (hE : EnvRows P E) {t : TypeId} {x r : AV} {lo hi mx : Option AV} {v : Value} {vlo vhi vmx : Option Value} {obs : Obs} (h : sliceA E t x lo hi mx = some (r, obs)) (ho : allO obs) (hx : VR S x v)
    (hlo : OV S lo vlo) (hhi : OV S hi vhi) (hmx : OV S mx vmx) : ∃ u, (Instr.sliceAt t v vlo vhi vmx).run P w = .ok u w ∧ VR S r u := by
  unfold sliceA at h
  split at h
  · rename_i hr
    obtain ⟨desc, h1, h2⟩ := row_under (w := w) hE hr
    obtain rfl := digest_str h2
    split at h
    · rename_i s
      simp only [VR] at hx
      subst hx
      split at h
      · split at h
        · rename_i l hl
          split at h
          · rename_i hh hhh
            simp only [Option.some.injEq, Prod.mk.injEq] at h
            obtain ⟨rfl, rfl⟩ := h
            simp only [allO, nI_eq, and_true] at ho
            have hm := ov_none hmx rfl
            subst hm
            have b1 := bnd_ok hl hlo
            have b2 := bnd_ok hhh hhi
            simp only [SN.d_l, SN.d_t] at b1 b2
            refine ⟨.string ((s ()).extract l.d.toNat hh.d.toNat), ?_, by simp only [VR]⟩
            have := sliceBounds_run (P := P) (w := w) (b := false) (len := (s ()).size) (cap := (s ()).size) ho.1 ho.2.1 ho.2.2 (Nat.le_refl _) b1 b2
            simp [Instr.sliceAt, Instr.slice, h1, this]
          · cases h
        · cases h
      · cases h
    · cases h
  · rename_i e _ _ _ _ hr
    obtain ⟨desc, h1, h2⟩ := row_under (w := w) hE hr
    obtain rfl := digest_slice h2
    split at h
    case isFalse => cases h
    rename_i hsome
    obtain ⟨re, hre⟩ := Option.isSome_iff_exists.1 hsome
    have hse := row_size (w := w) hE hre
    split at h
    · have hm := ov_none hmx rfl
      subst hm
      split at h
      · rename_i K xs
        split at h
        · rename_i l hl
          split at h
          · rename_i hh hhh
            split at h
            · rename_i hsz
              simp only [Option.some.injEq, Prod.mk.injEq] at h
              obtain ⟨rfl, rfl⟩ := h
              simp only [allO, nI_eq, and_true] at ho
              have b1 := bnd_ok hl hlo
              have b2 := bnd_ok hhh hhi
              simp only [SN.d_l, SN.d_t] at b1 b2
              simp only [VR] at hx
              have hx' := hx
              simp only [KR] at hx'
              obtain ⟨A, c, h3, h4, _⟩ := hx'
              simp only [List.cons.injEq, and_true] at h3
              subst h3
              refine ⟨_, ?_, by simp only [VR]; exact KR_slice_cut hx (show l.d.toNat ≤ hh.d.toNat by omega) (show hh.d.toNat ≤ _ by omega)⟩
              have := sliceBounds_run (P := P) (w := w) (b := true) ho.1 ho.2.1 ho.2.2 h4 b1 b2
              simp [Instr.sliceAt, Instr.slice, h1, this, szIs_size hE hsz]
            · cases h
          · cases h
        · cases h
      · rename_i id sz off len
        split at h
        · rename_i l hl
          split at h
          · rename_i hh hhh
            split at h
            · rename_i hsz
              simp only [Option.some.injEq, Prod.mk.injEq] at h
              obtain ⟨rfl, rfl⟩ := h
              simp only [allO, nI_eq, and_true] at ho
              have b1 := bnd_ok hl hlo
              have b2 := bnd_ok hhh hhi
              simp only [SN.d_l] at b1
              simp only [VR] at hx
              obtain ⟨rr, h3, h4⟩ := hx
              cases rr with
              | none =>
                obtain ⟨h5, h6, A, rfl⟩ := h4
                have := sliceBounds_run (P := P) (w := w) (b := true) (len := 0) (cap := 0) ho.1 ho.2.1 (by omega) (Nat.le_refl _) b1 (by rw [h6] at b2; exact b2)
                refine ⟨.slice A 0 0, ?_, ?_⟩
                · simp [Instr.sliceAt, Instr.slice, h1, this, szIs_size hE hsz, show l.d.toNat = 0 by omega, show hh.d.toNat = 0 by omega]
                · simp only [VR]
                  exact ⟨none, h3, by simp; omega, by simp; omega, A, rfl⟩
              | some p =>
                obtain ⟨g, c⟩ := p
                obtain ⟨h5, o, rfl, h6⟩ := h4
                have := sliceBounds_run (P := P) (w := w) (b := true) (len := len.d) (cap := c - off.d) ho.1 ho.2.1 ho.2.2 (by omega) b1 b2
                refine ⟨.slice (some ⟨g, if c - off.d = l.d.toNat then o else o + l.d.toNat * sz, none⟩) (hh.d.toNat - l.d.toNat) (c - off.d - l.d.toNat), ?_, ?_⟩
                · simp only [Instr.sliceAt, Instr.slice, h1, this, szIs_size hE hsz, Sem.run_bind, Result.andThen, Sem.run_pure, Option.map_some, add_none]
                  by_cases hc : c - off.d = l.d.toNat <;> simp [hc]
                · simp only [VR, SN.d_add, SN.d_sub, SI.d_toN]
                  refine ⟨some (g, c), h3, by omega, _, by rw [Nat.sub_sub], ?_⟩
                  by_cases hc : c - off.d = l.d.toNat
                  · rw [if_pos hc]
                    exact .inr (by omega)
                  · rw [if_neg hc]
                    rcases h6 with h6 | h6
                    · exact .inl (by rw [h6, Nat.add_mul])
                    · exact .inr (by omega)
            · cases h
          · cases h
        · cases h
      · split at h
        · rename_i l hl
          split at h
          · rename_i hh hhh
            simp only [Option.some.injEq, Prod.mk.injEq] at h
            obtain ⟨rfl, rfl⟩ := h
            simp only [allO, nI_eq, and_true] at ho
            have b1 := bnd_ok hl hlo
            have b2 := bnd_ok hhh hhi
            simp only [SN.d_l] at b1 b2
            simp only [VR] at hx
            subst hx
            have := sliceBounds_run (P := P) (w := w) (b := true) (len := 0) (cap := 0) (l := l.d) (h := hh.d) (by omega) (by omega) (by omega) (Nat.le_refl _) b1 b2
            refine ⟨.slice none 0 0, ?_, by simp only [VR]⟩
            simp [Instr.sliceAt, Instr.slice, h1, this, hse, show hh.d.toNat = 0 by omega]
          · cases h
        · cases h
      · cases h
    · have hm := ov_int hmx rfl
      subst hm
      simp only [SI.d_l]
      split at h
      · have hl := ov_int hlo rfl
        subst hl
        simp only [SI.d_l]
        split at h
        · have hh := ov_int hhi rfl
          subst hh
          simp only [SI.d_l]
          split at h <;> first | (cases h; done) | simp only [Option.some.injEq, Prod.mk.injEq] at h
          all_goals
            obtain ⟨rfl, rfl⟩ := h
            obtain ⟨A, n, c, rfl⟩ := slice_any hx (by first | exact .inl ⟨_, _, rfl⟩ | exact .inr (.inl ⟨_, _, _, _, rfl⟩) | exact .inr (.inr (.inl rfl)) | exact .inr (.inr (.inr rfl)))
            exact ⟨_, slice3_run t e h1 hse A n c _ _ _ (.inr ⟨_, rfl⟩), by simp only [VR]; exact ⟨A, rfl⟩⟩
        · cases h
      · have hl := ov_none hlo rfl
        subst hl
        split at h
        · have hh := ov_int hhi rfl
          subst hh
          simp only [SI.d_l]
          split at h <;> first | (cases h; done) | simp only [Option.some.injEq, Prod.mk.injEq] at h
          all_goals
            obtain ⟨rfl, rfl⟩ := h
            obtain ⟨A, n, c, rfl⟩ := slice_any hx (by first | exact .inl ⟨_, _, rfl⟩ | exact .inr (.inl ⟨_, _, _, _, rfl⟩) | exact .inr (.inr (.inl rfl)) | exact .inr (.inr (.inr rfl)))
            exact ⟨_, slice3_run t e h1 hse A n c _ _ _ (.inl rfl), by simp only [VR]; exact ⟨A, rfl⟩⟩
        · cases h
      · cases h
    · cases h
  · cases h

theorem lenA_ok (hE : EnvRows P E) {t : TypeId} {r : TRow} {x : AV} {n : SN} {v : Value} {ty : TypeId} (hr : E.row t = some r) (h : lenA r.d x = some n) (hx : VR S x v) : (Builtin.len_ #[t] ty #[v]).run P w = .ok (.int .i64 n.d) w := by
  obtain ⟨desc, h1, h2⟩ := row_under (w := w) hE hr
  unfold lenA at h
  split at h
  · rename_i hd
    rw [hd] at h2
    obtain rfl := digest_str h2
    split at h
    · obtain rfl := Option.some.inj h
      simp only [VR] at hx
      subst hx
      simp [Builtin.len_, h1, goInt]
    · cases h
  · rename_i e hd
    rw [hd] at h2
    obtain rfl := digest_slice h2
    have key : ∃ A c, v = .slice A n.d c := by
      split at h <;> first | (cases h; done) | obtain rfl := Option.some.inj h
      · simp only [VR, KR] at hx
        obtain ⟨A, c, h1, _⟩ := hx
        simp only [List.cons.injEq, and_true] at h1
        exact ⟨A, c, h1⟩
      · simp only [VR] at hx
        obtain ⟨r, _, h⟩ := hx
        cases r with
        | none => obtain ⟨_, h2, A, rfl⟩ := h; exact ⟨A, 0, by rw [h2]⟩
        | some p => obtain ⟨_, o, rfl, _⟩ := h; exact ⟨_, _, rfl⟩
      · simp only [VR] at hx; exact ⟨none, 0, hx⟩
      · simp only [VR] at hx; obtain ⟨A, rfl⟩ := hx; exact ⟨A, 0, rfl⟩
    obtain ⟨A, c, rfl⟩ := key
    simp [Builtin.len_, h1, goInt]
  · rename_i m e hd
    rw [hd] at h2
    obtain rfl := digest_arr h2
    obtain rfl := Option.some.inj h
    simp [Builtin.len_, h1, goInt]
  · cases h

theorem minmax_ok {b : Bool} : ∀ {xs : List AV} {x r : AV} {v : Value} {vs : List Value}, minmax b x xs = some r → VR S x v → VRs S xs vs → ∃ u, (vs.foldlM (if b then Builtin.max2 else Builtin.min2) v).run P w = .ok u w ∧ VR S r u
  | [], x, r, v, vs, h, hx, hs => by
    simp only [VRs] at hs
    subst hs
    have : r = x := by cases x <;> simp_all [minmax]
    subst this
    exact ⟨v, by simp, hx⟩
  | y :: ys, x, r, v, vs, h, hx, hs => by
    unfold minmax at h
    split at h
    · rename_i he; cases he
    · rename_i k a k' b' rr he
      cases he
      split at h
      · rename_i hk
        subst hk
        simp only [VRs] at hs
        obtain ⟨u, us, rfl, hu, hus⟩ := hs
        simp only [VR] at hx hu
        subst hx hu
        obtain ⟨z, h1, h2⟩ := minmax_ok h (v := .int k (if b then (if b'.d > a.d then b'.d else a.d) else (if b'.d < a.d then b'.d else a.d))) (by simp only [VR, SI.d_map2]) hus
        refine ⟨z, ?_, h2⟩
        cases b <;> simpa [Builtin.max2, Builtin.min2] using h1
      · cases h
    · cases h

end
end Go.Sx
