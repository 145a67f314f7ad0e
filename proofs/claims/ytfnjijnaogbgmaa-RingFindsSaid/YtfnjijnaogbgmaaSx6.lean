/- A reckoner of Go code over told values: steps that look at no memory are true. -/
import Derived.Test.YtfnjijnaogbgmaaSx5
namespace Go.Sx
open Go Go.RowKit
set_option linter.unusedVariables false
set_option linter.unusedSimpArgs false
section
variable {P : Program} {E : Env} {S : Sg} {w : World}

theorem szIs_size (hE : EnvRows P E) {t : TypeId} {n : Nat} (h : szIs E t n = true) : (sizeOf t).run P w = .ok n w := by
  unfold szIs at h
  split at h
  · rename_i r hr
    rw [row_size hE hr]
    simp only [beq_iff_eq] at h
    rw [h]
  · cases h

theorem indexAddrA_ok (hE : EnvRows P E) {t : TypeId} {x ix r : AV} {v iv : Value} {obs : Obs} (h : indexAddrA E t x ix = some (r, obs)) (ho : allO obs) (hx : VR S x v) (hi : VR S ix iv) :
    ∃ u, (Instr.indexAt t v iv).run P w = .ok u w ∧ VR S r u := by
  unfold indexAddrA at h
  split at h
  · rename_i k i
    simp only [VR] at hi
    subst hi
    split at h
    · rename_i e _ _ _ _ hr
      obtain ⟨desc, h1, h2⟩ := row_under (w := w) hE hr
      obtain rfl := digest_slice h2
      split at h
      · rename_i id sz off len
        split at h
        · rename_i hsz
          simp only [Option.some.injEq, Prod.mk.injEq] at h
          obtain ⟨rfl, rfl⟩ := h
          simp only [allO, inB, nI_eq, and_true] at ho
          simp only [VR] at hx
          obtain ⟨rr, h3, h4⟩ := hx
          cases rr with
          | none => obtain ⟨_, h5, _⟩ := h4; omega
          | some p =>
            obtain ⟨g, c⟩ := p
            obtain ⟨h5, o, rfl, h6⟩ := h4
            have ho' : o = off.d * sz := by rcases h6 with h6 | h6 <;> omega
            refine ⟨.pointer (some ⟨g, o + i.d.toNat * sz, none⟩), ?_, ?_⟩
            · simp [Instr.indexAt, h1, asIntOf, ho, szIs_size hE hsz, add_none]
            · simp only [VR, SN.d_add, SI.d_toN]
              exact ⟨g, c, h3, by rw [ho', Nat.add_mul, Nat.add_zero]⟩
        · cases h
      · rename_i K l
        split at h
        · rename_i hsz
          simp only [Option.some.injEq, Prod.mk.injEq] at h
          obtain ⟨rfl, rfl⟩ := h
          simp only [allO, inB, nI_eq, and_true, SN.d_t] at ho
          simp only [VR, KR] at hx
          obtain ⟨A, c, h3, h4, h5⟩ := hx
          simp only [List.cons.injEq, and_true] at h3
          subst h3
          have hA := h5
          rcases h5 with h5 | ⟨a, cells, T, fz, rfl, h7, h8, h9⟩
          · rw [h5] at ho
            exfalso
            have := ho.2
            simp at this
            omega
          · have ea : a = ⟨a.block, a.off, none⟩ := by cases a; simp only at h7; subst h7; rfl
            refine ⟨.pointer (some ⟨a.block, a.off + i.d.toNat * K.size, none⟩), ?_, ?_⟩
            · rw [ea]
              simp [Instr.indexAt, h1, asIntOf, ho, szIs_size hE hsz, add_none]
            · simp only [VR, SI.d_toN]
              exact ⟨a, hA, h7, by rw [Nat.add_zero]⟩
        · cases h
      · cases h
    · rename_i n e _ _ _ _ hr
      obtain ⟨desc, h1, h2⟩ := row_under (w := w) hE hr
      obtain rfl := digest_arr h2
      split at h
      · split at h
        · rename_i id o _ j
          split at h
          · rename_i hj
            simp only [decide_eq_true_eq] at hj
            split at h
            · rename_i re hre
              simp only [Option.some.injEq, Prod.mk.injEq] at h
              obtain ⟨rfl, rfl⟩ := h
              simp only [VR] at hx
              obtain ⟨g, c, h3, rfl⟩ := hx
              refine ⟨.pointer (some ⟨g, o + j.toNat * re.size, none⟩), ?_, by simp only [VR]; exact ⟨g, c, h3, rfl⟩⟩
              simp [Instr.indexAt, h1, asIntOf, Instr.sureAddr, hj, row_size hE hre, add_none]
            · cases h
          · cases h
        · cases h
      · cases h
    · cases h
  · cases h

theorem byteAt_get {s : ByteArray} {i : Int} (h0 : 0 ≤ i) (h1 : i < s.size) : ∃ h : i.toNat < s.size, (s[i.toNat].toNat : Int) = byteAt s i := by
  have h : i.toNat < s.size := by omega
  refine ⟨h, ?_⟩
  have h' : i.toNat < s.data.size := h
  simp only [byteAt, Array.getD, h', dif_pos]
  rfl

theorem indexA_ok (hE : EnvRows P E) {t : TypeId} {x ix r : AV} {v iv : Value} {obs : Obs} (h : indexA E t x ix = some (r, obs)) (ho : allO obs) (hx : VR S x v) (hi : VR S ix iv) :
    ∃ u, (Instr.index t v iv).run P w = .ok u w ∧ VR S r u := by
  unfold indexA at h
  split at h
  · rename_i k i
    simp only [VR] at hi
    subst hi
    split at h
    · rename_i _ _ _ _ hr
      obtain ⟨desc, h1, h2⟩ := row_under (w := w) hE hr
      obtain rfl := digest_str h2
      split at h
      · rename_i s
        simp only [Option.some.injEq, Prod.mk.injEq] at h
        obtain ⟨rfl, rfl⟩ := h
        simp only [allO, inB, nI_eq, and_true, SN.d_t] at ho
        simp only [VR] at hx
        subst hx
        obtain ⟨b, h3⟩ := byteAt_get ho.1 ho.2
        exact ⟨.int .u8 ((s ())[i.d.toNat].toNat), by simp [Instr.index, h1, asIntOf, ho, b], by simp only [VR, SI.d_t, h3]⟩
      · cases h
    · rename_i n e _ _ _ _ hr
      obtain ⟨desc, h1, h2⟩ := row_under (w := w) hE hr
      obtain rfl := digest_arr h2
      split at h
      · rename_i cs
        split at h
        · rename_i j
          split at h
          · rename_i hj
            simp only [decide_eq_true_eq] at hj
            split at h
            · rename_i re hre
              split at h
              · rename_i v' hv'
                simp only [Option.some.injEq, Prod.mk.injEq] at h
                obtain ⟨rfl, rfl⟩ := h
                simp only [VR] at hx
                obtain ⟨vs, rfl, hx⟩ := hx
                obtain ⟨u, h3, h4⟩ := partA_ok (w := w) hE hv' hx
                exact ⟨u, by simp [Instr.index, h1, asIntOf, hj, row_size hE hre, h3], h4⟩
              · cases h
            · cases h
          · cases h
        · cases h
      · cases h
    · cases h
  · cases h


theorem bnd_ok {x : Option AV} {xv : Option Value} {d : SN} {i : SI} (h : bnd x d = some i) (hx : (x = none ∧ xv = none) ∨ ∃ y v, x = some y ∧ xv = some v ∧ VR S y v) :
    (xv = none ∧ i.d = (d.d : Int)) ∨ (∃ k, xv = some (.int k i.d)) := by
  rcases hx with ⟨rfl, rfl⟩ | ⟨y, v, rfl, rfl, hv⟩
  · simp only [bnd, Option.some.injEq] at h
    subst h
    exact .inl ⟨rfl, by simp⟩
  · unfold bnd at h
    split at h
    · rename_i he; cases he
    · rename_i k j he
      cases he
      obtain rfl := Option.some.inj h
      simp only [VR] at hv
      exact .inr ⟨k, by rw [hv]⟩
    · cases h

theorem sliceBounds_run {b : Bool} {len cap : Nat} {lo hi : Option Value} {l h : Int} (h0 : 0 ≤ l) (h1 : l ≤ h) (h2 : h ≤ (len : Int)) (hc : len ≤ cap)
    (hlo : (lo = none ∧ l = 0) ∨ ∃ k, lo = some (.int k l)) (hhi : (hi = none ∧ h = len) ∨ ∃ k, hi = some (.int k h)) :
    (Instr.sliceBounds b len cap lo hi none).run P w = .ok (l.toNat, h.toNat, cap) w := by
  have e1 : (l.toNat : Int) = l := by omega
  have e2 : (h.toNat : Int) = h := by omega
  rcases hlo with ⟨rfl, rfl⟩ | ⟨k, rfl⟩ <;> rcases hhi with ⟨rfl, rfl⟩ | ⟨k', rfl⟩
  · simp [Instr.sliceBounds]
  · simp [Instr.sliceBounds, Instr.sliceBound, asIntOf, show 0 ≤ h by omega, show h ≤ (cap : Int) by omega]
  · simp [Instr.sliceBounds, Instr.sliceBound, asIntOf, h0, show l ≤ (len : Int) by omega]
  · simp [Instr.sliceBounds, Instr.sliceBound, asIntOf, h0, h1, show 0 ≤ h by omega, show h ≤ (cap : Int) by omega, e2]

theorem KR_slice_cut {F : Frozen} {K : Kd} {xs : List K.T} {A : Option Addr} {c l h : Nat} (hx : KR F (.slice K) xs [.slice A xs.length c]) (h1 : l ≤ h) (h2 : h ≤ xs.length) :
    KR F (.slice K) ((xs.take h).drop l) [.slice (if c = l then A else A.map (·.add (l * K.size))) (h - l) (c - l)] := by
  simp only [KR] at hx ⊢
  obtain ⟨A', c', h3, h4, h5⟩ := hx
  simp only [List.cons.injEq, Value.slice.injEq, and_true, true_and] at h3
  obtain ⟨rfl, rfl⟩ := h3
  have hlen : ((xs.take h).drop l).length = h - l := by simp; omega
  refine ⟨_, _, by rw [hlen], by rw [hlen]; omega, ?_⟩
  by_cases he : (xs.take h).drop l = []
  · exact .inl he
  · have hpos : 0 < h - l := by rw [← hlen]; exact List.length_pos_iff.2 he
    rcases h5 with h5 | ⟨a, cells, T, fz, rfl, h7, h8, h9⟩
    · subst h5; simp at he
    · have ea : a = ⟨a.block, a.off, none⟩ := by cases a; simp only at h7; subst h7; rfl
      refine .inr ⟨⟨a.block, a.off + l * K.size, none⟩, cells, T, fz, ?_, rfl, h8, ?_⟩
      · rw [if_neg (by omega), ea]
        simp [add_none]
      · intro i x hi
        have hi' : xs[l + i]? = some x := by
          rw [List.getElem?_drop, List.getElem?_take] at hi
          split at hi
          · exact hi
          · cases hi
        obtain ⟨vs, h10, h11⟩ := h9 _ _ hi'
        refine ⟨vs, h10, fun j v hj => ?_⟩
        have := h11 j v hj
        rw [← this]
        congr 1
        simp only [Nat.add_mul]
        omega

end
end Go.Sx
