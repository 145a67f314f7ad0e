/- A reckoner of Go code over told values: structs compared. -/
import Derived.Test.YtfnjijnaogbgmaaSx24
import Derived.Laws.StructEq
import Derived.MapKept
namespace Go.Sx
open Go Go.RowKit
set_option linter.unusedVariables false
set_option linter.unusedSimpArgs false

section
variable {P : Program} {w : World} {F : Frozen}
theorem KV.one {k : Kd} {x : k.T} {vs : List Value} (hk : ∀ fs, k ≠ .struct fs) (h : KR F k x vs) : ∃ v, vs = [v] ∧ KV F k x v := by
  cases k with
  | struct fs => exact absurd rfl (hk fs)
  | int k => simp only [KR] at h; exact ⟨_, h, by simp only [KV, KR]⟩
  | bool => simp only [KR] at h; exact ⟨_, h, by simp only [KV, KR]⟩
  | str => simp only [KR] at h; exact ⟨_, h, by simp only [KV, KR]⟩
  | slice e =>
    have h' := h
    simp only [KR] at h
    obtain ⟨A, c, h1, h2⟩ := h
    exact ⟨_, h1, by simp only [KV]; rw [← h1]; exact h'⟩
theorem part_ok {t : TypeId} {k : Kd} {x : k.T} {vs : Array Value} {off : Nat} {v1 rest : List Value} (hs : (P.info? t).map (·.size) = some k.size) (he : EqOk P t k) (hv : vs.toList.drop off = v1 ++ rest) (hk : KR F k x v1) :
    ∃ v, (part t vs off).run P w = .ok v w ∧ KV F k x v := by
  have hl := KR.len _ _ _ hk
  obtain ⟨i, hi, hsz⟩ := Option.map_eq_some_iff.1 hs
  have hsize : (sizeOf t).run P w = .ok k.size w := by simp [sizeOf, typeInfo, hi, hsz]
  have flat : ∀ (d : TypeDesc), P.underlying t = some d → (∀ fs, d ≠ .struct fs) → (∀ n e, d ≠ .array n e) → (∀ fs, k ≠ .struct fs) → ∃ v, (part t vs off).run P w = .ok v w ∧ KV F k x v := by
    intro d hd h1 h2 hn
    obtain ⟨v, rfl, hkv⟩ := KV.one hn hk
    have hg : vs[off]? = some v := by
      have : (vs.toList.drop off)[0]? = some v := by rw [hv]; rfl
      rw [List.getElem?_drop] at this
      simpa using this
    refine ⟨v, ?_, hkv⟩
    have ha : (isAgg t).run P w = .ok false w := by
      simp only [isAgg, Sem.run_bind, run_underlying hd, Result.andThen]
      cases d <;> first | rfl | exact absurd rfl (h1 _) | exact absurd rfl (h2 _ _)
    simp [part, ha, hg]
  cases k with
  | int k => simp only [EqOk] at he; exact flat _ he (by simp) (by simp) (by simp)
  | bool => simp only [EqOk] at he; exact flat _ he (by simp) (by simp) (by simp)
  | str => simp only [EqOk] at he; exact flat _ he (by simp) (by simp) (by simp)
  | slice e => simp only [EqOk] at he
  | struct fs =>
    simp only [EqOk] at he
    obtain ⟨fds, h1, _⟩ := he
    have ha : (isAgg t).run P w = .ok true w := by simp only [isAgg, Sem.run_bind, run_underlying h1, Result.andThen]; rfl
    refine ⟨.agg (vs.extract off (off + Kd.size (.struct fs))), by simp [part, ha, hsize], ?_⟩
    simp only [KV]
    refine ⟨_, rfl, ?_⟩
    have e : (vs.extract off (off + Kd.size (.struct fs))).toList = v1 := by
      rw [Array.toList_extract, List.extract_eq_take_drop, hv, Nat.add_sub_cancel_left]
      rw [← hl]
      simp
    rw [e]
    simpa only [KR] using hk
mutual
theorem equal_ok : (K : Kd) → (t : TypeId) → (d : Nat) → EqOk P t K → K.deep ≤ d → (x y : K.T) → (v u : Value) → KV F K x v → KV F K y u → (Op.equalIn d t v u).run P w = .ok (eqK K x y) w
  | .int k, t, d, he, hd, x, y, v, u, hv, hu => by
    simp only [EqOk] at he
    simp only [Kd.deep] at hd
    simp only [KV, KR, List.cons.injEq, and_true] at hv hu
    subst hv hu
    obtain ⟨d, rfl⟩ : ∃ e, d = e + 1 := ⟨d - 1, by omega⟩
    rw [run_equalIn_int w d t k k x y he]
    rfl
  | .bool, t, d, he, hd, x, y, v, u, hv, hu => by
    simp only [EqOk] at he
    simp only [Kd.deep] at hd
    simp only [KV, KR, List.cons.injEq, and_true] at hv hu
    subst hv hu
    obtain ⟨d, rfl⟩ : ∃ e, d = e + 1 := ⟨d - 1, by omega⟩
    rw [run_equalIn_bool w d t x y he]
    rfl
  | .str, t, d, he, hd, x, y, v, u, hv, hu => by
    simp only [EqOk] at he
    simp only [Kd.deep] at hd
    simp only [KV, KR, List.cons.injEq, and_true] at hv hu
    subst hv hu
    obtain ⟨d, rfl⟩ : ∃ e, d = e + 1 := ⟨d - 1, by omega⟩
    rw [run_equalIn_string w d t x y he]
    rfl
  | .slice e, t, d, he, hd, x, y, v, u, hv, hu => by simp only [EqOk] at he
  | .struct fs, t, d, he, hd, x, y, v, u, hv, hu => by
    simp only [EqOk] at he
    obtain ⟨fds, h1, h2, h3, h4⟩ := he
    simp only [Kd.deep] at hd
    simp only [KV] at hv hu
    obtain ⟨cs, rfl, hc⟩ := hv
    obtain ⟨ds, rfl, hd'⟩ := hu
    obtain ⟨d, rfl⟩ : ∃ e, d = e + 1 := ⟨d - 1, by omega⟩
    have hf : P.fieldsOf t = fds := by simp only [Program.fieldsOf, h1]
    rw [run_equalIn_struct w d t cs ds (by rw [hf]; exact h1) h2, hf]
    simp only [eqK]
    exact equals_ok fs fds.toList 0 d h4 (by omega) x y cs ds (by simpa using hc) (by simpa using hd')
theorem equals_ok : (Ks : List Kd) → (fds : List Field) → (off d : Nat) → EqFs P fds off Ks → Kds.deep Ks ≤ d → (x y : Kds.T Ks) → (cs ds : Array Value) → KRs F Ks x (cs.toList.drop off) → KRs F Ks y (ds.toList.drop off) →
    (Op.eqFields d cs ds fds).run P w = .ok (eqKs Ks x y) w
  | [], fds, off, d, he, hd, x, y, cs, ds, hc, hd' => by
    simp only [EqFs] at he
    subst he
    simp only [Op.eqFields, Sem.run_pure, eqKs]
  | k :: ks, fds, off, d, he, hd, x, y, cs, ds, hc, hd' => by
    simp only [EqFs] at he
    obtain ⟨f, fs, rfl, rfl, hn, hs, h1, h2⟩ := he
    simp only [Kds.deep] at hd
    simp only [KRs] at hc hd'
    obtain ⟨v1, v2, e1, k1, k2⟩ := hc
    obtain ⟨u1, u2, e2, k3, k4⟩ := hd'
    obtain ⟨a, p1, q1⟩ := part_ok (w := w) hs h1 e1 k1
    obtain ⟨b, p2, q2⟩ := part_ok (w := w) hs h1 e2 k3
    have hq := equal_ok k f.type d h1 (by omega) x.1 y.1 a b q1 q2
    have l1 := KR.len _ _ _ k1
    have l2 := KR.len _ _ _ k3
    have hr := equals_ok ks fs (f.offset + k.size) d h2 (by omega) x.2 y.2 cs ds (by rw [← List.drop_drop, e1, ← l1]; simpa using k2) (by rw [← List.drop_drop, e2, ← l2]; simpa using k4)
    simp only [Op.eqFields, hn, ne_eq, not_false_eq_true, if_true, Sem.run_bind, p1, p2, hq, Result.andThen_ok, eqKs]
    cases eqK k x.1 y.1
    · simp
    · simpa using hr
end
end

mutual
theorem eqK_iff : (K : Kd) → K.flat = true → (x y : K.T) → (eqK K x y = true ↔ x = y)
  | .int k, h, x, y => by simp [eqK, eqI]
  | .bool, h, x, y => by simp [eqK, eqBo]
  | .str, h, x, y => by
    simp only [eqK, eqS, beq_iff_eq]
    refine ⟨fun h => ?_, fun h => by rw [h]⟩
    have : x = y := by
      apply ByteArray.ext
      rw [ByteArray.toList_eq, ByteArray.toList_eq] at h
      exact Array.ext' h
    exact this
  | .slice e, h, x, y => by simp [Kd.flat] at h
  | .struct fs, h, x, y => by simp only [eqK]; exact eqKs_iff fs (by simpa only [Kd.flat] using h) x y
theorem eqKs_iff : (Ks : List Kd) → Kds.flat Ks = true → (x y : Kds.T Ks) → (eqKs Ks x y = true ↔ x = y)
  | [], h, x, y => by simp only [eqKs]
  | k :: ks, h, x, y => by
    simp only [Kds.flat, Bool.and_eq_true] at h
    simp only [eqKs, Bool.and_eq_true]
    rw [eqK_iff k h.1, eqKs_iff ks h.2]
    exact ⟨fun e => Prod.ext e.1 e.2, fun e => by rw [e]; exact ⟨rfl, rfl⟩⟩
end
end Go.Sx
