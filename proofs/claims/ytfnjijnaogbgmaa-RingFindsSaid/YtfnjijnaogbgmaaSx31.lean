/- A reckoner of Go code over told values: structs compared, maps, cleared rows. -/
import Derived.Test.YtfnjijnaogbgmaaSx30
namespace Go.Sx
open Go Go.RowKit
set_option linter.unusedVariables false
set_option linter.unusedSimpArgs false
section
variable {P : Program} {E : Env} {S : Sg} {w W : World} {h : List Blk}

theorem decS_ok {fs : List Kd} {x : AV} {a : Unit → Kds.T fs} {v : Value} (h : decS fs x = some a) (hv : VR S x v) : KV S.F (.struct fs) (a ()) v := by
  unfold decS at h
  split at h
  · rename_i cs
    split at h
    · rename_i y hy
      cases h
      simp only [VR] at hv
      obtain ⟨vs, rfl, h2⟩ := hv
      simp only [KV]
      refine ⟨vs, rfl, ?_⟩
      obtain ⟨v1, v2, h3, h4, h5⟩ := Kds.dec_ok fs _ _ _ _ hy h2
      simp only [VRs] at h5
      subst h5
      rw [h3, List.append_nil]
      exact h4
    · cases h
  · cases h
theorem decArg_ok {K : Kd} {x : AV} {a : Unit → K.T} {v : Value} (h : decArg K x = some a) (hv : VR S x v) : KV S.F K (a ()) v := by
  cases K with
  | struct fs => exact decS_ok (x := x) (by unfold decArg at h; exact h) hv
  | int k =>
    simp only [decArg] at h
    split at h
    · rename_i z hz
      obtain rfl := Option.some.inj h
      exact Kd.dec_all (S := S) hz ⟨v, [], rfl, hv, by simp only [VRs]⟩
    · cases h
  | bool =>
    simp only [decArg] at h
    split at h
    · rename_i z hz
      obtain rfl := Option.some.inj h
      exact Kd.dec_all (S := S) hz ⟨v, [], rfl, hv, by simp only [VRs]⟩
    · cases h
  | str =>
    simp only [decArg] at h
    split at h
    · rename_i z hz
      obtain rfl := Option.some.inj h
      exact Kd.dec_all (S := S) hz ⟨v, [], rfl, hv, by simp only [VRs]⟩
    · cases h
  | slice e =>
    simp only [decArg] at h
    split at h
    · rename_i z hz
      obtain rfl := Option.some.inj h
      exact Kd.dec_all (S := S) hz ⟨v, [], rfl, hv, by simp only [VRs]⟩
    · cases h
theorem encArg_kv {K : Kd} {y : Unit → K.T} {v : Value} (h : KV S.F K (y ()) v) : VR S (encArg K y) v := by
  cases K with
  | struct fs =>
    simp only [KV] at h
    obtain ⟨cs, rfl, h⟩ := h
    simp only [encArg, VR]
    exact ⟨cs, rfl, KRs.enc fs y _ h⟩
  | int k => simp only [KV, KR, List.cons.injEq, and_true] at h; simp only [encArg, VR, SI.d_t]; exact h
  | bool => simp only [KV, KR, List.cons.injEq, and_true] at h; simp only [encArg, VR, SB.d_t]; exact h
  | str => simp only [KV, KR, List.cons.injEq, and_true] at h; simp only [encArg, VR]; exact h
  | slice e => simp only [encArg, VR]; exact h
/-- The zero value of a type that is of a kind. -/
theorem zero_kv (hE : EnvRows P E) {t : TypeId} {r : TRow} {K : Kd} (hr : E.row t = some r) (hK : r.kd = some K) (hz : zAgg r.z K = true) : ∃ z, (zeroValue t).run P w = .ok z w ∧ KV S.F K K.z z := by
  refine ⟨r.z, row_zero hE hr, ?_⟩
  obtain ⟨_, h2⟩ := (hE.rows t r hr).kd K hK
  obtain ⟨v, h3, h4⟩ := zOk_ok S.F K _ _ h2
  rw [List.append_nil] at h3
  cases K with
  | struct fs =>
    simp only [KV]
    cases hzz : r.z <;> rw [hzz] at hz <;> simp [zAgg] at hz
    rename_i cs
    rw [hzz] at h3
    simp only [Value.cells] at h3
    rw [← h3] at h4
    exact ⟨cs, rfl, by simpa only [KR] using h4⟩
  | int k => cases hzz : r.z <;> rw [hzz] at hz h3 <;> first | (simp [zAgg] at hz; done) | (simp only [Value.cells] at h3; simp only [KV]; rw [← h3] at h4; exact h4)
  | bool => cases hzz : r.z <;> rw [hzz] at hz h3 <;> first | (simp [zAgg] at hz; done) | (simp only [Value.cells] at h3; simp only [KV]; rw [← h3] at h4; exact h4)
  | str => cases hzz : r.z <;> rw [hzz] at hz h3 <;> first | (simp [zAgg] at hz; done) | (simp only [Value.cells] at h3; simp only [KV]; rw [← h3] at h4; exact h4)
  | slice e => cases hzz : r.z <;> rw [hzz] at hz h3 <;> first | (simp [zAgg] at hz; done) | (simp only [Value.cells] at h3; simp only [KV]; rw [← h3] at h4; exact h4)

theorem forIn_unit {α : Type} (f : α → Sem Unit) : ∀ (l : List α) (w : World), (∀ x ∈ l, (f x).run P w = .ok () w) → (forIn l PUnit.unit (fun x _ => do f x; pure (ForInStep.yield PUnit.unit)) : Sem PUnit).run P w = .ok PUnit.unit w
  | [], w, h => by simp
  | x :: l, w, h => by
    simp only [List.forIn_cons, Sem.run_bind, h x List.mem_cons_self, Result.andThen, Sem.run_pure]
    exact forIn_unit f l w fun y hy => h y (List.mem_cons_of_mem _ hy)
mutual
theorem checkKey_ok {F : Frozen} (em : Bool) : (K : Kd) → (t : TypeId) → (d : Nat) → EqOk P t K → K.deep ≤ d → (x : K.T) → (v : Value) → KV F K x v → (Instr.checkKey em d t v).run P w = .ok () w
  | .int k, t, d, he, hd, x, v, hv => by
    simp only [EqOk] at he
    simp only [Kd.deep] at hd
    simp only [KV, KR, List.cons.injEq, and_true] at hv
    subst hv
    obtain ⟨d, rfl⟩ : ∃ e, d = e + 1 := ⟨d - 1, by omega⟩
    simp [Instr.checkKey, run_underlying he, Result.andThen]
  | .bool, t, d, he, hd, x, v, hv => by
    simp only [EqOk] at he
    simp only [Kd.deep] at hd
    simp only [KV, KR, List.cons.injEq, and_true] at hv
    subst hv
    obtain ⟨d, rfl⟩ : ∃ e, d = e + 1 := ⟨d - 1, by omega⟩
    simp [Instr.checkKey, run_underlying he, Result.andThen]
  | .str, t, d, he, hd, x, v, hv => by
    simp only [EqOk] at he
    simp only [Kd.deep] at hd
    simp only [KV, KR, List.cons.injEq, and_true] at hv
    subst hv
    obtain ⟨d, rfl⟩ : ∃ e, d = e + 1 := ⟨d - 1, by omega⟩
    simp [Instr.checkKey, run_underlying he, Result.andThen]
  | .slice e, t, d, he, hd, x, v, hv => by simp only [EqOk] at he
  | .struct fs, t, d, he, hd, x, v, hv => by
    simp only [EqOk] at he
    obtain ⟨fds, h1, h2, h3, h4⟩ := he
    simp only [Kd.deep] at hd
    simp only [KV] at hv
    obtain ⟨cs, rfl, hc⟩ := hv
    obtain ⟨d, rfl⟩ : ∃ e, d = e + 1 := ⟨d - 1, by omega⟩
    have key := checkKeys_ok em fs fds.toList 0 d h4 (by omega) x cs (by simpa using hc)
    simp only [Instr.checkKey, Sem.run_bind, run_underlying h1, Result.andThen]
    rw [← Array.forIn_toList]
    generalize fds.toList = l at key
    clear h4 h1
    induction l with
    | nil => simp
    | cons f l ih =>
      obtain ⟨hn, v, p1, p2⟩ := key f List.mem_cons_self
      simp only [List.forIn_cons, hn, ne_eq, not_false_eq_true, if_true, Sem.run_bind, p1, p2, Result.andThen, Sem.run_pure]
      exact ih fun g hg => key g (List.mem_cons_of_mem _ hg)
theorem checkKeys_ok {F : Frozen} (em : Bool) : (Ks : List Kd) → (fds : List Field) → (off d : Nat) → EqFs P fds off Ks → Kds.deep Ks ≤ d → (x : Kds.T Ks) → (cs : Array Value) → KRs F Ks x (cs.toList.drop off) →
    ∀ f ∈ fds, f.name ≠ "_" ∧ ∃ v, (part f.type cs f.offset).run P w = .ok v w ∧ (Instr.checkKey em d f.type v).run P w = .ok () w
  | [], fds, off, d, he, hd, x, cs, hc => by
    simp only [EqFs] at he
    subst he
    intro f hf; cases hf
  | k :: ks, fds, off, d, he, hd, x, cs, hc => by
    simp only [EqFs] at he
    obtain ⟨f, fs, rfl, rfl, hn, hs, h1, h2⟩ := he
    simp only [Kds.deep] at hd
    simp only [KRs] at hc
    obtain ⟨v1, v2, e1, k1, k2⟩ := hc
    obtain ⟨a, p1, q1⟩ := part_ok (w := w) hs h1 e1 k1
    have l1 := KR.len _ _ _ k1
    intro g hg
    rcases List.mem_cons.1 hg with rfl | hg
    · exact ⟨hn, a, p1, checkKey_ok em k _ d h1 (by omega) x.1 a q1⟩
    · exact checkKeys_ok em ks fs (f.offset + k.size) d h2 (by omega) x.2 cs (by rw [← List.drop_drop, e1, ← l1]; simpa using k2) g hg
end

/-- What is found. -/
def foundAt {K V : Kd} (F : Frozen) (l : List (K.T × V.T)) (k : K.T) (i : Nat) (r : Option (Nat × Value)) : Prop :=
  match r with
  | none => hasD (eqK K) l k = false
  | some (j, v) => hasD (eqK K) l k = true ∧ j = i + idxD (eqK K) l k ∧ KV F V (lookD (eqK K) V.z l k) v
theorem sameNow_ok {F : Frozen} {K : Kd} {t : TypeId} {d : TypeDesc} (hd : P.underlying t = some d) (he : EqOk P t K) {x y : K.T} {v u : Value} (hv : KV F K x v) (hu : KV F K y u) {b : Bool} (h : Instr.sameNow d v u = some b) : b = eqK K x y := by
  cases K with
  | int k =>
    simp only [EqOk] at he
    rw [he] at hd
    cases hd
    simp only [KV, KR, List.cons.injEq, and_true] at hv hu
    subst hv hu
    simp [Instr.sameNow] at h
    rw [← h]; rfl
  | bool =>
    simp only [EqOk] at he
    rw [he] at hd
    cases hd
    simp only [KV, KR, List.cons.injEq, and_true] at hv hu
    subst hv hu
    simp [Instr.sameNow] at h
    rw [← h]; rfl
  | str =>
    simp only [EqOk] at he
    rw [he] at hd
    cases hd
    simp only [KV, KR, List.cons.injEq, and_true] at hv hu
    subst hv hu
    simp [Instr.sameNow] at h
    rw [← h]
    simp only [eqK, eqS]
    exact beq_toListBytes _ _
  | slice e => simp only [EqOk] at he
  | struct fs =>
    simp only [EqOk] at he
    obtain ⟨fds, h1, _⟩ := he
    rw [h1] at hd
    cases hd
    simp only [KV] at hv
    obtain ⟨cs, rfl, _⟩ := hv
    simp [Instr.sameNow] at h
def EntR (F : Frozen) (K V : Kd) : List MapEntry → List (K.T × V.T) → Prop
  | [], [] => True
  | e :: es, kv :: l => KV F K kv.1 e.key ∧ KV F V kv.2 e.val ∧ EntR F K V es l
  | _, _ => False
theorem EntR.of {F : Frozen} {K V : Kd} : ∀ (es : List MapEntry) (l : List (K.T × V.T)), es.length = l.length → (∀ (i : Nat) (e : MapEntry) (kv : K.T × V.T), es[i]? = some e → l[i]? = some kv → KV F K kv.1 e.key ∧ KV F V kv.2 e.val) → EntR F K V es l
  | [], [], _, _ => trivial
  | [], kv :: l, h, _ => by simp at h
  | e :: es, [], h, _ => by simp at h
  | e :: es, kv :: l, h, hk => by
    obtain ⟨h1, h2⟩ := hk 0 e kv rfl rfl
    exact ⟨h1, h2, EntR.of es l (by simpa using h) fun i e' kv' h3 h4 => hk (i + 1) e' kv' (by simpa using h3) (by simpa using h4)⟩
theorem findNow_ok {F : Frozen} {K V : Kd} {t : TypeId} {d : TypeDesc} (hd : P.underlying t = some d) (he : EqOk P t K) {k : K.T} {v : Value} (hv : KV F K k v) : ∀ (es : List MapEntry) (l : List (K.T × V.T)) (i : Nat) (r : Option (Nat × Value)), EntR F K V es l → Instr.findNow d v es i = some r → foundAt F l k i r
  | [], [], i, r, hr, h => by simp only [Instr.findNow, Option.some.injEq] at h; subst h; rfl
  | [], kv :: l, i, r, hr, h => by simp [EntR] at hr
  | e :: es, [], i, r, hr, h => by simp [EntR] at hr
  | e :: es, kv :: l, i, r, hr, h => by
    obtain ⟨h1, h2, h3⟩ := hr
    simp only [Instr.findNow] at h
    split at h
    · rename_i hs
      cases h
      have := sameNow_ok hd he hv h1 hs
      simp only [foundAt, hasD, idxD, lookD, ← this, if_true, Nat.add_zero, true_and]
      exact h2
    · rename_i hs
      have hb := sameNow_ok hd he hv h1 hs
      have ih := findNow_ok hd he hv es l (i + 1) r h3 h
      cases r with
      | none => simpa only [foundAt, hasD, ← hb, Bool.false_eq_true, if_false] using ih
      | some p =>
        obtain ⟨j, u⟩ := p
        simp only [foundAt, hasD, idxD, lookD, ← hb, Bool.false_eq_true, if_false] at ih ⊢
        exact ⟨ih.1, by omega, ih.2.2⟩
    · cases h
theorem findAsking_ok {F : Frozen} {K V : Kd} {t : TypeId} (he : EqOk P t K) (hdp : K.deep ≤ 100) {k : K.T} {v : Value} (hv : KV F K k v) : ∀ (es : List MapEntry) (l : List (K.T × V.T)) (i : Nat), EntR F K V es l → ∃ r, (Instr.findAsking t v es i).run P w = .ok r w ∧ foundAt F l k i r
  | [], [], i, hr => ⟨none, by simp [Instr.findAsking], rfl⟩
  | [], kv :: l, i, hr => by simp [EntR] at hr
  | e :: es, [], i, hr => by simp [EntR] at hr
  | e :: es, kv :: l, i, hr => by
    obtain ⟨h1, h2, h3⟩ := hr
    have heq := equal_ok (P := P) (w := w) K t 10000 he (by omega) k kv.1 v e.key hv h1
    simp only [Instr.findAsking, Sem.run_bind]
    have heq' : (Op.equal t v e.key).run P w = .ok (eqK K k kv.1) w := heq
    rw [heq']
    simp only [Result.andThen]
    cases hb : eqK K k kv.1 with
    | true =>
      refine ⟨some (i, e.val), by simp, ?_⟩
      simp only [foundAt, hasD, idxD, lookD, hb, if_true, Nat.add_zero, true_and]
      exact h2
    | false =>
      obtain ⟨r, h4, h5⟩ := findAsking_ok he hdp hv es l (i + 1) h3
      refine ⟨r, by simpa using h4, ?_⟩
      cases r with
      | none => simpa only [foundAt, hasD, hb, Bool.false_eq_true, if_false] using h5
      | some p =>
        obtain ⟨j, u⟩ := p
        simp only [foundAt, hasD, idxD, lookD, hb, Bool.false_eq_true, if_false] at h5 ⊢
        exact ⟨h5.1, by omega, h5.2.2⟩
theorem findKey_ok {F : Frozen} {K V : Kd} {t : TypeId} (he : EqOk P t K) (hdp : K.deep ≤ 100) {k : K.T} {v : Value} (hv : KV F K k v) {es : Array MapEntry} {l : List (K.T × V.T)} (hm : MapR F K V es l) : ∃ r, (Instr.findKey t v es.toList).run P w = .ok r w ∧ foundAt F l k 0 r := by
  have hent : EntR F K V es.toList l := EntR.of _ _ (by simpa using hm.1) fun i e kv h1 h2 => (hm.2 i e kv (by simpa using h1) h2).2
  obtain ⟨d, hd⟩ : ∃ d, P.underlying t = some d := by
    cases K <;> simp only [EqOk] at he
    · exact ⟨_, he⟩
    · exact ⟨_, he⟩
    · exact ⟨_, he⟩
    · obtain ⟨fds, h1, _⟩ := he; exact ⟨_, h1⟩
  simp only [Instr.findKey, Sem.run_bind, run_underlying hd, Result.andThen]
  cases hn : Instr.findNow d v es.toList 0 with
  | some r => exact ⟨r, by simp, findNow_ok hd he hv _ _ 0 r hent hn⟩
  | none => exact findAsking_ok he hdp hv _ _ 0 hent

theorem digest_map {d : TypeDesc} {k v : TypeId} (h : digest d = .map k v) : d = .map k v := by cases d <;> simp [digest] at h; rw [h.1, h.2]
theorem mapKd_ok (hE : EnvOk P E) {t : TypeId} {K V : Kd} (h : mapKd E t = some (K, V)) : ∃ k v rv, P.underlying t = some (.map k v) ∧ EqOk P k K ∧ K.deep ≤ 100 ∧ K.flat = true ∧ E.row v = some rv ∧ rv.kd = some V ∧ zAgg rv.z V = true := by
  unfold mapKd at h
  split at h
  · rename_i k v _ _ _ _ ht
    split at h
    · rename_i K' hk
      split at h
      · rename_i V' z _ _ _ hv
        split at h
        · rename_i hz
          simp only [Option.some.injEq, Prod.mk.injEq] at h
          obtain ⟨rfl, rfl⟩ := h
          obtain ⟨d, h1, h2⟩ := (hE.rows.rows _ _ ht).d
          obtain rfl := digest_map h2
          obtain ⟨h3, h4, h5⟩ := hE.eqk _ _ hk
          exact ⟨k, v, _, h1, h3, h4, h5, hv, rfl, hz⟩
        · cases h
      · cases h
    · cases h
  · cases h
theorem mapB_ok {b : Blk} {t : TypeId} {K V : Kd} {l : Unit → List (K.T × V.T)} (h : mapB b t = some ⟨K, V, l⟩) : b = .map t K V l := by
  unfold mapB at h
  split at h
  · split at h
    · rename_i T K' V' l' hT
      subst hT
      cases h
      rfl
    · cases h
  · cases h
theorem hasD_put {α β : Type} (eq : α → α → Bool) : ∀ (l : List (α × β)) (k : α) (v : β), putD eq l k v = if hasD eq l k = true then l.set (idxD eq l k) (k, v) else l ++ [(k, v)]
  | [], k, v => rfl
  | kv :: l, k, v => by
    simp only [putD, hasD, idxD]
    by_cases h : eq k kv.1 = true
    · simp [h]
    · simp only [h, if_false, Bool.false_eq_true]
      rw [hasD_put eq l k v]
      by_cases h2 : hasD eq l k = true
      · simp [h2]
      · simp [h2]
theorem idxD_lt {α β : Type} (eq : α → α → Bool) : ∀ (l : List (α × β)) (k : α), hasD eq l k = true → idxD eq l k < l.length ∧ ∃ kv, l[idxD eq l k]? = some kv ∧ eq k kv.1 = true
  | [], k, h => by simp [hasD] at h
  | kv :: l, k, h => by
    simp only [hasD, idxD] at h ⊢
    cases he : eq k kv.1 with
    | true => simp [he]
    | false =>
      simp only [he, Bool.false_eq_true, if_false] at h ⊢
      obtain ⟨h1, kv', h2, h3⟩ := idxD_lt eq l k h
      exact ⟨by simp; omega, kv', by simpa using h2, h3⟩
mutual
theorem sameBits_ok {F : Frozen} : (K : Kd) → K.flat = true → (n : Nat) → K.deep ≤ n → (x : K.T) → (v u : Value) → KV F K x v → KV F K x u → Instr.sameBits n v u = true
  | .int k, hf, n, hn, x, v, u, hv, hu => by
    simp only [KV, KR, List.cons.injEq, and_true] at hv hu
    subst hv hu
    simp [Instr.sameBits]
  | .bool, hf, n, hn, x, v, u, hv, hu => by
    simp only [KV, KR, List.cons.injEq, and_true] at hv hu
    subst hv hu
    simp [Instr.sameBits]
  | .str, hf, n, hn, x, v, u, hv, hu => by
    simp only [KV, KR, List.cons.injEq, and_true] at hv hu
    subst hv hu
    simp only [Instr.sameBits]
    rw [beq_toListBytes]
    simp
  | .slice e, hf, n, hn, x, v, u, hv, hu => by simp [Kd.flat] at hf
  | .struct fs, hf, n, hn, x, v, u, hv, hu => by
    simp only [KV] at hv hu
    obtain ⟨cs, rfl, h1⟩ := hv
    obtain ⟨ds, rfl, h2⟩ := hu
    simp only [Kd.deep] at hn
    obtain ⟨n, rfl⟩ : ∃ m, n = m + 1 := ⟨n - 1, by omega⟩
    have e1 := KRs.len _ _ _ h1
    have e2 := KRs.len _ _ _ h2
    simp only [Instr.sameBits, Bool.and_eq_true, beq_iff_eq]
    refine ⟨by simpa using e1.trans e2.symm, ?_⟩
    exact sameAll_ok fs (by simpa only [Kd.flat] using hf) n x _ _ h1 h2
theorem sameAll_ok {F : Frozen} : (Ks : List Kd) → Kds.flat Ks = true → (n : Nat) → (x : Kds.T Ks) → (vs us : List Value) → KRs F Ks x vs → KRs F Ks x us → ((vs.zip us).all fun (a, b) => Instr.sameBits n a b) = true
  | [], hf, n, x, vs, us, hv, hu => by simp only [KRs] at hv hu; subst hv hu; rfl
  | k :: ks, hf, n, x, vs, us, hv, hu => by
    simp only [Kds.flat, Bool.and_eq_true] at hf
    simp only [KRs] at hv hu
    obtain ⟨v1, v2, rfl, h1, h2⟩ := hv
    obtain ⟨u1, u2, rfl, h3, h4⟩ := hu
    have ih := sameAll_ok ks hf.2 n x.2 v2 u2 h2 h4
    have hl : v1.length = u1.length := (KR.len _ _ _ h1).trans (KR.len _ _ _ h3).symm
    rw [List.zip_append hl, List.all_append, Bool.and_eq_true]
    exact ⟨sameCells_ok k hf.1 n x.1 v1 u1 h1 h3, ih⟩
theorem sameCells_ok {F : Frozen} : (K : Kd) → K.flat = true → (n : Nat) → (x : K.T) → (vs us : List Value) → KR F K x vs → KR F K x us → ((vs.zip us).all fun (a, b) => Instr.sameBits n a b) = true
  | .int k, hf, n, x, vs, us, hv, hu => by simp only [KR] at hv hu; subst hv hu; simp [Instr.sameBits]
  | .bool, hf, n, x, vs, us, hv, hu => by simp only [KR] at hv hu; subst hv hu; simp [Instr.sameBits]
  | .str, hf, n, x, vs, us, hv, hu => by
    simp only [KR] at hv hu
    subst hv hu
    simp only [List.zip_cons_cons, List.zip_nil_right, List.all_cons, List.all_nil, Bool.and_true, Instr.sameBits]
    rw [beq_toListBytes]
    simp
  | .slice e, hf, n, x, vs, us, hv, hu => by simp [Kd.flat] at hf
  | .struct fs, hf, n, x, vs, us, hv, hu => by
    simp only [KR] at hv hu
    exact sameAll_ok fs (by simpa only [Kd.flat] using hf) n x vs us hv hu
end
theorem MapR.put {F : Frozen} {K V : Kd} {es : Array MapEntry} {l : List (K.T × V.T)} (hm : MapR F K V es l) {k : K.T} {v : V.T} {ke va : Value} (hk : KV F K k ke) (hv : KV F V v va) :
    (hasD (eqK K) l k = true → MapR F K V (es.modify (idxD (eqK K) l k) fun e => { e with key := ke, val := va }) (putD (eqK K) l k v)) ∧ (hasD (eqK K) l k = false → MapR F K V (es.push { key := ke, val := va, born := es.size }) (putD (eqK K) l k v)) := by
  constructor
  · intro hh
    rw [hasD_put, if_pos hh]
    obtain ⟨h1, _⟩ := idxD_lt (eqK K) l k hh
    refine ⟨by simpa using hm.1, fun i e kv h2 h3 => ?_⟩
    rw [Array.getElem?_modify] at h2
    by_cases hi : idxD (eqK K) l k = i
    · rw [if_pos hi] at h2
      obtain ⟨e0, h4, rfl⟩ := Option.map_eq_some_iff.1 h2
      subst hi
      rw [List.getElem?_set_self h1] at h3
      cases h3
      exact ⟨(hm.2 _ e0 _ h4 (List.getElem?_eq_getElem h1)).1, hk, hv⟩
    · rw [if_neg hi] at h2
      rw [List.getElem?_set_ne hi] at h3
      exact hm.2 i e kv h2 h3
  · intro hh
    rw [hasD_put, if_neg (by rw [hh]; simp)]
    refine ⟨by simp [hm.1], fun i e kv h2 h3 => ?_⟩
    rw [Array.getElem?_push] at h2
    by_cases hi : i = es.size
    · rw [if_pos hi] at h2
      cases h2
      subst hi
      rw [hm.1, List.getElem?_append_right (Nat.le_refl _)] at h3
      simp at h3
      subst h3
      exact ⟨rfl, hk, hv⟩
    · rw [if_neg hi] at h2
      have hlt : i < l.length := by rw [← hm.1]; exact (Array.getElem?_eq_some_iff.1 h2).1
      rw [List.getElem?_append_left hlt] at h3
      exact hm.2 i e kv h2 h3
theorem lookD_get {α β : Type} (eq : α → α → Bool) (d : β) : ∀ (l : List (α × β)) (k : α), hasD eq l k = true → ∃ kv, l[idxD eq l k]? = some kv ∧ lookD eq d l k = kv.2
  | [], k, h => by simp [hasD] at h
  | kv :: l, k, h => by
    simp only [hasD, idxD, lookD] at h ⊢
    cases he : eq k kv.1 with
    | true => exact ⟨kv, by simp, by simp⟩
    | false =>
      simp only [he, Bool.false_eq_true, if_false] at h ⊢
      obtain ⟨kv', h2, h3⟩ := lookD_get eq d l k h
      exact ⟨kv', by simpa using h2, h3⟩
theorem lookD_no {α β : Type} (eq : α → α → Bool) (d : β) : ∀ (l : List (α × β)) (k : α), hasD eq l k = false → lookD eq d l k = d ∧ idxD eq l k = l.length
  | [], k, h => ⟨rfl, rfl⟩
  | kv :: l, k, h => by
    simp only [hasD, idxD, lookD] at h ⊢
    cases he : eq k kv.1 with
    | true => rw [he] at h; simp at h
    | false =>
      simp only [he, Bool.false_eq_true, if_false, List.length_cons] at h ⊢
      obtain ⟨h2, h3⟩ := lookD_no eq d l k h
      exact ⟨h2, by omega⟩
theorem setV_get {α β : Type} : ∀ (l : List (α × β)) (n : Nat) (v : β) (i : Nat), (setV l n v)[i]? = if i = n then (l[i]?).map (fun kv => (kv.1, v)) else l[i]?
  | [], n, v, i => by simp [setV]
  | kv :: l, 0, v, 0 => by simp [setV]
  | kv :: l, 0, v, i + 1 => by simp [setV]
  | kv :: l, n + 1, v, 0 => by simp [setV]
  | kv :: l, n + 1, v, i + 1 => by simp [setV, setV_get l n v i]
theorem setV_len {α β : Type} : ∀ (l : List (α × β)) (n : Nat) (v : β), (setV l n v).length = l.length
  | [], n, v => rfl
  | kv :: l, 0, v => rfl
  | kv :: l, n + 1, v => by simp [setV, setV_len l n v]
theorem MapR.key {F : Frozen} {K V : Kd} {es : Array MapEntry} {l : List (K.T × V.T)} (hm : MapR F K V es l) {k : K.T} {ke : Value} (hk : KV F K k ke) (hh : hasD (eqK K) l k = true) :
    MapR F K V (es.modify (idxD (eqK K) l k) fun e => { e with key := ke }) (putD (eqK K) l k (lookD (eqK K) V.z l k)) := by
  rw [hasD_put, if_pos hh]
  obtain ⟨h1, _⟩ := idxD_lt (eqK K) l k hh
  obtain ⟨kv0, g1, g2⟩ := lookD_get (eqK K) V.z l k hh
  refine ⟨by simpa using hm.1, fun i e kv h2 h3 => ?_⟩
  rw [Array.getElem?_modify] at h2
  by_cases hi : idxD (eqK K) l k = i
  · rw [if_pos hi] at h2
    obtain ⟨e0, h4, rfl⟩ := Option.map_eq_some_iff.1 h2
    subst hi
    rw [List.getElem?_set_self h1] at h3
    cases h3
    have h5 := hm.2 _ e0 _ h4 g1
    exact ⟨h5.1, hk, by rw [g2]; exact h5.2.2⟩
  · rw [if_neg hi] at h2
    rw [List.getElem?_set_ne hi] at h3
    exact hm.2 i e kv h2 h3
theorem MapR.val {F : Frozen} {K V : Kd} {es : Array MapEntry} {l : List (K.T × V.T)} (hm : MapR F K V es l) {n : Nat} {v : V.T} {va : Value} (hv : KV F V v va) :
    MapR F K V (es.modify n fun e => { e with val := va }) (setV l n v) := by
  refine ⟨by simpa [setV_len] using hm.1, fun i e kv h2 h3 => ?_⟩
  rw [Array.getElem?_modify] at h2
  rw [setV_get] at h3
  by_cases hi : n = i
  · subst hi
    rw [if_pos rfl] at h2 h3
    obtain ⟨e0, h4, rfl⟩ := Option.map_eq_some_iff.1 h2
    obtain ⟨kv0, h5, rfl⟩ := Option.map_eq_some_iff.1 h3
    have h6 := hm.2 _ e0 _ h4 h5
    exact ⟨h6.1, h6.2.1, hv⟩
  · rw [if_neg hi] at h2
    rw [if_neg (fun e => hi e.symm)] at h3
    exact hm.2 i e kv h2 h3
theorem KV.flat {F F' : Frozen} {K : Kd} (hf : K.flat = true) {x : K.T} {v : Value} (h : KV F K x v) : KV F' K x v := by
  cases K with
  | struct fs => obtain ⟨cs, h1, h2⟩ := h; exact ⟨cs, h1, KRs.flat fs (by simpa only [Kd.flat] using hf) _ _ h2⟩
  | int k => exact KR.flat (F := F) (F' := F') _ hf _ _ h
  | bool => exact KR.flat (F := F) (F' := F') _ hf _ _ h
  | str => exact KR.flat (F := F) (F' := F') _ hf _ _ h
  | slice e => simp [Kd.flat] at hf
/-- A block that is there is told anew; the world stays. -/
theorem Rel.put0 (hr : Rel W S h w) {n : Nat} (ha : alive (hget h n) = true) {r : Option (Nat × Nat)} (hσ : S.σ n = some r) {b : Blk} (hb : BRel S b r w) : Rel W S (hset h n b) w := by
  refine ⟨hr.below, hr.fv, ?_, ?_, ?_⟩
  · intro id ha'
    rw [hget_hset] at ha' ⊢
    by_cases e : id = n
    · subst e
      rw [if_pos rfl]
      exact ⟨_, hσ, hb⟩
    · rw [if_neg e] at ha' ⊢
      exact hr.blk id ha'
  · intro id g' c' ha' hσ'
    rw [hget_hset] at ha'
    by_cases e : id = n
    · subst e; exact hr.own id g' c' ha hσ'
    · rw [if_neg e] at ha'; exact hr.own id g' c' ha' hσ'
  · intro id id' g' c1 c2 ha1 ha2 hσ1 hσ2
    rw [hget_hset] at ha1 ha2
    have a1 : alive (hget h id) = true := by
      by_cases e : id = n
      · rw [e]; exact ha
      · rw [if_neg e] at ha1; exact ha1
    have a2 : alive (hget h id') = true := by
      by_cases e : id' = n
      · rw [e]; exact ha
      · rw [if_neg e] at ha2; exact ha2
    exact hr.inj id id' g' c1 c2 a1 a2 hσ1 hσ2
theorem listAt_take {F : Frozen} {K : Kd} {cells : Array Value} {l : List K.T} (h : RowAt F K cells l) (n : Nat) : ListAt F K (cells.toList.take (n * K.size)) (l.take n) := by
  intro k y hk
  rw [List.getElem?_take] at hk
  split at hk
  · rename_i hkn
    obtain ⟨vs, h1, h2⟩ := h k y hk
    refine ⟨vs, h1, fun j v hj => ?_⟩
    have hjl : j < K.size := by rw [← KR.len _ _ _ h1]; exact (List.getElem?_eq_some_iff.1 hj).1
    have := Nat.mul_le_mul_right K.size (show k + 1 ≤ n from hkn)
    rw [Nat.add_mul] at this
    rw [List.getElem?_take, if_pos (by omega)]
    simpa using h2 j v hj
  · cases hk
theorem listAt_drop {F : Frozen} {K : Kd} {cells : Array Value} {l : List K.T} (h : RowAt F K cells l) (n : Nat) : ListAt F K (cells.toList.drop (n * K.size)) (l.drop n) := by
  intro k y hk
  rw [List.getElem?_drop] at hk
  obtain ⟨vs, h1, h2⟩ := h _ y hk
  refine ⟨vs, h1, fun j v hj => ?_⟩
  have := h2 j v hj
  rw [List.getElem?_drop]
  rw [Nat.add_mul, Nat.add_assoc] at this
  simpa using this
theorem listAt_row {F : Frozen} {K : Kd} {cs : List Value} {l : List K.T} (h : RowAt F K cs.toArray l) : ListAt F K cs l := by
  intro k y hk
  obtain ⟨vs, h1, h2⟩ := h k y hk
  exact ⟨vs, h1, fun j v hj => by simpa using h2 j v hj⟩
theorem mem_zero {z : Array Value} {n : Nat} {u : Value} (h : u ∈ (Builtin.zeroCells z n).toList) : u ∈ z.toList := by
  unfold Builtin.zeroCells at h
  simp only [Array.toList_map, List.mem_map, Array.toList_range, List.mem_range] at h
  obtain ⟨i, hi, rfl⟩ := h
  have hz : 0 < z.size := by
    rcases Nat.eq_zero_or_pos z.size with e | e
    · rw [e] at hi; simp at hi
    · exact e
  have hlt := Nat.mod_lt i hz
  rw [getElem!_pos z _ hlt]
  simp
theorem clear_own (hE : EnvRows P E) (hr : Rel W S h w) {t e ty : TypeId} {rt re : TRow} {K : Kd} (ht : E.row t = some rt) (hd : rt.d = .slice e) (he : E.row e = some re) (hK : re.kd = some K) {id : Nat} {off len : SN} {sv : Value} (hs : VR S (.sl id K.size off len) sv)
    {l : Unit → List K.T} (hg : hget h id = .row e K l) (ho : off.d + len.d ≤ (l ()).length) {f : Unit → List K.T} (hf : f () = (l ()).take off.d ++ List.replicate len.d K.z ++ (l ()).drop (off.d + len.d)) :
    ∃ w', (Builtin.clear_ #[t] ty #[sv]).run P w = .ok (.tuple #[]) w' ∧ Rel W S (hset h id (.row e K f)) w' := by
  have hk := (hE.rows e re he).kd K hK
  have hpos : 0 < K.size := by rw [hk.1]; exact (hE.rows e re he).pos
  have hsl := row_slice hE ht hd
  have ha : alive (hget h id) = true := by rw [hg]; rfl
  obtain ⟨r, h1, h2⟩ := hr.blk id ha
  simp only [VR] at hs
  obtain ⟨r', h3, h4⟩ := hs
  rw [h1] at h3
  obtain rfl := Option.some.inj h3
  rw [hg] at h2
  have idle : len.d = 0 → ∀ A c, sv = .slice A 0 c → ∃ w', (Builtin.clear_ #[t] ty #[sv]).run P w = .ok (.tuple #[]) w' ∧ Rel W S (hset h id (.row e K f)) w' := by
    intro hl A c hsv
    subst hsv
    have hff : f () = l () := by rw [hf, hl]; simp
    refine ⟨w, by cases A <;> simp [Builtin.clear_, run_underlying hsl], hr.put0 ha h1 ?_⟩
    cases r with
    | none => simp only [BRel] at h2 ⊢; rw [hff]; exact h2
    | some p => obtain ⟨g, c⟩ := p; simp only [BRel] at h2 ⊢; rw [hff]; exact h2
  cases r with
  | none =>
    obtain ⟨h5, h6, A, rfl⟩ := h4
    exact idle h6 A 0 rfl
  | some p =>
    obtain ⟨g, c⟩ := p
    obtain ⟨h5, o, rfl, h6⟩ := h4
    obtain ⟨cells, h7, h8, h9, h10, h11⟩ := h2
    by_cases hl : len.d = 0
    · exact idle hl _ _ (by rw [hl])
    · have ho' : o = off.d * K.size := by rcases h6 with h6 | h6 <;> omega
      subst ho'
      have hzs : re.z.cells.size = K.size := by rw [(hE.rows e re he).z, hk.1]
      have hone : ∀ u ∈ (Builtin.zeroCells re.z.cells len.d).toList, u.oneCell' = true := by
        intro u hu
        have hm := mem_zero hu
        obtain ⟨v, h12, h13⟩ := zOk_ok S.F K _ _ hk.2
        rw [List.append_nil] at h12
        rw [h12] at hm
        exact KR.ones K K.z v h13 u hm
      have hlen : (Builtin.zeroCells re.z.cells len.d).toList.length = len.d * K.size := by
        rw [Array.length_toList, zeroCells_size, hzs]
      have hfit : off.d * K.size + len.d * K.size ≤ cells.size := by
        rw [h8, ← Nat.add_mul]; exact Nat.mul_le_mul_right _ (by omega)
      have hst := run_storeCells_at P g (off.d * K.size) e _ 0 cells w h7 (by rw [hlen]; simpa using hfit) hone
      simp only [Nat.add_zero] at hst
      refine ⟨w.setRow g (List.take (off.d * K.size) cells.toList ++ (Builtin.zeroCells re.z.cells len.d).toList ++ List.drop (off.d * K.size + (Builtin.zeroCells re.z.cells len.d).toList.length) cells.toList).toArray, ?_, ?_⟩
      rotate_left
      · refine hr.write ha h1 (Chg.setRow w g _) ⟨_, setRow_heap w g cells _ e (0, 0) h7, ?_, ?_, h10, ?_⟩
        · rw [List.size_toArray, List.length_append, List.length_append, List.length_take, List.length_drop, hlen, Array.length_toList (xs := cells)]
          omega
        · rw [hf, List.length_append, List.length_append, List.length_take, List.length_replicate, List.length_drop]
          omega
        · rw [hlen, hf, List.append_assoc, ← Nat.add_mul, List.append_assoc]
          have hz := RowAt.zero (F := S.F) (K := K) (z := re.z) (n := len.d) hk.2 hzs hpos
          have hz' : ListAt S.F K (Builtin.zeroCells re.z.cells len.d).toList (List.replicate len.d K.z) := by
            refine listAt_row ?_
            have e1 : madeCells re.z.cells (len.d * K.size) = Builtin.zeroCells re.z.cells len.d := by
              unfold madeCells Builtin.zeroCells; rw [hzs]
            rw [← e1]
            simpa using hz
          have hin := listAt_row (by simpa using RowAt.app (rest := []) hz' (by rw [hlen, List.length_replicate]) (listAt_drop h11 (off.d + len.d)))
          have := RowAt.app (rest := []) (listAt_take h11 off.d) (by rw [List.length_take, List.length_take, Array.length_toList (xs := cells), Nat.min_eq_left (by omega), Nat.min_eq_left (by omega)]) hin
          simpa using this
      · obtain ⟨m, hm⟩ : ∃ m, len.d = m + 1 := ⟨len.d - 1, by omega⟩
        rw [hm] at hst ⊢
        simp [Builtin.clear_, run_underlying hsl, row_zero hE he, hst]
theorem mop3_ok (hE : EnvOk P E) (hr : Rel W S h w) {ρ : Operand → AV} {a : Act} (hρ : ∀ y, VR S (ρ y) (a.eval y)) {o : Oper} {r : Res} {new : Nat} (hm : mop3 E ρ h new o.op = some r) (ho : allO r.obs)
    (hnew : ∀ id ∈ r.up.map (·.1), new ≤ id → S.σ id = none) {K' : Act → World → Prop} {Q : Exit → Act → World → Prop}
    (hK : ∀ v w' S', S.le S' → (∀ b, b < W.heap.size → S'.F b = S.F b) → (∀ id, id ∉ r.up.map (·.1) → S'.σ id = S.σ id) → Rel W S' (hsets h r.up) w' → VR S' r.v v → K' (a.put o.dst v) w') : o.wp P a w K' Q := by
  have fin : ∀ v w' S', (execOp a.eval o).run P w = .ok (.value v) w' → S.le S' → (∀ b, b < W.heap.size → S'.F b = S.F b) → (∀ id, id ∉ r.up.map (·.1) → S'.σ id = S.σ id) → Rel W S' (hsets h r.up) w' → VR S' r.v v → o.wp P a w K' Q := by
    intro v w' S' h1 h2 h3 h4 h5 h6
    unfold Oper.wp
    rw [h1]
    exact hK v w' S' h2 h3 h4 h5 h6
  have hupd : ∀ (n : Nat) (r : Option (Nat × Nat)) (id : Nat), id ≠ n → upd S.σ n r id = S.σ id := by
    intro n r id hne; simp [upd, hne]
  cases hop : o.op <;> rw [hop] at hm <;> simp only [mop3, reduceCtorEq] at hm
  case binOp op t x y ty =>
    split at hm
    · rename_i fs hk
      obtain ⟨hk1, hk2, hk3⟩ := hE.eqk t _ hk
      have hkd := hk1
      simp only [EqOk] at hkd
      obtain ⟨fds, e1, e2, e3, e4⟩ := hkd
      split at hm
      · rename_i xa hxa
        split at hm
        · rename_i yb hyb
          have k1 := decS_ok hxa (hρ x)
          have k2 := decS_ok hyb (hρ y)
          have heq := equal_ok (P := P) (w := w) (.struct fs) t 10000 hk1 (by omega) (xa ()) (yb ()) _ _ k1 k2
          simp only [KV] at k1 k2
          obtain ⟨cs, hcs, _⟩ := k1
          obtain ⟨ds, hds, _⟩ := k2
          rw [hcs, hds] at heq
          simp only [eqK] at heq
          have hg : ∀ op, (eqGuard op t x y (.agg cs) (.agg ds)).run P w = .ok () w := fun op => run_eqGuard_agg w op t x y cs ds e3
          split at hm
          · obtain rfl := Option.some.inj hm
            refine fin (.bool (eqKs fs (xa ()) (yb ()))) w S ?_ (.refl _) (fun _ _ => rfl) (fun _ _ => rfl) hr (by simp only [VR, SB.d_t])
            simp only [execOp, hop, hcs, hds]
            refine value_of' ?_
            simp only [Sem.run_bind, hg, Result.andThen, run_eql_struct, heq]
          · obtain rfl := Option.some.inj hm
            refine fin (.bool (!(eqKs fs (xa ()) (yb ())))) w S ?_ (.refl _) (fun _ _ => rfl) (fun _ _ => rfl) hr (by simp only [VR, SB.d_t])
            simp only [execOp, hop, hcs, hds]
            refine value_of' ?_
            simp only [Sem.run_bind, hg, Result.andThen, run_neq_struct, heq]
          · cases hm
        · cases hm
      · cases hm
    · cases hm
  case makeMap t res =>
    cases res <;> simp only [mop3, reduceCtorEq] at hm
    split at hm
    · rename_i K V hk
      obtain rfl := Option.some.inj hm
      have hn : S.σ new = none := hnew new (by simp) (Nat.le_refl _)
      refine fin (.map (some w.heap.size)) (w.alloc (.map #[] 0)) ⟨upd S.σ new (some (w.heap.size, 0)), S.F⟩ ?_ (upd_le hn) (fun _ _ => rfl) (fun id hid => hupd _ _ _ (by simpa using hid)) ?_ ?_
      · simp only [execOp, hop]
        refine value_of' ?_
        simp [Instr.makeMap]
      · exact hr.new (X := fun _ => False) (Chg.alloc _ _) (fun _ h => h) hn (b := .map t K V fun _ => []) (r := some (w.heap.size, 0)) ⟨w.heap.size, 0, #[], rfl, heap_alloc_new w _, rfl, fun i e kv h1 h2 => by simp at h1⟩ (fun g c h => by cases h; exact Nat.le_refl _)
      · simp only [VR]
        exact ⟨w.heap.size, 0, by simp [upd], rfl⟩
    · cases hm
  case lookup t x ix ok =>
    split at hm
    · rename_i K0 V0 hk
      split at hm
      · rename_i id hx
        split at hm
        · rename_i K V l hb
          split at hm
          · rename_i hs
            obtain rfl := Kd.eq_of_same K K0 hs.1
            obtain rfl := Kd.eq_of_same V V0 hs.2
            split at hm
            · rename_i k hkd
              obtain ⟨kt, vt, rv, h1, h2, h3, h4, h5, h6, h7⟩ := mapKd_ok hE hk
              have hb' := mapB_ok hb
              obtain ⟨r0, e1, e2⟩ := hr.blk id (by rw [hb']; rfl)
              rw [hb'] at e2
              obtain ⟨g, c, es, rfl, e3, e4⟩ := e2
              have hxv := hρ x
              rw [hx] at hxv
              simp only [VR] at hxv
              obtain ⟨g', c', e5, e6⟩ := hxv
              rw [e1] at e5
              obtain ⟨rfl, rfl⟩ : g = g' ∧ c = c' := by simpa using e5
              have hkv := decArg_ok hkd (hρ ix)
              obtain ⟨z, z1, z2⟩ := zero_kv (S := S) (w := w) hE.rows h5 h6 h7
              obtain ⟨fr, f1, f2⟩ := findKey_ok (w := w) h2 h3 hkv e4
              have hgo : (getObj g).run P w = .ok (.map es es.size) w := by simp [getObj, Sem.run, e3]
              have hck := checkKey_ok (w := w) es.isEmpty K kt 10000 h2 (by omega) (k ()) _ hkv
              have hval : ∃ u : Value, KV S.F V (lookD (eqK K) V.z (l ()) (k ())) u ∧ (Instr.lookup t (a.eval x) (a.eval ix) ok).run P w = .ok (if ok then .tuple #[u, .bool (hasD (eqK K) (l ()) (k ()))] else u) w := by
                have hnone : ∀ (l : List (K.T × V.T)) (k : K.T), hasD (eqK K) l k = false → lookD (eqK K) V.z l k = V.z := by
                  intro l k
                  induction l with
                  | nil => intro _; rfl
                  | cons kv l ih =>
                    intro hh
                    simp only [hasD, lookD] at hh ⊢
                    cases he : eqK K k kv.1 with
                    | true => rw [he] at hh; simp at hh
                    | false => rw [he] at hh; simp only [Bool.false_eq_true, if_false] at hh ⊢; exact ih hh
                cases fr with
                | none =>
                  simp only [foundAt] at f2
                  refine ⟨z, by rw [hnone _ _ f2]; exact z2, ?_⟩
                  rw [e6]
                  simp only [Instr.lookup, Sem.run_bind, run_underlying h1, Result.andThen, hgo, Sem.run_pure, hck, f1, z1, f2]
                | some p =>
                  obtain ⟨j, u⟩ := p
                  simp only [foundAt] at f2
                  refine ⟨u, f2.2.2, ?_⟩
                  rw [e6]
                  simp only [Instr.lookup, Sem.run_bind, run_underlying h1, Result.andThen, hgo, Sem.run_pure, hck, f1, f2.1]
              obtain ⟨u, u1, u2⟩ := hval
              have u3 : VR S (encArg V fun _ => lookD (eqK K) V.z (l ()) (k ())) u := encArg_kv (y := fun _ => lookD (eqK K) V.z (l ()) (k ())) u1
              cases ok with
              | true =>
                simp only [Option.some.injEq] at hm
                subst hm
                refine fin _ w S (by simp only [execOp, hop]; exact value_of' u2) (.refl _) (fun _ _ => rfl) (fun _ _ => rfl) hr ?_
                simp only [if_true, VR, VRs]
                exact ⟨_, rfl, _, _, rfl, u3, _, _, rfl, by simp only [SB.d_t], rfl⟩
              | false =>
                simp only [Option.some.injEq] at hm
                subst hm
                exact fin _ w S (by simp only [execOp, hop]; exact value_of' u2) (.refl _) (fun _ _ => rfl) (fun _ _ => rfl) hr (by simpa using u3)
            · cases hm
          · cases hm
        · cases hm
      · cases hm
    · cases hm
  case mapUpdate t m ix x =>
    split at hm
    · rename_i K0 V0 hk
      split at hm
      · rename_i id hx
        split at hm
        · rename_i K V l hb
          split at hm
          · rename_i hs
            obtain rfl := Kd.eq_of_same K K0 hs.1
            obtain rfl := Kd.eq_of_same V V0 hs.2.1
            split at hm
            · rename_i k hkd
              split at hm
              · rename_i v hvd
                obtain rfl := Option.some.inj hm
                obtain ⟨kt, vt, rv, h1, h2, h3, h4, h5, h6, h7⟩ := mapKd_ok hE hk
                have hb' := mapB_ok hb
                have ha : alive (hget h id) = true := by rw [hb']; rfl
                obtain ⟨r0, e1, e2⟩ := hr.blk id ha
                rw [hb'] at e2
                obtain ⟨g, c, es, rfl, e3, e4⟩ := e2
                have hxv := hρ m
                rw [hx] at hxv
                simp only [VR] at hxv
                obtain ⟨g', c', e5, e6⟩ := hxv
                rw [e1] at e5
                obtain ⟨rfl, rfl⟩ : g = g' ∧ c = c' := by simpa using e5
                have hkv := decArg_ok hkd (hρ ix)
                have hvv := decArg_ok hvd (hρ x)
                obtain ⟨fr, f1, f2⟩ := findKey_ok (w := w) h2 h3 hkv e4
                have hgo : (getObj g).run P w = .ok (.map es es.size) w := by simp [getObj, Sem.run, e3]
                have hso : ∀ o : Obj, (setObj g o).run P w = .ok () { w with heap := w.heap.setIfInBounds g o } := fun o => by simp [setObj, Sem.run, e3]
                have hck := checkKey_ok (w := w) false K kt 10000 h2 (by omega) (k ()) _ hkv
                have hg : g < w.heap.size := (Array.getElem?_eq_some_iff.1 e3).1
                have hput := e4.put hkv hvv
                have hfin : ∀ es' : Array MapEntry, MapR S.F K V es' (putD (eqK K) (l ()) (k ()) (v ())) → (Instr.mapUpdate t (a.eval m) (a.eval ix) (a.eval x)).run P w = .ok () { w with heap := w.heap.setIfInBounds g (.map es' es'.size) } → o.wp P a w K' Q := by
                  intro es' hm' hrun
                  unfold Oper.wp
                  have : (execOp a.eval o).run P w = .ok .skip { w with heap := w.heap.setIfInBounds g (.map es' es'.size) } := by
                    simp only [execOp, hop, Sem.run_bind, hrun, Result.andThen, Sem.run_pure]
                  rw [this]
                  have hch : Chg w { w with heap := w.heap.setIfInBounds g (.map es' es'.size) } (fun k => k = g) := by
                    refine ⟨rfl, rfl, rfl, by simp, fun k hk hx => ?_⟩
                    simp only
                    rw [Array.getElem?_setIfInBounds_ne (fun e => hx e.symm)]
                  have hw := hr.write ha e1 hch (b := .map t K V fun _ => putD (eqK K) (l ()) (k ()) (v ())) ⟨g, c, es', rfl, by simp [hg], hm'⟩
                  exact hK undef _ S (.refl _) (fun _ _ => rfl) (fun _ _ => rfl) (by simpa only [hsets] using hw) (by simp only [VR])
                cases fr with
                | none =>
                  simp only [foundAt] at f2
                  refine hfin _ (hput.2 f2) ?_
                  rw [e6]
                  simp only [Instr.mapUpdate, Sem.run_bind, run_underlying h1, Result.andThen, hgo, hck, f1]
                  rw [hso]
                  simp
                | some p =>
                  obtain ⟨j, u⟩ := p
                  simp only [foundAt] at f2
                  obtain ⟨f3, f4, f5⟩ := f2
                  rw [Nat.zero_add] at f4
                  subst f4
                  refine hfin _ (hput.1 f3) ?_
                  rw [e6]
                  obtain ⟨hlt, kv, hkv1, hkv2⟩ := idxD_lt (eqK K) (l ()) (k ()) f3
                  have hes : idxD (eqK K) (l ()) (k ()) < es.size := by rw [e4.1]; exact hlt
                  have hold := (e4.2 _ es[idxD (eqK K) (l ()) (k ())] kv (by simp [hes]) hkv1).2.1
                  have hkk : k () = kv.1 := (eqK_iff K h4 _ _).1 hkv2
                  rw [← hkk] at hold
                  have hsb := sameBits_ok K h4 10000 (by omega) (k ()) _ _ hold hkv
                  simp only [Instr.mapUpdate, Sem.run_bind, run_underlying h1, Result.andThen, hgo, hck, f1]
                  simp only [Instr.keyThatStays, Array.getElem?_eq_getElem hes, Option.map_some, Option.getD_some, hsb, if_true, Sem.run_pure]
                  rw [hso]
                  simp
              · cases hm
            · cases hm
          · cases hm
        · cases hm
      · cases hm
    · cases hm
  case mapEntry t m ix =>
    split at hm
    · rename_i K0 V0 hk
      split at hm
      · rename_i id hx
        split at hm
        · rename_i K V l hb
          split at hm
          · rename_i hs
            obtain rfl := Kd.eq_of_same K K0 hs.1
            obtain rfl := Kd.eq_of_same V V0 hs.2.1
            split at hm
            · rename_i k hkd
              obtain rfl := Option.some.inj hm
              obtain ⟨kt, vt, rv, h1, h2, h3, h4, h5, h6, h7⟩ := mapKd_ok hE hk
              have hb' := mapB_ok hb
              have ha : alive (hget h id) = true := by rw [hb']; rfl
              obtain ⟨r0, e1, e2⟩ := hr.blk id ha
              rw [hb'] at e2
              obtain ⟨g, c, es, rfl, e3, e4⟩ := e2
              have hxv := hρ m
              rw [hx] at hxv
              simp only [VR] at hxv
              obtain ⟨g', c', e5, e6⟩ := hxv
              rw [e1] at e5
              obtain ⟨rfl, rfl⟩ : g = g' ∧ c = c' := by simpa using e5
              have hgo : (getObj g).run P w = .ok (.map es es.size) w := by simp [getObj, Sem.run, e3]
              have hso : ∀ o : Obj, (setObj g o).run P w = .ok () { w with heap := w.heap.setIfInBounds g o } := fun o => by simp [setObj, Sem.run, e3]
              have hg : g < w.heap.size := (Array.getElem?_eq_some_iff.1 e3).1
              have hch : ∀ es' : Array MapEntry, Chg w { w with heap := w.heap.setIfInBounds g (.map es' es'.size) } (fun k => k = g) := fun es' => by
                refine ⟨rfl, rfl, rfl, by simp, fun k hk hx => ?_⟩
                simp only
                rw [Array.getElem?_setIfInBounds_ne (fun e => hx e.symm)]
              have hkv := decArg_ok hkd (hρ ix)
              obtain ⟨fr, f1, f2⟩ := findKey_ok (w := w) h2 h3 hkv e4
              have hck := checkKey_ok (w := w) false K kt 10000 h2 (by omega) (k ()) _ hkv
              obtain ⟨z, z1, z2⟩ := zero_kv (S := S) (w := w) hE.rows h5 h6 h7
              have hfin : ∀ (es' : Array MapEntry) (u : Value), MapR S.F K V es' (putD (eqK K) (l ()) (k ()) (lookD (eqK K) V.z (l ()) (k ()))) → KV S.F V (lookD (eqK K) V.z (l ()) (k ())) u →
                  (Instr.mapEntry t (a.eval m) (a.eval ix)).run P w = .ok (.tuple #[u, goInt (nI (idxD (eqK K) (l ()) (k ())))]) { w with heap := w.heap.setIfInBounds g (.map es' es'.size) } → o.wp P a w K' Q := by
                intro es' u hm' hu hrun
                have hw := hr.write ha e1 (hch es') (b := .map t K V fun _ => putD (eqK K) (l ()) (k ()) (lookD (eqK K) V.z (l ()) (k ()))) ⟨g, c, es', rfl, by simp [hg], hm'⟩
                refine fin _ _ S (by simp only [execOp, hop]; exact value_of' hrun) (.refl _) (fun _ _ => rfl) (fun _ _ => rfl) (by simpa only [hsets] using hw) ?_
                have u3 : VR S (encArg V fun _ => lookD (eqK K) V.z (l ()) (k ())) u := encArg_kv (y := fun _ => lookD (eqK K) V.z (l ()) (k ())) hu
                simp only [VR, VRs]
                exact ⟨_, rfl, _, _, rfl, u3, _, _, rfl, by simp only [SI.d_t, goInt], rfl⟩
              cases fr with
              | none =>
                simp only [foundAt] at f2
                obtain ⟨n1, n2⟩ := lookD_no (eqK K) V.z (l ()) (k ()) f2
                have hpt := (e4.put hkv (v := V.z) z2).2 f2
                rw [n1] at hfin
                refine hfin _ z hpt z2 ?_
                rw [e6, n2, ← e4.1]
                simp only [Instr.mapEntry, Sem.run_bind, run_underlying h1, Result.andThen, hgo, hck, f1, z1]
                rw [hso]
                simp [nI]
              | some p =>
                obtain ⟨j, u⟩ := p
                simp only [foundAt] at f2
                obtain ⟨f3, f4, f5⟩ := f2
                rw [Nat.zero_add] at f4
                subst f4
                refine hfin _ u (e4.key hkv f3) f5 ?_
                rw [e6]
                obtain ⟨hlt, kv, hkv1, hkv2⟩ := idxD_lt (eqK K) (l ()) (k ()) f3
                have hes : idxD (eqK K) (l ()) (k ()) < es.size := by rw [e4.1]; exact hlt
                have hent := e4.2 _ es[idxD (eqK K) (l ()) (k ())] kv (by simp [hes]) hkv1
                have hold := hent.2.1
                have hkk : k () = kv.1 := (eqK_iff K h4 _ _).1 hkv2
                rw [← hkk] at hold
                have hsb := sameBits_ok K h4 10000 (by omega) (k ()) _ _ hold hkv
                simp only [Instr.mapEntry, Sem.run_bind, run_underlying h1, Result.andThen, hgo, hck, f1]
                simp only [Instr.keyThatStays, Array.getElem?_eq_getElem hes, Option.map_some, Option.getD_some, hsb, if_true, Sem.run_pure]
                rw [hso]
                simp [hent.1, nI]
            · cases hm
          · cases hm
        · cases hm
      · cases hm
    · cases hm
  case entryStore t m s x =>
    split at hm
    · rename_i K0 V0 hk
      split at hm
      · rename_i id hx
        split at hm
        · rename_i K V l hb
          split at hm
          · rename_i hs
            obtain rfl := Kd.eq_of_same K K0 hs.1
            obtain rfl := Kd.eq_of_same V V0 hs.2.1
            split at hm
            · rename_i ik n hsv
              split at hm
              · rename_i v hvd
                obtain rfl := Option.some.inj hm
                obtain ⟨kt, vt, rv, h1, h2, h3, h4, h5, h6, h7⟩ := mapKd_ok hE hk
                have hb' := mapB_ok hb
                have ha : alive (hget h id) = true := by rw [hb']; rfl
                obtain ⟨r0, e1, e2⟩ := hr.blk id ha
                rw [hb'] at e2
                obtain ⟨g, c, es, rfl, e3, e4⟩ := e2
                have hxv := hρ m
                rw [hx] at hxv
                simp only [VR] at hxv
                obtain ⟨g', c', e5, e6⟩ := hxv
                rw [e1] at e5
                obtain ⟨rfl, rfl⟩ : g = g' ∧ c = c' := by simpa using e5
                have hgo : (getObj g).run P w = .ok (.map es es.size) w := by simp [getObj, Sem.run, e3]
                have hso : ∀ o : Obj, (setObj g o).run P w = .ok () { w with heap := w.heap.setIfInBounds g o } := fun o => by simp [setObj, Sem.run, e3]
                have hg : g < w.heap.size := (Array.getElem?_eq_some_iff.1 e3).1
                have hch : ∀ es' : Array MapEntry, Chg w { w with heap := w.heap.setIfInBounds g (.map es' es'.size) } (fun k => k = g) := fun es' => by
                  refine ⟨rfl, rfl, rfl, by simp, fun k hk hx => ?_⟩
                  simp only
                  rw [Array.getElem?_setIfInBounds_ne (fun e => hx e.symm)]
                have hvv := decArg_ok hvd (hρ x)
                have hst := hρ s
                rw [hsv] at hst
                simp only [VR] at hst
                simp only [allO, and_true] at ho
                obtain ⟨q0, q1⟩ := ho
                obtain ⟨i, hi⟩ : ∃ i : Nat, n.d = (i : Int) := ⟨n.d.toNat, by omega⟩
                have hit : n.d.toNat = i := by omega
                have hil : i < es.size := by rw [e4.1]; rw [hi] at q1; simp only [nI] at q1; omega
                have hfind : es.findIdx? (fun e => (e.born : Int) == n.d) = some i := by
                  have hborn : ∀ (j : Nat) (hj : j < es.size), es[j].born = j := fun j hj => by
                    have hjl : j < (l ()).length := by rw [← e4.1]; exact hj
                    exact (e4.2 j es[j] (l ())[j] (by simp [hj]) (List.getElem?_eq_getElem hjl)).1
                  rw [Array.findIdx?_eq_some_iff_getElem]
                  refine ⟨hil, ?_, fun j hj => ?_⟩
                  · rw [hborn i hil, hi]; simp
                  · rw [hborn j (by omega), hi]
                    simp
                    omega
                have hw := hr.write ha e1 (hch (es.modify i fun e => { e with val := a.eval x })) (b := .map t K V fun _ => setV (l ()) n.d.toNat (v ())) ⟨g, c, es.modify i fun e => { e with val := a.eval x }, rfl, by simp [hg], by rw [hit]; exact e4.val hvv⟩
                unfold Oper.wp
                have hrun : (execOp a.eval o).run P w = .ok .skip { w with heap := w.heap.setIfInBounds g (.map (es.modify i fun e => { e with val := a.eval x }) (es.modify i fun e => { e with val := a.eval x }).size) } := by
                  simp only [execOp, hop, Sem.run_bind, Result.andThen, Sem.run_pure, e6, Instr.entryStore, hgo, hst, asInt, asIntOf, hfind]
                  rw [hso]
                  simp
                rw [hrun]
                exact hK undef _ S (.refl _) (fun _ _ => rfl) (fun _ _ => rfl) (by simpa only [hsets] using hw) (by simp only [VR])
              · cases hm
            · cases hm
          · cases hm
        · cases hm
      · cases hm
    · cases hm
  case call c =>
    obtain ⟨callee, args, ats⟩ := c
    cases callee <;> (try simp only [reduceCtorEq] at hm)
    case builtin b =>
      cases b <;> (try simp only [reduceCtorEq] at hm)
      split at hm
      · rename_i x hargs
        split at hm
        · rename_i t hats
          have e1 : args = #[x] := by rw [← Array.toArray_toList (xs := args), hargs]
          have e2 : ats = #[t] := by rw [← Array.toArray_toList (xs := ats), hats]
          subst e1 e2
          split at hm
          · rename_i e _ _ _ _ ht
            split at hm
            · rename_i id sz off len hx
              split at hm
              · rename_i T K l hb
                split at hm
                · rename_i re hre
                  cases hK' : re.kd with
                  | none => simp [hK'] at hm
                  | some K' =>
                    simp only [hK'] at hm
                    split at hm
                    · rename_i hs
                      obtain rfl := Option.some.inj hm
                      obtain ⟨rfl, rfl, hz, hk⟩ := hs
                      have hsv := hρ x
                      rw [hx] at hsv
                      simp only [allO] at ho
                      obtain rfl := Kd.eq_of_same _ _ hk
                      obtain ⟨w', h1, h2⟩ := clear_own (ty := o.type) hE.rows hr ht rfl hre hK' hsv hb ho.1 (f := fun _ => (l ()).take off.d ++ List.replicate len.d K.z ++ (l ()).drop (off.d + len.d)) rfl
                      have hrun : (execOp a.eval o).run P w = .ok (.value (.tuple #[])) w' := by
                        have : (Builtin.clear_ #[t] o.type (#[x].map a.eval)).run P w = .ok (.tuple #[]) w' := by simpa using h1
                        simp only [execOp, hop]
                        exact value_of' (s := Builtin.clear_ #[t] o.type (#[x].map a.eval)) this
                      unfold Oper.wp
                      rw [hrun]
                      exact hK _ _ S (.refl _) (fun _ _ => rfl) (fun _ _ => rfl) (by simpa only [hsets] using h2) (by simp only [VR, VRs]; exact ⟨#[], rfl, rfl⟩)
                    · cases hm
                · simp at hm
              · cases hm
            · cases hm
          · cases hm
        · cases hm
      · cases hm
theorem mop_ok (hE : EnvOk P E) (hr : Rel W S h w) {ρ : Operand → AV} {a : Act} (hρ : ∀ y, VR S (ρ y) (a.eval y)) {o : Oper} {r : Res} {new : Nat} (hm : mop E ρ h new o.op = some r) (ho : allO r.obs)
    (hnew : ∀ id ∈ r.up.map (·.1), new ≤ id → S.σ id = none) {K : Act → World → Prop} {Q : Exit → Act → World → Prop}
    (hK : ∀ v w' S', S.le S' → (∀ b, b < W.heap.size → S'.F b = S.F b) → (∀ id, id ∉ r.up.map (·.1) → S'.σ id = S.σ id) → Rel W S' (hsets h r.up) w' → VR S' r.v v → K (a.put o.dst v) w') : o.wp P a w K Q := by
  unfold mop at hm
  split at hm
  · rename_i r' h1
    cases hm
    exact mop1_ok hE hr hρ h1 ho hnew hK
  · split at hm
    · rename_i r' h1
      cases hm
      exact mop2_ok hE hr hρ h1 ho hnew hK
    · exact mop3_ok hE hr hρ hm ho hnew hK

end
end Go.Sx
