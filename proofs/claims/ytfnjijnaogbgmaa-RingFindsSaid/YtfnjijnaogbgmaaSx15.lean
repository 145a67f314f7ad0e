/- A reckoner of Go code over told values: calls of known functions; all steps that look at memory. -/
import Derived.Test.YtfnjijnaogbgmaaSx14
namespace Go.Sx
open Go Go.RowKit
set_option linter.unusedVariables false
set_option linter.unusedSimpArgs false

/-- What a known function's telling is good for. -/
def SpecOk (P : Program) (f : FuncId) (spec : List AV → Option FOut) : Prop :=
  ∀ xs out, spec xs = some out → allO out.obs → ∀ (F : Frozen) (w : World) (vs : Array Value), FV F w → VRs ⟨fun _ => none, F⟩ xs vs.toList →
    Calls P f vs w fun e w' => ∃ v S', e = .returned v ∧ Rel w S' out.rows w' ∧ FLe F S'.F ∧ (∀ b, b < w.heap.size → S'.F b = F b) ∧ (∀ id, out.rows.length ≤ id → S'.σ id = none) ∧ VR S' out.v v
structure FnOk (P : Program) (f : FuncId) (spec : List AV → Option FOut) : Prop where
  fn : ∃ fn, P.funcs[f]? = some fn ∧ (fn.name == "runtime.NumGoroutine") = false ∧ fn.body.isSome = true
  ok : SpecOk P f spec
mutual
def Kd.deep : Kd → Nat
  | .int _ => 1
  | .bool => 1
  | .str => 1
  | .slice _ => 1
  | .struct fs => Kds.deep fs + 1
def Kds.deep : List Kd → Nat
  | [] => 0
  | k :: ks => max k.deep (Kds.deep ks)
end
mutual
/-- Values of type t that are of the kind K are compared part by part. -/
def EqOk (P : Program) (t : TypeId) : Kd → Prop
  | .int k => P.underlying t = some (.int k)
  | .bool => P.underlying t = some .bool
  | .str => P.underlying t = some .string
  | .slice _ => False
  | .struct fs => ∃ fds, P.underlying t = some (.struct fds) ∧ P.stoodInHeld t = false ∧ P.eqGuardType P.depth t = false ∧ EqFs P fds.toList 0 fs
def EqFs (P : Program) : List Field → Nat → List Kd → Prop
  | fds, off, [] => fds = []
  | fds, off, k :: ks => ∃ f fs, fds = f :: fs ∧ f.offset = off ∧ f.name ≠ "_" ∧ (P.info? f.type).map (·.size) = some k.size ∧ EqOk P f.type k ∧ EqFs P fs (off + k.size) ks
end
def ExtOk (P : Program) (f : FuncId) (spec : List AV → Option (AV × Obs)) : Prop :=
  ∃ fn e, P.funcs[f]? = some fn ∧ (fn.name == "runtime.NumGoroutine") = false ∧ fn.body.isNone = true ∧ Extern.findNext fn = none ∧ Extern.find fn = some e ∧
    ∀ (S : Sg) (xs : List AV) (vs : Array Value) (x : AV) (obs : Obs) (w : World), spec xs = some (x, obs) → allO obs → VRs S xs vs.toList → ∃ v, (e vs).run P w = .ok v w ∧ VR S x v
structure EnvOk (P : Program) (E : Env) : Prop where
  rows : EnvRows P E
  fns : ∀ f spec, E.fn f = some spec → FnOk P f spec
  ext : ∀ f spec, E.ext f = some spec → ExtOk P f spec
  lies : ∀ t, E.lies t = true → ∃ n, P.cellsOf t = n ∧ szIs E t n = true ∧ liesAt P P.depth t 1 0 t 1 = true
  eqk : ∀ t K, E.eqk t = some K → EqOk P t K ∧ K.deep ≤ 100 ∧ K.flat = true
  mixed : P.follows .mixedOrders = true

mutual
theorem KR.flat {F F' : Frozen} : (K : Kd) → K.flat = true → (x : K.T) → (vs : List Value) → KR F K x vs → KR F' K x vs
  | .int k, _, n, vs, h => by simpa only [KR] using h
  | .bool, _, n, vs, h => by simpa only [KR] using h
  | .str, _, n, vs, h => by simpa only [KR] using h
  | .slice e, hf, l, vs, h => by simp [Kd.flat] at hf
  | .struct fs, hf, x, vs, h => by
    simp only [KR] at h ⊢
    exact KRs.flat fs (by simpa only [Kd.flat] using hf) x vs h
theorem KRs.flat {F F' : Frozen} : (K : List Kd) → Kds.flat K = true → (x : Kds.T K) → (vs : List Value) → KRs F K x vs → KRs F' K x vs
  | [], _, _, vs, h => by simpa only [KRs] using h
  | k :: ks, hf, x, vs, h => by
    simp only [Kds.flat, Bool.and_eq_true] at hf
    simp only [KRs] at h ⊢
    obtain ⟨v1, v2, h1, h2, h3⟩ := h
    exact ⟨v1, v2, h1, KR.flat k hf.1 _ _ h2, KRs.flat ks hf.2 _ _ h3⟩
end

theorem plainS_ok {S S' : Sg} (hF : S'.F = S.F) {x : AV} {v : Value} (hp : plainS x = true) (h : VR S x v) : VR S' x v := by
  cases x <;> simp only [plainS, Bool.false_eq_true] at hp <;> simp only [VR] at h ⊢ <;> first | exact h | (rw [hF]; exact h)
theorem plainSs_ok {S S' : Sg} (hF : S'.F = S.F) : ∀ {xs : List AV} {vs : List Value}, xs.all plainS = true → VRs S xs vs → VRs S' xs vs
  | [], vs, hp, h => by simpa only [VRs] using h
  | x :: xs, vs, hp, h => by
    simp only [List.all_cons, Bool.and_eq_true] at hp
    simp only [VRs] at h ⊢
    obtain ⟨v, vs', h1, h2, h3⟩ := h
    exact ⟨v, vs', h1, plainS_ok hF hp.1 h2, plainSs_ok hF hp.2 h3⟩
theorem plainV_ok {S S' : Sg} (hF : S'.F = S.F) {x : AV} {v : Value} (hp : plainV x = true) (h : VR S x v) : VR S' x v := by
  cases x
  case agg cs =>
    simp only [plainV] at hp
    simp only [VR] at h ⊢
    obtain ⟨vs, h1, h2⟩ := h
    exact ⟨vs, h1, plainSs_ok hF hp h2⟩
  all_goals exact plainS_ok hF hp h
theorem plainVs_ok {S S' : Sg} (hF : S'.F = S.F) : ∀ {xs : List AV} {vs : List Value}, xs.all plainV = true → VRs S xs vs → VRs S' xs vs
  | [], vs, hp, h => by simpa only [VRs] using h
  | x :: xs, vs, hp, h => by
    simp only [List.all_cons, Bool.and_eq_true] at hp
    simp only [VRs] at h ⊢
    obtain ⟨v, vs', h1, h2, h3⟩ := h
    exact ⟨v, vs', h1, plainV_ok hF hp.1 h2, plainVs_ok hF hp.2 h3⟩

section shift
variable {σ1 σ2 : Nat → Option (Option (Nat × Nat))} {F1 F2 : Frozen} {n : Nat}
theorem shiftV_ok (hS : ∀ id r, σ1 id = some r → σ2 (n + id) = some r) {x : AV} {v : Value} (ho : okS x = true) (hF : F1 = F2 ∨ flatS x = true) (h : VR ⟨σ1, F1⟩ x v) : VR ⟨σ2, F2⟩ (shiftV n x) v := by
  cases x <;> simp only [okS, flatS, Bool.false_eq_true, or_false] at ho hF <;> simp only [shiftV, VR] at h ⊢ <;> try exact h
  case sl =>
    obtain ⟨r, h1, h2⟩ := h
    exact ⟨r, hS _ _ h1, h2⟩
  case ro => rw [← hF]; exact h
theorem shiftVs_ok (hS : ∀ id r, σ1 id = some r → σ2 (n + id) = some r) : ∀ {xs : List AV} {vs : List Value}, xs.all okS = true → (F1 = F2 ∨ xs.all flatS = true) → VRs ⟨σ1, F1⟩ xs vs → VRs ⟨σ2, F2⟩ (shiftVs n xs) vs
  | [], vs, ho, hF, h => by simpa only [shiftVs, VRs] using h
  | x :: xs, vs, ho, hF, h => by
    simp only [List.all_cons, Bool.and_eq_true] at ho hF
    simp only [shiftVs, VRs] at h ⊢
    obtain ⟨v, vs', h1, h2, h3⟩ := h
    exact ⟨v, vs', h1, shiftV_ok hS ho.1 (hF.imp id And.left) h2, shiftVs_ok hS ho.2 (hF.imp id And.right) h3⟩
theorem shiftC_ok (hS : ∀ id r, σ1 id = some r → σ2 (n + id) = some r) {x : AV} {v : Value} (ho : okC x = true) (hF : F1 = F2 ∨ flatC x = true) (h : VR ⟨σ1, F1⟩ x v) : VR ⟨σ2, F2⟩ (shiftC n x) v := by
  cases x
  case agg cs =>
    simp only [okC, flatC] at ho hF
    simp only [shiftC, VR] at h ⊢
    obtain ⟨vs, h1, h2⟩ := h
    exact ⟨vs, h1, shiftVs_ok hS ho hF h2⟩
  all_goals exact shiftV_ok hS (by exact ho) (by exact hF) h
theorem shiftCs_ok (hS : ∀ id r, σ1 id = some r → σ2 (n + id) = some r) : ∀ {xs : List AV} {vs : List Value}, xs.all okC = true → (F1 = F2 ∨ xs.all flatC = true) → VRs ⟨σ1, F1⟩ xs vs → VRs ⟨σ2, F2⟩ (shiftCs n xs) vs
  | [], vs, ho, hF, h => by simpa only [shiftCs, VRs] using h
  | x :: xs, vs, ho, hF, h => by
    simp only [List.all_cons, Bool.and_eq_true] at ho hF
    simp only [shiftCs, VRs] at h ⊢
    obtain ⟨v, vs', h1, h2, h3⟩ := h
    exact ⟨v, vs', h1, shiftC_ok hS ho.1 (hF.imp id And.left) h2, shiftCs_ok hS ho.2 (hF.imp id And.right) h3⟩
theorem shift_ok (hS : ∀ id r, σ1 id = some r → σ2 (n + id) = some r) {x : AV} {v : Value} (ho : okV x = true) (hF : F1 = F2 ∨ flatV x = true) (h : VR ⟨σ1, F1⟩ x v) : VR ⟨σ2, F2⟩ (shift n x) v := by
  cases x
  case tup cs =>
    simp only [okV, flatV] at ho hF
    simp only [shift, VR] at h ⊢
    obtain ⟨vs, h1, h2⟩ := h
    exact ⟨vs, h1, shiftCs_ok hS ho hF h2⟩
  all_goals exact shiftC_ok hS (by exact ho) (by exact hF) h
end shift

theorem hget_number : ∀ (bs : List Blk) (n : Nat) (h : List Blk) (m : Nat), hget (hsets h (number n bs)) m = if n ≤ m ∧ m < n + bs.length then hget bs (m - n) else hget h m
  | [], n, h, m => by simp only [number, hsets]; rw [if_neg (by simp)]
  | b :: bs, n, h, m => by
    simp only [number, hsets]
    rw [hget_number bs, hget_hset]
    by_cases e : m = n
    · subst e
      rw [if_neg (by omega), if_pos rfl, if_pos (by simp), Nat.sub_self]
      rfl
    · by_cases e' : n + 1 ≤ m ∧ m < n + 1 + bs.length
      · rw [if_pos e', if_pos (by simp only [List.length_cons]; omega)]
        have : m - n = (m - (n + 1)) + 1 := by omega
        rw [this]; rfl
      · rw [if_neg e', if_neg e, if_neg (by simp only [List.length_cons]; omega)]
theorem hget_mem : ∀ (l : List Blk) (i : Nat), alive (hget l i) = true → hget l i ∈ l ∧ i < l.length
  | [], i, hi => by simp [hget, alive] at hi
  | a :: l, 0, hi => by simp [hget]
  | a :: l, i + 1, hi => by
    simp only [hget] at hi ⊢
    have := hget_mem l i hi
    exact ⟨List.mem_cons_of_mem _ this.1, by simp only [List.length_cons]; omega⟩
theorem mem_number : ∀ (bs : List Blk) (n m : Nat), m ∈ (number n bs).map (·.1) ↔ n ≤ m ∧ m < n + bs.length
  | [], n, m => by simp [number]
  | b :: bs, n, m => by
    simp only [number, List.map_cons, List.mem_cons, mem_number bs, List.length_cons]
    omega

section
variable {P : Program} {E : Env} {S : Sg} {w W : World} {h : List Blk}

theorem views_ok (hr : Rel W S h w) {ids : List Nat} : ∀ {xs : List AV} {vs : List Value}, VRs S xs vs → allO (slObss h (parts xs)) → (∀ i ∈ slsOf (parts xs), i ∈ ids) → VRs (frzS S h ids w) (views h xs) vs
  | [], vs, hx, _, _ => by simpa only [views, VRs] using hx
  | x :: xs, vs, hx, ho, hi => by
    simp only [VRs] at hx
    obtain ⟨v, vs', rfl, h1, h2⟩ := hx
    have obapp : ∀ a b : List AV, slObss h (a ++ b) = slObss h a ++ slObss h b := by
      intro a b
      induction a with
      | nil => rfl
      | cons c a ih => simp only [List.cons_append, slObss, ih, List.append_assoc]
    have slapp : ∀ a b : List AV, slsOf (a ++ b) = slsOf a ++ slsOf b := by
      intro a b
      induction a with
      | nil => rfl
      | cons c a ih => simp only [List.cons_append, slsOf, ih, List.append_assoc]
    simp only [parts] at ho hi
    rw [obapp, allO_append] at ho
    rw [slapp] at hi
    simp only [views]
    refine ⟨v, vs', rfl, ?_, views_ok hr h2 ho.2 fun i hh => hi i (List.mem_append_right _ hh)⟩
    have hi' : ∀ i ∈ slsOf (parts1 x), i ∈ ids := fun i hh => hi i (List.mem_append_left _ hh)
    cases x
    case agg cs =>
      simp only [view]
      simp only [VR] at h1 ⊢
      obtain ⟨us, h3, h4⟩ := h1
      exact ⟨us, h3, frz_ok hr h4 ho.1 hi'⟩
    all_goals
      refine roOf_ok hr h1 ?_ ?_
      · have := ho.1; simp only [parts1, slObss, allO_append] at this; exact this.1
      · intro i hh; exact hi' i (by simp only [parts1, slsOf, List.append_nil]; exact hh)

theorem allO_flatMap {f : AV → Obs} {x : AV} {xs : List AV} : allO ((x :: xs).flatMap f) ↔ allO (f x) ∧ allO (xs.flatMap f) := by
  rw [List.flatMap_cons, allO_append]
theorem vBs_of (hr : Rel W S h w) {ids : List Nat} (n : Nat) (key : ∀ (x : AV) (v : Value), VR S x v → allO (vO n h x) → (∀ i ∈ vI n h x, i ∈ ids) → VR (frzS S h ids w) (vB n h x) v) :
    ∀ (xs : List AV) (vs : List Value), VRs S xs vs → allO (xs.flatMap (vO n h)) → (∀ i ∈ xs.flatMap (vI n h), i ∈ ids) → VRs (frzS S h ids w) (xs.map (vB n h)) vs
  | [], vs, hx, _, _ => by simpa only [List.map_nil, VRs] using hx
  | x :: xs, vs, hx, ho, hi => by
    simp only [VRs] at hx
    obtain ⟨v, vs', rfl, h1, h2⟩ := hx
    rw [allO_flatMap] at ho
    simp only [List.flatMap_cons, List.mem_append] at hi
    simp only [List.map_cons, VRs]
    exact ⟨v, vs', rfl, key x v h1 ho.1 fun i hh => hi i (.inl hh), vBs_of hr n key xs vs' h2 ho.2 fun i hh => hi i (.inr hh)⟩
theorem vB_ok (hr : Rel W S h w) {ids : List Nat} : ∀ (n : Nat) (x : AV) (v : Value), VR S x v → allO (vO n h x) → (∀ i ∈ vI n h x, i ∈ ids) → VR (frzS S h ids w) (vB n h x) v
  | 0, x, v, _, _, _ => by simp only [vB, VR]
  | n + 1, x, v, hx, ho, hi => by
    have hl := vBs_of hr (ids := ids) n (vB_ok hr n)
    cases x
    case ptr id off =>
      simp only [vB, vO, vI] at ho hi ⊢
      split
      · rename_i T cs hg
        rw [hg] at ho hi
        simp only at ho hi
        simp only [VR] at hx ⊢
        obtain ⟨g, c, h1, rfl⟩ := hx
        obtain ⟨r, h2, h3⟩ := hr.blk id (by rw [hg]; rfl)
        rw [h1] at h2
        cases h2
        rw [hg] at h3
        obtain ⟨g', c', cells, h4, h5, h6⟩ := h3
        cases h4
        refine ⟨g, cells, T, rfl, ?_, hl cs _ h6 ho fun i hh => hi i (List.mem_cons_of_mem _ hh)⟩
        simp only [frzS, frzF]
        rw [if_pos ⟨id, hi id (by simp), by rw [hg]; rfl, c, h1⟩]
        exact h5
      · simp only [VR]
    case fn f a b =>
      simp only [vB, vO, vI, allO_append, List.mem_append] at ho hi ⊢
      simp only [VR] at hx ⊢
      obtain ⟨as, bs, h1, h2, h3⟩ := hx
      exact ⟨as, bs, h1, hl a _ h2 ho.1 fun i hh => hi i (.inl hh), hl b _ h3 ho.2 fun i hh => hi i (.inr hh)⟩
    case agg cs =>
      simp only [vB, vO, vI] at ho hi ⊢
      simp only [VR] at hx ⊢
      obtain ⟨us, h1, h2⟩ := hx
      exact ⟨us, h1, hl cs _ h2 ho hi⟩
    all_goals exact roOf_ok hr hx ho hi
mutual
theorem plainF_ok {S S' : Sg} (hF : S'.F = S.F) : (x : AV) → (v : Value) → plainF x = true → VR S x v → VR S' x v
  | .agg cs, v, hp, h => by
    simp only [plainF, VR] at hp h ⊢
    obtain ⟨vs, h1, h2⟩ := h
    exact ⟨vs, h1, plainFs_ok hF cs _ hp h2⟩
  | .fb cs off, v, hp, h => by
    simp only [plainF, VR] at hp h ⊢
    obtain ⟨g, vs, T, h1, h2, h3⟩ := h
    exact ⟨g, vs, T, h1, by rw [hF]; exact h2, plainFs_ok hF cs _ hp h3⟩
  | .fn f a b, v, hp, h => by
    simp only [plainF, VR, Bool.and_eq_true] at hp h ⊢
    obtain ⟨as, bs, h1, h2, h3⟩ := h
    exact ⟨as, bs, h1, plainFs_ok hF a _ hp.1 h2, plainFs_ok hF b _ hp.2 h3⟩
  | .any, v, hp, h => plainS_ok hF hp h
  | .und, v, hp, h => plainS_ok hF hp h
  | .int _ _, v, hp, h => plainS_ok hF hp h
  | .bool _, v, hp, h => plainS_ok hF hp h
  | .str _, v, hp, h => plainS_ok hF hp h
  | .nilp, v, hp, h => plainS_ok hF hp h
  | .nilf, v, hp, h => plainS_ok hF hp h
  | .nili, v, hp, h => plainS_ok hF hp h
  | .nilm, v, hp, h => plainS_ok hF hp h
  | .nils, v, hp, h => plainS_ok hF hp h
  | .e0, v, hp, h => plainS_ok hF hp h
  | .ptr _ _, v, hp, h => plainS_ok hF hp h
  | .rowp _ _ _ _, v, hp, h => plainS_ok hF hp h
  | .rop _ _ _ _, v, hp, h => plainS_ok hF hp h
  | .sl _ _ _ _, v, hp, h => plainS_ok hF hp h
  | .mp _, v, hp, h => plainS_ok hF hp h
  | .ro _ _, v, hp, h => plainS_ok hF hp h
  | .tup _, v, hp, h => plainS_ok hF hp h
  | .iface _ _, v, hp, h => plainS_ok hF hp h
  | .gd _ _, v, hp, h => plainS_ok hF hp h
theorem plainFs_ok {S S' : Sg} (hF : S'.F = S.F) : (xs : List AV) → (vs : List Value) → plainFs xs = true → VRs S xs vs → VRs S' xs vs
  | [], vs, hp, h => by simpa only [VRs] using h
  | x :: xs, vs, hp, h => by
    simp only [plainFs, Bool.and_eq_true] at hp
    simp only [VRs] at h ⊢
    obtain ⟨v, vs', h1, h2, h3⟩ := h
    exact ⟨v, vs', h1, plainF_ok hF x _ hp.1 h2, plainFs_ok hF xs _ hp.2 h3⟩
end
theorem plain_shiftV (n : Nat) : ∀ x : AV, plainF x = true → shiftV n x = x := by
  intro x h
  cases x <;> first | rfl | (simp only [plainF, plainS, Bool.false_eq_true] at h)
theorem plain_shiftVs (n : Nat) : ∀ xs : List AV, plainFs xs = true → shiftVs n xs = xs
  | [], _ => rfl
  | x :: xs, h => by
    simp only [plainFs, Bool.and_eq_true] at h
    rw [shiftVs, plain_shiftV n x h.1, plain_shiftVs n xs h.2]
theorem plain_shift (n : Nat) (x : AV) (h : plainF x = true) : shift n x = x := by
  cases x
  case tup cs => simp only [plainF, plainS, Bool.false_eq_true] at h
  case agg cs =>
    simp only [plainF] at h
    show AV.agg (shiftVs n cs) = _
    rw [plain_shiftVs n cs h]
  all_goals exact plain_shiftV n _ h
theorem flat_okS {x : AV} (h : flatS x = true) : okS x = true := by
  cases x <;> first | rfl | exact h
theorem flat_okC {x : AV} (h : flatC x = true) : okC x = true := by
  cases x
  case agg cs =>
    simp only [flatC, okC, List.all_eq_true] at h ⊢
    exact fun y hy => flat_okS (h y hy)
  all_goals (simp only [flatC, okC] at h ⊢; exact flat_okS h)
theorem flat_okV {x : AV} (h : flatV x = true) : okV x = true := by
  cases x
  case tup cs =>
    simp only [flatV, okV, List.all_eq_true] at h ⊢
    exact fun y hy => flat_okC (h y hy)
  all_goals (simp only [flatV, okV] at h ⊢; exact flat_okC h)
theorem shift_ok2 {σ1 σ2 : Nat → Option (Option (Nat × Nat))} {F1 F2 : Frozen} {n : Nat} (hS : ∀ id r, σ1 id = some r → σ2 (n + id) = some r) {x : AV} {v : Value} (ho : (okV x || plainF x) = true) (hF : F1 = F2 ∨ flatV x = true) (h : VR ⟨σ1, F1⟩ x v) : VR ⟨σ2, F2⟩ (shift n x) v := by
  by_cases hok : okV x = true
  · exact shift_ok hS hok hF h
  · rcases hF with hF | hF
    · have hp : plainF x = true := by
        rw [Bool.or_eq_true] at ho
        exact ho.resolve_left hok
      rw [plain_shift n x hp]
      exact plainF_ok (S := ⟨σ1, F1⟩) (S' := ⟨σ2, F2⟩) hF.symm x v hp h
    · exact absurd (flat_okV hF) hok
theorem call_ok {f : FuncId} {spec : List AV → Option FOut} (hs : SpecOk P f spec) (hr : Rel W S h w) {xs : List AV} {vs : Array Value} (hx : VRs S xs vs.toList) {out : FOut} (hout : spec (xs.map (vB 6 h)) = some out)
    (hp : plainFs (xs.map (vB 6 h)) = true) (hv : (okV out.v || plainF out.v) = true) (hrow : out.rows.all rowB = true) (hf : flatOut out = true ∨ xs.flatMap (vI 6 h) = []) (ho : allO out.obs) (hob : allO (xs.flatMap (vO 6 h))) {new : Nat}
    (hnew : ∀ id, new ≤ id → id < new + out.rows.length → S.σ id = none) :
    Calls P f vs w fun e w' => ∃ v S', e = .returned v ∧ S.le S' ∧ (∀ b, b < W.heap.size → S'.F b = S.F b) ∧ (∀ id, id ∉ (number new out.rows).map (·.1) → S'.σ id = S.σ id) ∧ Rel W S' (hsets h (number new out.rows)) w' ∧ VR S' (shift new out.v) v := by
  have hle := frz_le hr (xs.flatMap (vI 6 h))
  have hfv := frz_fv hr (xs.flatMap (vI 6 h))
  have hview := plainFs_ok (S := frzS S h (xs.flatMap (vI 6 h)) w) (S' := ⟨fun _ => none, (frzS S h (xs.flatMap (vI 6 h)) w).F⟩) rfl _ _ hp (vBs_of hr 6 (vB_ok hr 6) _ _ hx hob fun _ h => h)
  refine (hs (xs.map (vB 6 h)) out hout ho (frzS S h (xs.flatMap (vI 6 h)) w).F w vs hfv hview).mono ?_
  rintro e w' ⟨v, T, rfl, hT, hTF, hTo, hTσ, hTv⟩
  have hFw : ∀ b o, S.F b = some o → b < w.heap.size := fun b o hb => (Array.getElem?_eq_some_iff.1 (hr.fv b o hb)).1
  -- the new frozen memory
  have key : ∃ F' : Frozen, FLe S.F F' ∧ (∀ b, b < w.heap.size → F' b = S.F b) ∧ FV F' w' ∧ (∀ id g c, alive (hget out.rows id) = true → T.σ id = some (some (g, c)) → F' g = none) ∧
      (∀ id, alive (hget out.rows id) = true → ∀ r, T.σ id = some r → BRel T (hget out.rows id) r w' → BRel ⟨fun i => if new ≤ i ∧ i < new + out.rows.length then T.σ (i - new) else S.σ i, F'⟩ (hget out.rows id) r w') ∧
      (T.F = F' ∨ flatV out.v = true) := by
    rcases hf with hf | hf
    · simp only [flatOut, Bool.and_eq_true] at hf
      refine ⟨S.F, .refl _, fun _ _ => rfl, ?_, ?_, ?_, .inr hf.1⟩
      · intro b o hb
        rw [hT.below.block b (hFw b o hb)]
        exact hr.fv b o hb
      · intro id g c ha hσ
        have := (hT.own id g c ha hσ).1
        cases hS : S.F g with
        | none => rfl
        | some o => have := hFw g o hS; omega
      · intro id ha r hσ hb
        have hfb : flatB (hget out.rows id) = true := List.all_eq_true.1 hf.2 _ (hget_mem _ _ ha).1
        generalize hget out.rows id = b at hb hfb
        cases b <;> simp only [flatB, Bool.false_eq_true] at hfb
        rename_i t K l
        cases r with
        | none => exact hb
        | some p =>
          obtain ⟨g, c⟩ := p
          obtain ⟨cells, h1, h2, h3, h4, h5⟩ := hb
          refine ⟨cells, h1, h2, h3, h4, fun i x hi => ?_⟩
          obtain ⟨us, h6, h7⟩ := h5 i x hi
          exact ⟨us, KR.flat K hfb _ _ h6, h7⟩
    · have hFeq : (frzS S h (xs.flatMap (vI 6 h)) w).F = S.F := by
        funext b
        simp only [frzS, frzF, hf, List.not_mem_nil, false_and, exists_false, if_false]
      rw [hFeq] at hTF hTo
      refine ⟨T.F, hTF, hTo, hT.fv, fun id g c ha hσ => (hT.own id g c ha hσ).2, ?_, .inl rfl⟩
      intro id ha r hσ hb
      have hfb : rowB (hget out.rows id) = true := List.all_eq_true.1 hrow _ (hget_mem _ _ ha).1
      generalize hget out.rows id = b at hb hfb
      cases b <;> simp only [rowB, Bool.false_eq_true] at hfb
      cases r with
      | none => exact hb
      | some p => exact hb
  obtain ⟨F', k1, k2, k3, k4, k5, k6⟩ := key
  have hle' : S.le ⟨fun i => if new ≤ i ∧ i < new + out.rows.length then T.σ (i - new) else S.σ i, F'⟩ := by
    refine ⟨fun id r hid => ?_, k1⟩
    simp only
    split
    · rename_i hc
      rw [hnew id hc.1 hc.2] at hid; cases hid
    · exact hid
  refine ⟨v, ⟨fun i => if new ≤ i ∧ i < new + out.rows.length then T.σ (i - new) else S.σ i, F'⟩, rfl, hle', fun b hb => k2 b (Nat.lt_of_lt_of_le hb hr.below.size), ?_, ?_, ?_⟩
  · intro id hid
    rw [mem_number] at hid
    simp only
    rw [if_neg hid]
  · have hg := hget_number out.rows new h
    refine ⟨hr.below.trans (hT.below.mono hr.below.size), k3, ?_, ?_, ?_⟩
    · intro id ha
      rw [hg] at ha ⊢
      simp only
      by_cases e : new ≤ id ∧ id < new + out.rows.length
      · rw [if_pos e] at ha ⊢
        rw [if_pos e]
        obtain ⟨r, h1, h2⟩ := hT.blk (id - new) ha
        exact ⟨r, h1, k5 _ ha r h1 h2⟩
      · rw [if_neg e] at ha ⊢
        rw [if_neg e]
        obtain ⟨r, h1, h2⟩ := hr.blk id ha
        refine ⟨r, h1, h2.mono hle' fun g c hgc => ?_⟩
        subst hgc
        exact hT.below.block g (h2.lt ha)
    · intro id g c ha hσ
      rw [hg] at ha
      simp only at hσ
      by_cases e : new ≤ id ∧ id < new + out.rows.length
      · rw [if_pos e] at ha hσ
        exact ⟨Nat.le_trans hr.below.size (hT.own _ g c ha hσ).1, k4 _ g c ha hσ⟩
      · rw [if_neg e] at ha hσ
        obtain ⟨h1, h2⟩ := hr.own id g c ha hσ
        obtain ⟨r, h3, h4⟩ := hr.blk id ha
        rw [hσ] at h3
        cases h3
        exact ⟨h1, (k2 g (h4.lt ha)).trans h2⟩
    · intro id id' g c c' ha ha' hσ hσ'
      rw [hg] at ha ha'
      simp only at hσ hσ'
      have old : ∀ {id g c}, alive (hget h id) = true → S.σ id = some (some (g, c)) → g < w.heap.size := by
        intro id g c ha hσ
        obtain ⟨r, h3, h4⟩ := hr.blk id ha
        rw [hσ] at h3
        cases h3
        exact h4.lt ha
      by_cases e : new ≤ id ∧ id < new + out.rows.length <;> by_cases e' : new ≤ id' ∧ id' < new + out.rows.length
      · rw [if_pos e] at ha hσ
        rw [if_pos e'] at ha' hσ'
        have := hT.inj _ _ g c c' ha ha' hσ hσ'
        omega
      · rw [if_pos e] at ha hσ
        rw [if_neg e'] at ha' hσ'
        have h1 := (hT.own _ g c ha hσ).1
        have h2 := old ha' hσ'
        omega
      · rw [if_neg e] at ha hσ
        rw [if_pos e'] at ha' hσ'
        have h1 := (hT.own _ g c' ha' hσ').1
        have h2 := old ha hσ
        omega
      · rw [if_neg e] at ha hσ
        rw [if_neg e'] at ha' hσ'
        exact hr.inj _ _ g c c' ha ha' hσ hσ'
  · refine shift_ok2 (σ1 := T.σ) (F1 := T.F) (fun id r hid => ?_) hv k6 hTv
    have : id < out.rows.length := by
      rcases Nat.lt_or_ge id out.rows.length with hl | hl
      · exact hl
      · rw [hTσ id hl] at hid; cases hid
    show (if new ≤ new + id ∧ new + id < new + out.rows.length then T.σ (new + id - new) else S.σ (new + id)) = some r
    rw [if_pos (by omega), Nat.add_sub_cancel_left]
    exact hid


theorem callsTo_ok {b : AV} {as : List AV} {bv : Value} {avs : Array Value} {g : FuncId} {xs : List AV} (h : callsTo b as = some (g, xs)) (hb : VR S b bv) (ha : VRs S as avs.toList) :
    ∃ first cap : Array Value, bv = .func (.func g) first cap ∧ VRs S xs (first ++ avs ++ cap).toList := by
  unfold callsTo at h
  split at h
  · simp only [Option.some.injEq, Prod.mk.injEq] at h
    obtain ⟨rfl, rfl⟩ := h
    simp only [VR] at hb
    obtain ⟨first, cap, rfl, h1, h2⟩ := hb
    exact ⟨first, cap, rfl, by simpa using VRs.append (VRs.append h1 ha) h2⟩
  · cases h

theorem call_exec {ev : Operand → Value} {o : Oper} {f : Operand} {as : Array Operand} {ts : Array TypeId} {g : FuncId} {first cap : Array Value} (ho : o.op = .call { callee := .value f, args := as, argTypes := ts }) (hf : ev f = .func (.func g) first cap)
    {fn : Func} (h1 : P.funcs[g]? = some fn) (h2 : (fn.name == "runtime.NumGoroutine") = false) (h3 : fn.body.isSome = true) : (execOp ev o).run P w = .ok (.enter g (first ++ as.map ev ++ cap)) w := by
  have h3' : fn.body.isNone = false := by cases hb : fn.body <;> simp_all
  simp only [execOp, ho, resolve, hf, Deferred.ofValue, Sem.run_bind, Sem.run_pure, Result.andThen, invoke, callFunc, run_program, h1, h2, h3', Bool.false_eq_true, if_false]

theorem decN_ok {K : Kd} : ∀ {n : Nat} {cs : List AV} {l : Unit → List K.T} {vs : List Value}, decN K n cs = some l → VRs S cs vs → (l ()).length = n ∧ vs.length = n * K.size ∧ RowAt S.F K vs.toArray (l ())
  | 0, cs, l, vs, h, hv => by
    cases cs <;> simp only [decN, reduceCtorEq] at h
    obtain rfl := Option.some.inj h
    simp only [VRs] at hv
    subst hv
    exact ⟨rfl, by simp, fun i x hx => by simp at hx⟩
  | n + 1, cs, l, vs, h, hv => by
    simp only [decN] at h
    split at h
    · rename_i x r hx
      split at h
      · rename_i l' hl
        obtain rfl := Option.some.inj h
        obtain ⟨v1, v2, rfl, h1, h2⟩ := Kd.dec_ok K _ _ _ _ hx hv
        obtain ⟨h3, h4, h5⟩ := decN_ok hl h2
        have h6 := KR.len _ _ _ h1
        refine ⟨by simp [h3], by rw [List.length_append, h4, h6, Nat.add_mul, Nat.one_mul, Nat.add_comm], ?_⟩
        intro i y hy
        cases i with
        | zero =>
          simp only [List.getElem?_cons_zero, Option.some.injEq] at hy
          subst hy
          refine ⟨v1, h1, fun j v hj => ?_⟩
          have hlt := (List.getElem?_eq_some_iff.1 hj).1
          rw [Nat.zero_mul, Nat.zero_add, List.getElem?_toArray, List.getElem?_append_left hlt]
          exact hj
        | succ i =>
          simp only [List.getElem?_cons_succ] at hy
          obtain ⟨us, h7, h8⟩ := h5 i y hy
          refine ⟨us, h7, fun j v hj => ?_⟩
          have h9 := h8 j v hj
          rw [List.getElem?_toArray] at h9 ⊢
          rw [Nat.add_mul, Nat.one_mul, List.getElem?_append_right (by rw [h6]; omega), h6, show i * K.size + K.size + j - K.size = i * K.size + j by omega]
          exact h9
      · cases h
    · cases h
theorem Chg.refl (w : World) (X : Nat → Prop) : Chg w w X := ⟨rfl, rfl, rfl, Nat.le_refl _, fun _ _ _ => rfl⟩

/-- A step that looks at memory. -/
theorem mop1_ok (hE : EnvOk P E) (hr : Rel W S h w) {ρ : Operand → AV} {a : Act} (hρ : ∀ y, VR S (ρ y) (a.eval y)) {o : Oper} {r : Res} {new : Nat} (hm : mop1 E ρ h new o.op = some r) (ho : allO r.obs)
    (hnew : ∀ id ∈ r.up.map (·.1), new ≤ id → S.σ id = none) {K : Act → World → Prop} {Q : Exit → Act → World → Prop}
    (hK : ∀ v w' S', S.le S' → (∀ b, b < W.heap.size → S'.F b = S.F b) → (∀ id, id ∉ r.up.map (·.1) → S'.σ id = S.σ id) → Rel W S' (hsets h r.up) w' → VR S' r.v v → K (a.put o.dst v) w') : o.wp P a w K Q := by
  have fin : ∀ v w' S', (execOp a.eval o).run P w = .ok (.value v) w' → S.le S' → (∀ b, b < W.heap.size → S'.F b = S.F b) → (∀ id, id ∉ r.up.map (·.1) → S'.σ id = S.σ id) → Rel W S' (hsets h r.up) w' → VR S' r.v v → o.wp P a w K Q := by
    intro v w' S' h1 h2 h3 h4 h5 h6
    unfold Oper.wp
    rw [h1]
    exact hK v w' S' h2 h3 h4 h5 h6
  have hupd : ∀ (n : Nat) (r : Option (Nat × Nat)) (id : Nat), id ≠ n → upd S.σ n r id = S.σ id := by
    intro n r id hne; simp [upd, hne]
  cases hop : o.op <;> rw [hop] at hm <;> simp only [mop1, reduceCtorEq] at hm
  case alloc t =>
    split at hm
    · rename_i row hrow
      obtain rfl := Option.some.inj hm
      have hn : S.σ new = none := hnew new (by simp) (Nat.le_refl _)
      refine fin (.pointer (some ⟨w.heap.size, 0, none⟩)) (w.alloc (.cells row.z.cells t)) ⟨upd S.σ new (some (w.heap.size, 0)), S.F⟩ ?_ (upd_le hn) (fun _ _ => rfl) (fun id hid => hupd _ _ _ (by simpa using hid)) (hr.newBox hn (ofV_cells _)) ?_
      · simp only [execOp, hop]
        exact value_of' (alloc_run hE.rows hrow)
      · simp only [VR]
        exact ⟨w.heap.size, 0, by simp [upd], rfl⟩
    · cases hm
  case box t x =>
    split at hm
    · rename_i hones
      obtain rfl := Option.some.inj hm
      have hn : S.σ new = none := hnew new (by simp) (Nat.le_refl _)
      refine fin (.pointer (some ⟨w.heap.size, 0, none⟩)) (w.alloc (.cells (a.eval x).cells t)) ⟨upd S.σ new (some (w.heap.size, 0)), S.F⟩ ?_ (upd_le hn) (fun _ _ => rfl) (fun id hid => hupd _ _ _ (by simpa using hid)) (hr.newBox hn ((hρ x).cells_ones hones).1) ?_
      · simp only [execOp, hop]
        exact value_of' (box_run t (a.eval x))
      · simp only [VR]
        exact ⟨w.heap.size, 0, by simp [upd], rfl⟩
    · cases hm
  case load t x =>
    obtain ⟨h1, u, h2, h3⟩ := loadA_ok hE.rows hr hm ho (hρ x)
    refine fin u w S ?_ (.refl _) (fun _ _ => rfl) (fun _ _ => rfl) (by rw [h1]; exact hr) h3
    simp only [execOp, hop]
    exact value_of' h2
  case store t x y =>
    obtain ⟨h1, w', S', h2, h3, h6, h4, h5⟩ := storeA_ok hE.rows hr hm ho (hρ x) (hρ y)
    unfold Oper.wp
    have : (execOp a.eval o).run P w = .ok .skip w' := by
      simp only [execOp, hop, Sem.run_bind, h2, Result.andThen, Sem.run_pure]
    rw [this]
    exact hK undef w' S' h3 h6 (fun id _ => by rw [h4]) h5 (by rw [h1]; simp only [VR])
  case buildSlice t n ps =>
    split at hm
    · rename_i e _ _ _ _ ht
      split at hm
      · rename_i _ _ _ _ K he
        split at hm
        · rename_i ys hys
          split at hm
          · rename_i hc
            obtain rfl := Option.some.inj hm
            have hn : S.σ new = none := hnew new (by simp) (Nat.le_refl _)
            obtain ⟨w', S', h1, h2, h2', h3, h4⟩ := buildSlice_ok (vs := ps.map fun (i, x) => (i, a.eval x)) hE.rows hr ht rfl he rfl hys (by simpa using PartsR_map hρ ps.toList) hc.2 ho hc.1 hn
            refine fin (.slice (some ⟨w.heap.size, 0, none⟩) n n) w' S' ?_ h2 h2' (fun id hid => by rw [h3]; exact hupd _ _ _ (fun e => hid (by simp [e]))) h4 ?_
            · simp only [execOp, hop]
              exact value_of' h1
            · simp only [VR]
              exact ⟨some (w.heap.size, n), by rw [h3]; simp [upd], by simp, 0, rfl, .inl (by simp)⟩
          · cases hm
        · cases hm
      · cases hm
    · cases hm
  case slice t x lo hi mx =>
    cases lo <;> cases hi <;> cases mx <;> simp only [mop1, reduceCtorEq] at hm
    split at hm
    · rename_i n e _ _ _ _ ht
      split at hm
      · rename_i _ _ _ _ K he
        split at hm
        · rename_i id hx
          split at hm
          · rename_i T cs hb
            split at hm
            · rename_i l hl
              split at hm
              · rename_i hc
                obtain rfl := Option.some.inj hm
                have hn : S.σ new = none := hnew new (by simp) (Nat.le_refl _)
                have ha : alive (hget h id) = true := by rw [hb]; rfl
                obtain ⟨r, h1, h2⟩ := hr.blk id ha
                rw [hb] at h2
                obtain ⟨g, c, cells, rfl, h3, h4⟩ := h2
                obtain ⟨h5, h6, h7⟩ := decN_ok hl h4
                have hxv := hρ x
                rw [hx] at hxv
                simp only [VR] at hxv
                obtain ⟨g', c', h8, h9⟩ := hxv
                rw [h1] at h8
                obtain ⟨rfl, rfl⟩ : g = g' ∧ c = c' := by simpa using h8
                obtain ⟨desc, h10, h11⟩ := row_under (w := w) hE.rows ht
                obtain rfl := digest_arr h11
                refine fin (.slice (some ⟨g, 0, none⟩) n n) w ⟨upd S.σ new (some (g, n)), S.F⟩ ?_ (upd_le hn) (fun _ _ => rfl) (fun id' hid => hupd _ _ _ (fun e => hid (by simp [e]))) ?_ ?_
                · simp only [execOp, hop]
                  refine value_of' ?_
                  simp [Instr.sliceAt, h10, h9, Instr.sureAddr, Instr.sliceBounds, szIs_size hE.rows hc.2, Result.andThen]
                  exact fun _ => rfl
                · refine hr.move ha h1 hn (Chg.refl _ _) ?_
                  refine ⟨cells, h3, by rw [← h6]; simp, by rw [h5]; exact Nat.le_refl _, by simp only [maxLen]; omega, ?_⟩
                  simpa using h7
                · simp only [VR]
                  exact ⟨some (g, n), by simp [upd], by simp, 0, by simp, .inl (by simp)⟩
              · cases hm
            · cases hm
          · cases hm
        · cases hm
      · cases hm
    · cases hm
  case makeSlice t l c =>
    split at hm
    · rename_i e _ _ _ _ ht
      split at hm
      · rename_i _ _ _ _ K he
        split at hm
        · rename_i k1 n hl
          split at hm
          · rename_i k2 m hc
            obtain rfl := Option.some.inj hm
            have hn : S.σ new = none := hnew new (by simp) (Nat.le_refl _)
            simp only [allO, nI_eq, and_true] at ho
            have hlv := hρ l
            have hcv := hρ c
            rw [hl] at hlv
            rw [hc] at hcv
            simp only [VR] at hlv hcv
            obtain ⟨w', h1, h2⟩ := makeSlice_ok (k1 := k1) (k2 := k2) hE.rows hr ht rfl he rfl ho hn (f := fun _ => List.replicate n.d.toNat K.z) rfl
            refine fin (.slice (some ⟨w.heap.size, 0, none⟩) n.d.toNat n.d.toNat) w' _ ?_ (upd_le hn) (fun _ _ => rfl) (fun id hid => hupd _ _ _ (by simpa using hid)) h2 ?_
            · simp only [execOp, hop]
              rw [hlv, hcv]
              exact value_of' h1
            · simp only [VR]
              exact ⟨some (w.heap.size, n.d.toNat), by simp [upd], by simp, 0, by simp, .inl (by simp)⟩
          · cases hm
        · cases hm
      · cases hm
    · cases hm
  case call c =>
    obtain ⟨callee, args, ats⟩ := c
    cases callee <;> (try simp only [reduceCtorEq] at hm)
    case builtin b =>
      cases b <;> (try simp only [reduceCtorEq] at hm)
      split at hm
      · rename_i s x hargs
        split at hm
        · rename_i t t' hats
          split at hm
          · rename_i htt
            subst htt
            have e1 : args = #[s, x] := by rw [← Array.toArray_toList (xs := args), hargs]
            have e2 : ats = #[t, t] := by rw [← Array.toArray_toList (xs := ats), hats]
            subst e1 e2
            have hexec : ∀ v w', (Builtin.append_ #[t, t] o.type #[a.eval s, a.eval x]).run P w = .ok v w' → (execOp a.eval o).run P w = .ok (.value v) w' := by
              intro v w' hrun
              have : (Builtin.append_ #[t, t] o.type (#[s, x].map a.eval)).run P w = .ok v w' := by simpa using hrun
              simp only [execOp, hop]
              exact value_of' (s := Builtin.append_ #[t, t] o.type (#[s, x].map a.eval)) this
            split at hm
            · rename_i e _ _ _ _ ht
              split at hm
              · rename_i _ _ _ _ K he
                split at hm
                · rename_i l2 hl2
                  have hsv := hρ s
                  split at hm
                  · rename_i hs
                    obtain rfl := Option.some.inj hm
                    have hn : S.σ new = none := hnew new (by simp) (Nat.le_refl _)
                    simp only [allO] at ho
                    rw [hs] at hsv
                    simp only [VR] at hsv
                    obtain ⟨v, w', r, h1, _, h2, h3⟩ := append_empty (ty := o.type) hE.rows hr ht rfl he rfl none (hρ x) hl2 ho.2 ho.1.1 ho.1.2 hn (f := l2) rfl (ln := .t fun _ => (l2 ()).length) rfl
                    refine fin v w' _ (hexec _ _ (by rw [hsv]; exact h1)) (upd_le hn) (fun _ _ => rfl) (fun id hid => hupd _ _ _ (by simpa using hid)) h2 h3
                  · rename_i hs
                    obtain rfl := Option.some.inj hm
                    have hn : S.σ new = none := hnew new (by simp) (Nat.le_refl _)
                    simp only [allO] at ho
                    rw [hs] at hsv
                    simp only [VR] at hsv
                    obtain ⟨A, hsv⟩ := hsv
                    obtain ⟨v, w', r, h1, _, h2, h3⟩ := append_empty (ty := o.type) hE.rows hr ht rfl he rfl A (hρ x) hl2 ho.2 ho.1.1 ho.1.2 hn (f := l2) rfl (ln := .t fun _ => (l2 ()).length) rfl
                    refine fin v w' _ (hexec _ _ (by rw [hsv]; exact h1)) (upd_le hn) (fun _ _ => rfl) (fun id hid => hupd _ _ _ (by simpa using hid)) h2 h3
                  · rename_i id sz len hs
                    split at hm
                    · rename_i T K1 l hg
                      split at hm
                      · rename_i hTe
                        subst hTe
                        split at hm
                        · rename_i l1 hl1
                          obtain rfl := Option.some.inj hm
                          obtain ⟨hKK, hll⟩ := castL_eq hl1
                          subst hKK
                          subst hll
                          have hn : S.σ new = none := hnew new (by simp) (Nat.le_refl _)
                          simp only [allO] at ho
                          rw [hs] at hsv
                          obtain ⟨v, w', r, h1, h2, h3⟩ := append_own (ty := o.type) hE.rows hr ht rfl he rfl hsv hg ho.1.1 (hρ x) hl2 ho.2 ho.1.2.1 ho.1.2.2 hn (f := fun _ => l () ++ l2 ()) rfl (ln := .t fun _ => (l ()).length + (l2 ()).length) rfl
                          refine fin v w' _ (hexec _ _ h1) (upd_le hn) (fun _ _ => rfl) (fun id' hid => hupd _ _ _ (fun e => hid (by simp [e]))) h2 h3
                        · cases hm
                      · cases hm
                    · cases hm
                  · cases hm
                · cases hm
              · cases hm
            · cases hm
          · cases hm
        · cases hm
      · cases hm
    case value f =>
      split at hm
      · rename_i g xs hcall
        split at hm
        · rename_i spec hspec
          split at hm
          · rename_i out hout
            split at hm
            · rename_i hc
              obtain rfl := Option.some.inj hm
              obtain ⟨first, cap, hf, hxs⟩ := callsTo_ok hcall (hρ f) (by simpa using VRs_map hρ args.toList : VRs S (args.toList.map ρ) (args.map a.eval).toList)
              obtain ⟨fn, h1, h2, h3⟩ := (hE.fns g spec hspec).fn
              simp only [allO_append] at ho
              have hcalls := call_ok (hE.fns g spec hspec).ok hr hxs hout hc.1 hc.2.1 hc.2.2.1 hc.2.2.2 ho.1 ho.2 (new := new) (fun id hid hid' => hnew id ((mem_number _ _ _).2 ⟨hid, hid'⟩) hid)
              unfold Oper.wp
              rw [call_exec hop hf h1 h2 h3]
              simp only [Oper.upon]
              refine hcalls.mono ?_
              rintro e w' ⟨v, S', rfl, h4, h5, h6, h7, h8⟩
              exact hK v w' S' h4 h5 h6 h7 h8
            · cases hm
          · cases hm
        · cases hm
      · cases hm

end
end Go.Sx
