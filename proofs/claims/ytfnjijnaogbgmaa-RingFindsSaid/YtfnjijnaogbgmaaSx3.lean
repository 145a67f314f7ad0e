/- A reckoner of Go code over told values: what told values stand for. -/
import Derived.Test.YtfnjijnaogbgmaaSx2
namespace Go.Sx
open Go Go.RowKit

abbrev Frozen := Nat → Option Obj
def FV (F : Frozen) (w : World) : Prop := ∀ b o, F b = some o → w.heap[b]? = some o
def FLe (F F' : Frozen) : Prop := ∀ b o, F b = some o → F' b = some o
theorem FLe.refl (F : Frozen) : FLe F F := fun _ _ h => h
theorem FLe.trans {F G H : Frozen} (h : FLe F G) (k : FLe G H) : FLe F H := fun b o x => k b o (h b o x)

/-- Elements of the list l lie at a. -/
def At (F : Frozen) {α : Type} (R : α → List Value → Prop) (size : Nat) (A : Option Addr) (l : List α) : Prop :=
  l = [] ∨ ∃ a cells T fz, A = some a ∧ a.spot = none ∧ F a.block = some (.cells cells T fz) ∧
    ∀ (i : Nat) (x : α), l[i]? = some x → ∃ vs, R x vs ∧ ∀ (j : Nat) (v : Value), vs[j]? = some v → cells[a.off + i * size + j]? = some v

mutual
def KR (F : Frozen) : (K : Kd) → K.T → List Value → Prop
  | .int k, n, vs => vs = [.int k n]
  | .bool, b, vs => vs = [.bool b]
  | .str, s, vs => vs = [.string s]
  | .slice e, l, vs => ∃ A c, vs = [.slice A (List.length (α := e.T) l) c] ∧ List.length (α := e.T) l ≤ c ∧ At F (fun (x : e.T) vs => KR F e x vs) e.size A l
  | .struct fs, x, vs => KRs F fs x vs
def KRs (F : Frozen) : (fs : List Kd) → Kds.T fs → List Value → Prop
  | [], _, vs => vs = []
  | k :: ks, x, vs => ∃ v1 v2, vs = v1 ++ v2 ∧ KR F k x.1 v1 ∧ KRs F ks x.2 v2
end

/-- What is frozen as cells stays so. -/
def FLw (F F' : Frozen) : Prop := ∀ b c T z, F b = some (.cells c T z) → F' b = some (.cells c T z)
theorem FLe.w {F F' : Frozen} (h : FLe F F') : FLw F F' := fun b _ _ _ x => h b _ x
theorem At.monoW {F F' : Frozen} {α : Type} {R R' : α → List Value → Prop} {size : Nat} {A : Option Addr} {l : List α} (h : At F R size A l) (hF : FLw F F') (hR : ∀ x vs, R x vs → R' x vs) : At F' R' size A l := by
  rcases h with h | ⟨a, cells, T, fz, h1, h2, h3, h4⟩
  · exact .inl h
  · refine .inr ⟨a, cells, T, fz, h1, h2, hF _ _ _ _ h3, fun i x hx => ?_⟩
    obtain ⟨vs, h5, h6⟩ := h4 i x hx
    exact ⟨vs, hR _ _ h5, h6⟩
mutual
theorem KR.monoW {F F' : Frozen} (hF : FLw F F') : (K : Kd) → (x : K.T) → (vs : List Value) → KR F K x vs → KR F' K x vs
  | .int k, n, vs, h => by simpa only [KR] using h
  | .bool, n, vs, h => by simpa only [KR] using h
  | .str, n, vs, h => by simpa only [KR] using h
  | .slice e, l, vs, h => by
    simp only [KR] at h ⊢
    obtain ⟨A, c, h1, h2, h3⟩ := h
    exact ⟨A, c, h1, h2, h3.monoW hF fun x vs => KR.monoW hF e x vs⟩
  | .struct fs, x, vs, h => by
    simp only [KR] at h ⊢
    exact KRs.monoW hF fs x vs h
theorem KRs.monoW {F F' : Frozen} (hF : FLw F F') : (K : List Kd) → (x : Kds.T K) → (vs : List Value) → KRs F K x vs → KRs F' K x vs
  | [], _, vs, h => by simpa only [KRs] using h
  | k :: ks, x, vs, h => by
    simp only [KRs] at h ⊢
    obtain ⟨v1, v2, h1, h2, h3⟩ := h
    exact ⟨v1, v2, h1, KR.monoW hF k _ _ h2, KRs.monoW hF ks _ _ h3⟩
end
theorem At.mono {F F' : Frozen} {α : Type} {R R' : α → List Value → Prop} {size : Nat} {A : Option Addr} {l : List α} (h : At F R size A l) (hF : FLe F F') (hR : ∀ x vs, R x vs → R' x vs) : At F' R' size A l := h.monoW hF.w hR
theorem KR.mono {F F' : Frozen} (hF : FLe F F') (K : Kd) (x : K.T) (vs : List Value) (h : KR F K x vs) : KR F' K x vs := KR.monoW hF.w K x vs h
theorem KRs.mono {F F' : Frozen} (hF : FLe F F') (K : List Kd) (x : Kds.T K) (vs : List Value) (h : KRs F K x vs) : KRs F' K x vs := KRs.monoW hF.w K x vs h
mutual
theorem KR.len {F : Frozen} : (K : Kd) → (x : K.T) → (vs : List Value) → KR F K x vs → vs.length = K.size
  | .int k, n, vs, h => by simp only [KR] at h; subst h; rfl
  | .bool, n, vs, h => by simp only [KR] at h; subst h; rfl
  | .str, n, vs, h => by simp only [KR] at h; subst h; rfl
  | .slice e, l, vs, h => by
    simp only [KR] at h
    obtain ⟨A, c, h1, h2, h3⟩ := h
    subst h1; rfl
  | .struct fs, x, vs, h => by
    simp only [KR] at h
    simpa only [Kd.size] using KRs.len fs x vs h
theorem KRs.len {F : Frozen} : (K : List Kd) → (x : Kds.T K) → (vs : List Value) → KRs F K x vs → vs.length = Kds.size K
  | [], _, vs, h => by simp only [KRs] at h; subst h; rfl
  | k :: ks, x, vs, h => by
    simp only [KRs] at h
    obtain ⟨v1, v2, h1, h2, h3⟩ := h
    subst h1
    simp only [List.length_append, Kds.size, KR.len k _ _ h2, KRs.len ks _ _ h3]
end

/-- Where blocks of one's own lie (none: nowhere; some none: an empty row), and what is frozen. -/
structure Sg where
  σ : Nat → Option (Option (Nat × Nat))
  F : Frozen
structure Sg.le (S S' : Sg) : Prop where
  σ : ∀ id r, S.σ id = some r → S'.σ id = some r
  F : FLe S.F S'.F
theorem Sg.le.refl (S : Sg) : S.le S := ⟨fun _ _ h => h, .refl _⟩
theorem Sg.le.trans {S T U : Sg} (h : S.le T) (k : T.le U) : S.le U := ⟨fun i r x => k.σ i r (h.σ i r x), h.F.trans k.F⟩

mutual
def VR (S : Sg) : AV → Value → Prop
  | .any, _ => True
  | .und, v => v = undef
  | .int k n, v => v = .int k n.d
  | .bool b, v => v = .bool b.d
  | .str s, v => v = .string (s ())
  | .nilp, v => v = .pointer none
  | .nilf, v => v = .nilFunc
  | .nili, v => v = .nilIface
  | .nilm, v => v = .map none
  | .nils, v => v = .slice none 0 0
  | .e0, v => ∃ A, v = .slice A 0 0
  | .ptr id off, v => ∃ g c, S.σ id = some (some (g, c)) ∧ v = .pointer (some ⟨g, off, none⟩)
  | .rowp id i sz fld, v => ∃ g c, S.σ id = some (some (g, c)) ∧ v = .pointer (some ⟨g, i.d * sz + fld, none⟩)
  | .rop K l i fld, v => ∃ a, At S.F (fun x vs => KR S.F K x vs) K.size (some a) (l ()) ∧ a.spot = none ∧ v = .pointer (some ⟨a.block, a.off + i.d * K.size + fld, none⟩)
  | .fb cs off, v => ∃ g vs T, v = .pointer (some ⟨g, off, none⟩) ∧ S.F g = some (.cells vs T (0, 0)) ∧ VRs S cs vs.toList
  | .sl id sz off len, v => ∃ r, S.σ id = some r ∧
      match r with
      | none => off.d = 0 ∧ len.d = 0 ∧ ∃ A, v = .slice A 0 0
      | some (g, c) => off.d + len.d ≤ c ∧ ∃ o, v = .slice (some ⟨g, o, none⟩) len.d (c - off.d) ∧ (o = off.d * sz ∨ (off.d = c))
  | .mp id, v => ∃ g c, S.σ id = some (some (g, c)) ∧ v = .map (some g)
  | .ro K l, v => KR S.F (.slice K) (l ()) [v]
  | .agg cs, v => ∃ vs, v = .agg vs ∧ VRs S cs vs.toList
  | .tup cs, v => ∃ vs, v = .tuple vs ∧ VRs S cs vs.toList
  | .fn f a b, v => ∃ as bs, v = .func f as bs ∧ VRs S a as.toList ∧ VRs S b bs.toList
  | .iface t x, v => ∃ y, v = .iface t y ∧ VR S x y
  | .gd g x, v => (g () → VR S x v) ∧ (¬ g () → v = undef)
def VRs (S : Sg) : List AV → List Value → Prop
  | [], vs => vs = []
  | x :: xs, vs => ∃ v vs', vs = v :: vs' ∧ VR S x v ∧ VRs S xs vs'
end

structure Sg.lw (S S' : Sg) : Prop where
  σ : ∀ id r, S.σ id = some r → S'.σ id = some r
  F : FLw S.F S'.F
theorem Sg.le.w {S S' : Sg} (h : S.le S') : S.lw S' := ⟨h.σ, h.F.w⟩
mutual
theorem VR.monoW {S S' : Sg} (h : S.lw S') : (x : AV) → (v : Value) → VR S x v → VR S' x v
  | .any, v, k => by simp only [VR]
  | .und, v, k => by simpa only [VR] using k
  | .int _ _, v, k => by simpa only [VR] using k
  | .bool _, v, k => by simpa only [VR] using k
  | .str _, v, k => by simpa only [VR] using k
  | .nilp, v, k => by simpa only [VR] using k
  | .nilf, v, k => by simpa only [VR] using k
  | .nili, v, k => by simpa only [VR] using k
  | .nilm, v, k => by simpa only [VR] using k
  | .nils, v, k => by simpa only [VR] using k
  | .e0, v, k => by simpa only [VR] using k
  | .ptr id off, v, k => by
    simp only [VR] at k ⊢
    obtain ⟨g, c, h1, h2⟩ := k
    exact ⟨g, c, h.σ _ _ h1, h2⟩
  | .rowp id i sz fld, v, k => by
    simp only [VR] at k ⊢
    obtain ⟨g, c, h1, h2⟩ := k
    exact ⟨g, c, h.σ _ _ h1, h2⟩
  | .fb cs off, v, k => by
    simp only [VR] at k ⊢
    obtain ⟨g, vs, T, h1, h2, h3⟩ := k
    exact ⟨g, vs, T, h1, h.F _ _ _ _ h2, VRs.monoW h _ _ h3⟩
  | .rop K l i fld, v, k => by
    simp only [VR] at k ⊢
    obtain ⟨a, h1, h2⟩ := k
    exact ⟨a, h1.monoW h.F fun x vs => KR.monoW h.F K x vs, h2⟩
  | .sl id sz off len, v, k => by
    simp only [VR] at k ⊢
    obtain ⟨r, h1, h2⟩ := k
    exact ⟨r, h.σ _ _ h1, h2⟩
  | .mp id, v, k => by
    simp only [VR] at k ⊢
    obtain ⟨g, c, h1, h2⟩ := k
    exact ⟨g, c, h.σ _ _ h1, h2⟩
  | .ro K l, v, k => by
    simp only [VR] at k ⊢
    exact KR.monoW h.F _ _ _ k
  | .agg cs, v, k => by
    simp only [VR] at k ⊢
    obtain ⟨vs, h1, h2⟩ := k
    exact ⟨vs, h1, VRs.monoW h cs _ h2⟩
  | .tup cs, v, k => by
    simp only [VR] at k ⊢
    obtain ⟨vs, h1, h2⟩ := k
    exact ⟨vs, h1, VRs.monoW h cs _ h2⟩
  | .fn f a b, v, k => by
    simp only [VR] at k ⊢
    obtain ⟨as, bs, h1, h2, h3⟩ := k
    exact ⟨as, bs, h1, VRs.monoW h a _ h2, VRs.monoW h b _ h3⟩
  | .iface t x, v, k => by
    simp only [VR] at k ⊢
    obtain ⟨y, h1, h2⟩ := k
    exact ⟨y, h1, VR.monoW h x _ h2⟩
  | .gd g x, v, k => by
    simp only [VR] at k ⊢
    exact ⟨fun hg => VR.monoW h x _ (k.1 hg), k.2⟩
theorem VRs.monoW {S S' : Sg} (h : S.lw S') : (x : List AV) → (v : List Value) → VRs S x v → VRs S' x v
  | [], v, k => by simpa only [VRs] using k
  | x :: xs, v, k => by
    simp only [VRs] at k ⊢
    obtain ⟨y, ys, h1, h2, h3⟩ := k
    exact ⟨y, ys, h1, VR.monoW h x _ h2, VRs.monoW h xs _ h3⟩
end

theorem VR.mono {S S' : Sg} (h : S.le S') (x : AV) (v : Value) (k : VR S x v) : VR S' x v := VR.monoW h.w x v k
theorem VRs.mono {S S' : Sg} (h : S.le S') (xs : List AV) (vs : List Value) (k : VRs S xs vs) : VRs S' xs vs := VRs.monoW h.w xs vs k
theorem VRs.length {S : Sg} : ∀ {xs : List AV} {vs : List Value}, VRs S xs vs → vs.length = xs.length
  | [], vs, h => by simp only [VRs] at h; subst h; rfl
  | x :: xs, vs, h => by
    simp only [VRs] at h
    obtain ⟨y, ys, rfl, _, h3⟩ := h
    simp only [List.length_cons, VRs.length h3]
theorem VRs.nth {S : Sg} : ∀ {xs : List AV} {vs : List Value} {i : Nat} {x : AV}, VRs S xs vs → nth xs i = some x → ∃ v, vs[i]? = some v ∧ VR S x v
  | [], vs, i, x, h, hn => by simp [Sx.nth] at hn
  | y :: ys, vs, 0, x, h, hn => by
    simp only [VRs] at h
    obtain ⟨v, vs', rfl, h2, h3⟩ := h
    simp only [Sx.nth, Option.some.injEq] at hn
    subst hn
    exact ⟨v, rfl, h2⟩
  | y :: ys, vs, i + 1, x, h, hn => by
    simp only [VRs] at h
    obtain ⟨v, vs', rfl, h2, h3⟩ := h
    simp only [Sx.nth] at hn
    obtain ⟨w, h4, h5⟩ := VRs.nth h3 hn
    exact ⟨w, by simpa using h4, h5⟩
theorem VRs.append {S : Sg} : ∀ {xs ys : List AV} {vs us : List Value}, VRs S xs vs → VRs S ys us → VRs S (xs ++ ys) (vs ++ us)
  | [], ys, vs, us, h, k => by simp only [VRs] at h; subst h; simpa using k
  | x :: xs, ys, vs, us, h, k => by
    simp only [VRs] at h
    obtain ⟨v, vs', rfl, h2, h3⟩ := h
    exact ⟨v, vs' ++ us, rfl, h2, VRs.append h3 k⟩
theorem VRs.cut {S : Sg} : ∀ {xs : List AV} {vs : List Value} {off n : Nat} {ys : List AV}, VRs S xs vs → cut xs off n = some ys → VRs S ys ((vs.drop off).take n) ∧ off + n ≤ vs.length
  | xs, vs, 0, 0, ys, h, hc => by
    have : ys = [] := by cases xs <;> simp_all [Sx.cut]
    subst this
    simp [VRs]
  | [], vs, 0, n + 1, ys, h, hc => by simp [Sx.cut] at hc
  | [], vs, o + 1, n, ys, h, hc => by simp [Sx.cut] at hc
  | x :: xs, vs, 0, n + 1, ys, h, hc => by
    simp only [VRs] at h
    obtain ⟨v, vs', rfl, h2, h3⟩ := h
    simp only [Sx.cut] at hc
    split at hc
    · rename_i r hr
      obtain rfl := Option.some.inj hc
      have := VRs.cut h3 hr
      simp only [List.drop_zero] at this
      refine ⟨⟨v, _, rfl, h2, this.1⟩, by have := this.2; simp only [List.length_cons]; omega⟩
    · cases hc
  | x :: xs, vs, o + 1, n, ys, h, hc => by
    simp only [VRs] at h
    obtain ⟨v, vs', rfl, h2, h3⟩ := h
    simp only [Sx.cut] at hc
    have := VRs.cut h3 hc
    exact ⟨by simpa using this.1, by have := this.2; simp only [List.length_cons]; omega⟩
/-- What splice does, on any list. -/
def spliceV : List Value → Nat → List Value → List Value
  | cs, 0, [] => cs
  | [], 0, _ :: _ => []
  | _ :: cs, 0, x :: xs => x :: spliceV cs 0 xs
  | [], _ + 1, _ => []
  | c :: cs, n + 1, xs => c :: spliceV cs n xs
theorem spliceV_length : ∀ (cs : List Value) (off : Nat) (xs : List Value), (spliceV cs off xs).length = cs.length
  | cs, 0, [] => by cases cs <;> rfl
  | [], 0, _ :: _ => rfl
  | _ :: cs, 0, x :: xs => by simp [spliceV, spliceV_length cs 0 xs]
  | [], _ + 1, _ => rfl
  | c :: cs, n + 1, xs => by simp [spliceV, spliceV_length cs n xs]
theorem spliceV_get : ∀ (cs : List Value) (off : Nat) (xs : List Value) (i : Nat), off + xs.length ≤ cs.length → (spliceV cs off xs)[i]? = if off ≤ i ∧ i < off + xs.length then xs[i - off]? else cs[i]?
  | cs, 0, [], i, h => by cases cs <;> simp [spliceV]
  | [], 0, _ :: _, i, h => by simp at h
  | c :: cs, 0, x :: xs, 0, h => by simp [spliceV]
  | c :: cs, 0, x :: xs, i + 1, h => by
    simp only [spliceV, List.getElem?_cons_succ]
    rw [spliceV_get cs 0 xs i (by simpa using h)]
    simp
  | [], n + 1, xs, i, h => by simp at h
  | c :: cs, n + 1, xs, 0, h => by simp [spliceV]
  | c :: cs, n + 1, xs, i + 1, h => by
    simp only [spliceV, List.getElem?_cons_succ]
    rw [spliceV_get cs n xs i (by simp at h; omega)]
    have e : n + 1 + xs.length = n + xs.length + 1 := by omega
    simp only [e, Nat.add_le_add_iff_right, Nat.add_lt_add_iff_right, Nat.add_sub_add_right]
theorem VRs.splice {S : Sg} : ∀ {xs : List AV} {vs : List Value} {off : Nat} {ys : List AV} {us : List Value} {zs : List AV}, VRs S xs vs → VRs S ys us → splice xs off ys = some zs → VRs S zs (spliceV vs off us) ∧ off + us.length ≤ vs.length
  | xs, vs, 0, [], us, zs, h, k, hs => by
    simp only [VRs] at k
    subst k
    have : zs = xs := by cases xs <;> simp_all [Sx.splice]
    subst this
    exact ⟨by cases vs <;> simpa [spliceV] using h, by simp⟩
  | [], vs, 0, y :: ys, us, zs, h, k, hs => by simp [Sx.splice] at hs
  | [], vs, n + 1, ys, us, zs, h, k, hs => by simp [Sx.splice] at hs
  | x :: xs, vs, 0, y :: ys, us, zs, h, k, hs => by
    simp only [VRs] at h k
    obtain ⟨v, vs', rfl, h2, h3⟩ := h
    obtain ⟨u, us', rfl, k2, k3⟩ := k
    simp only [Sx.splice] at hs
    split at hs
    · rename_i r hr
      obtain rfl := Option.some.inj hs
      have := VRs.splice h3 k3 hr
      exact ⟨⟨u, _, rfl, k2, this.1⟩, by have := this.2; simp only [List.length_cons]; omega⟩
    · cases hs
  | x :: xs, vs, n + 1, ys, us, zs, h, k, hs => by
    simp only [VRs] at h
    obtain ⟨v, vs', rfl, h2, h3⟩ := h
    simp only [Sx.splice] at hs
    split at hs
    · rename_i r hr
      obtain rfl := Option.some.inj hs
      have := VRs.splice h3 k hr
      exact ⟨⟨v, _, rfl, h2, this.1⟩, by have := this.2; simp only [List.length_cons]; omega⟩
    · cases hs

theorem VR.cells {S : Sg} {x : AV} {v : Value} (h : VR S x v) (hx : x.cells = [x] → (∀ cs, v ≠ .agg cs)) : VRs S x.cells v.cells.toList := by
  cases x
  case agg cs =>
    simp only [VR] at h
    obtain ⟨vs, rfl, h⟩ := h
    simpa [AV.cells, Value.cells] using h
  all_goals
    have hn := hx rfl
    have : v.cells = #[v] := by cases v <;> first | rfl | exact absurd rfl (hn _)
    rw [this]
    exact ⟨v, [], rfl, h, rfl⟩

theorem VR.one {S : Sg} {x : AV} {v : Value} (h : VR S x v) (hx : x.one = true) : v.oneCell' = true := by
  cases x <;> simp only [AV.one, Bool.false_eq_true] at hx <;> simp only [VR] at h
  case int => subst h; rfl
  case bool => subst h; rfl
  case str => subst h; rfl
  case nilp => subst h; rfl
  case nilf => subst h; rfl
  case nili => subst h; rfl
  case nilm => subst h; rfl
  case nils => subst h; rfl
  case e0 => obtain ⟨A, rfl⟩ := h; rfl
  case ptr => obtain ⟨g, c, _, rfl⟩ := h; rfl
  case rowp => obtain ⟨g, c, _, rfl⟩ := h; rfl
  case mp => obtain ⟨g, c, _, rfl⟩ := h; rfl
  case rop => obtain ⟨a, _, _, rfl⟩ := h; rfl
  case fb => obtain ⟨g, vs, T, rfl, _⟩ := h; rfl
  case sl =>
    obtain ⟨r, _, h⟩ := h
    cases r with
    | none => obtain ⟨_, _, A, rfl⟩ := h; rfl
    | some p => obtain ⟨_, o, rfl, _⟩ := h; rfl
  case ro =>
    simp only [KR] at h
    obtain ⟨A, c, h1, _⟩ := h
    simp only [List.cons.injEq, and_true] at h1
    subst h1; rfl
  case fn => obtain ⟨as, bs, rfl, _⟩ := h; rfl
  case iface => obtain ⟨y, rfl, _⟩ := h; rfl
theorem VRs.ones {S : Sg} : ∀ {xs : List AV} {vs : List Value}, VRs S xs vs → Sx.ones xs = true → ∀ u ∈ vs, u.oneCell' = true
  | [], vs, h, _ => by simp only [VRs] at h; subst h; simp
  | x :: xs, vs, h, ho => by
    simp only [VRs] at h
    obtain ⟨v, vs', rfl, h2, h3⟩ := h
    simp only [Sx.ones, Bool.and_eq_true] at ho
    intro u hu
    rcases List.mem_cons.1 hu with rfl | hu
    · exact h2.one ho.1
    · exact VRs.ones h3 ho.2 u hu
/-- The cells of a value that may be stored. -/
theorem VR.cells_ones {S : Sg} {x : AV} {v : Value} (h : VR S x v) (ho : Sx.ones x.cells = true) : VRs S x.cells v.cells.toList ∧ ∀ u ∈ v.cells.toList, u.oneCell' = true := by
  have k : VRs S x.cells v.cells.toList := by
    refine h.cells fun e cs hc => ?_
    rw [e] at ho
    simp only [Sx.ones, Bool.and_true] at ho
    have := h.one ho
    rw [hc] at this
    simp [Value.oneCell'] at this
  exact ⟨k, k.ones ho⟩

end Go.Sx
