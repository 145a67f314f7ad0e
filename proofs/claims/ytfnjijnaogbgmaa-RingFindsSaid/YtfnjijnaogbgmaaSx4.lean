/- A reckoner of Go code over told values: steps that look at no memory are true. -/
import Derived.Test.YtfnjijnaogbgmaaSx3
namespace Go.Sx
open Go Go.RowKit
set_option linter.unusedVariables false
set_option linter.unusedSimpArgs false

-- The zero value of a kind, cell by cell.
mutual
def zOk : Kd → List Value → Option (List Value)
  | .int k, cs => (match cs with | .int k' n :: r => (if k = k' ∧ n = 0 then some r else none) | _ => none)
  | .bool, cs => (match cs with | .bool false :: r => some r | _ => none)
  | .str, cs => (match cs with | .string s :: r => (if s.size = 0 then some r else none) | _ => none)
  | .slice _, cs => (match cs with | .slice none 0 0 :: r => some r | _ => none)
  | .struct fs, cs => zOks fs cs
def zOks : List Kd → List Value → Option (List Value)
  | [], cs => some cs
  | k :: ks, cs => match zOk k cs with | some r => zOks ks r | none => none
end
theorem empty_of_size {s : ByteArray} (h : s.size = 0) : s = ByteArray.empty := by
  cases s with
  | mk d =>
    have : d = #[] := Array.eq_empty_of_size_eq_zero h
    subst this; rfl
mutual
theorem zOk_ok (F : Frozen) : (K : Kd) → (cs r : List Value) → zOk K cs = some r → ∃ v, cs = v ++ r ∧ KR F K K.z v
  | .int k, cs, r, h => by
    simp only [zOk] at h
    split at h
    · split at h
      · rename_i h1
        obtain ⟨rfl, rfl⟩ := h1
        obtain rfl := Option.some.inj h
        exact ⟨[_], rfl, by simp only [KR, Kd.z]⟩
      · cases h
    · cases h
  | .bool, cs, r, h => by
    simp only [zOk] at h
    split at h
    · obtain rfl := Option.some.inj h
      exact ⟨[_], rfl, by simp only [KR, Kd.z]⟩
    · cases h
  | .str, cs, r, h => by
    simp only [zOk] at h
    split at h
    · split at h
      · rename_i h1
        obtain rfl := Option.some.inj h
        exact ⟨[_], rfl, by simp only [KR, Kd.z, empty_of_size h1]⟩
      · cases h
    · cases h
  | .slice e, cs, r, h => by
    simp only [zOk] at h
    split at h
    · obtain rfl := Option.some.inj h
      exact ⟨[_], rfl, by simp only [KR]; exact ⟨none, 0, rfl, Nat.le_refl _, .inl rfl⟩⟩
    · cases h
  | .struct fs, cs, r, h => by
    simp only [zOk] at h
    obtain ⟨v, h1, h2⟩ := zOks_ok F fs cs r h
    exact ⟨v, h1, by simpa only [KR, Kd.z] using h2⟩
theorem zOks_ok (F : Frozen) : (K : List Kd) → (cs r : List Value) → zOks K cs = some r → ∃ v, cs = v ++ r ∧ KRs F K (Kds.z K) v
  | [], cs, r, h => by
    simp only [zOks, Option.some.injEq] at h
    subst h
    exact ⟨[], rfl, by simp only [KRs]⟩
  | k :: ks, cs, r, h => by
    simp only [zOks] at h
    split at h
    · rename_i r' hr
      obtain ⟨v1, h1, h2⟩ := zOk_ok F k _ _ hr
      obtain ⟨v2, h3, h4⟩ := zOks_ok F ks _ _ h
      exact ⟨v1 ++ v2, by rw [h1, h3, List.append_assoc], by simp only [KRs, Kds.z]; exact ⟨v1, v2, rfl, h2, h4⟩⟩
    · cases h
end

structure RowOk (P : Program) (t : TypeId) (r : TRow) : Prop where
  d : ∃ desc, P.underlying t = some desc ∧ digest desc = r.d
  info : ∃ i, P.info? t = some i ∧ i.size = r.size ∧ i.bytes = r.bytes ∧ i.zero = some r.z
  z : r.z.cells.size = r.size
  pos : 0 < r.size
  kd : ∀ K, r.kd = some K → K.size = r.size ∧ zOk K r.z.cells.toList = some []

section
variable {P : Program} {E : Env} {S : Sg} {w : World}

theorem ofS_ok (v : Value) : VR S (ofS v) v := by
  cases v <;> simp only [ofS] <;> try (simp only [VR, SI.d, SB.d]; done)
  case pointer a => cases a <;> simp only [ofS, VR]
  case slice a n c => cases a <;> cases n <;> cases c <;> simp only [ofS, VR]
  case map a => cases a <;> simp only [ofS, VR]
theorem ofSs_ok : ∀ (vs : List Value), VRs S (ofSs vs) vs
  | [] => by simp [ofSs, VRs]
  | v :: vs => ⟨v, vs, rfl, ofS_ok v, ofSs_ok vs⟩
theorem ofV_ok (v : Value) : VR S (ofV v) v := by
  cases v <;> try (simp only [ofV]; exact ofS_ok _)
  case agg cs => simp only [ofV, VR]; exact ⟨cs, rfl, ofSs_ok _⟩
  case tuple cs => simp only [ofV, VR]; exact ⟨cs, rfl, ofSs_ok _⟩
  case func f a b =>
    simp only [ofV]
    split
    · rename_i h
      have h1 : a = #[] := Array.eq_empty_of_size_eq_zero h.1
      have h2 : b = #[] := Array.eq_empty_of_size_eq_zero h.2
      subst h1 h2
      simp only [VR]
      exact ⟨#[], #[], rfl, by simp [VRs], by simp [VRs]⟩
    · simp only [VR]

@[simp] theorem SI.d_map (f : Int → Int) (a : SI) : (SI.map f a).d = f a.d := by cases a <;> rfl
@[simp] theorem SI.d_map2 (f : Int → Int → Int) (a b : SI) : (SI.map2 f a b).d = f a.d b.d := by cases a <;> cases b <;> rfl
@[simp] theorem SI.d_cmp2 (f : Int → Int → Bool) (a b : SI) : (SI.cmp2 f a b).d = f a.d b.d := by cases a <;> cases b <;> rfl
@[simp] theorem SB.d_map (f : Bool → Bool) (a : SB) : (SB.map f a).d = f a.d := by cases a <;> rfl
@[simp] theorem SB.d_map2 (f : Bool → Bool → Bool) (a b : SB) : (SB.map2 f a b).d = f a.d b.d := by cases a <;> cases b <;> rfl
@[simp] theorem SN.d_add (a b : SN) : (SN.add a b).d = a.d + b.d := by
  cases a with
  | l x =>
    cases x with
    | zero => simp [SN.add, SN.d]
    | succ x => cases b <;> simp [SN.add, SN.d]
  | t h =>
    cases b with
    | l y => cases y <;> simp [SN.add, SN.d]
    | t g => simp [SN.add, SN.d]
@[simp] theorem SN.d_sub (a b : SN) : (SN.sub a b).d = a.d - b.d := by
  cases a with
  | l x => cases b <;> simp [SN.sub, SN.d]
  | t h =>
    cases b with
    | l y => cases y <;> simp [SN.sub, SN.d]
    | t g => simp [SN.sub, SN.d]
@[simp] theorem SI.d_toN (a : SI) : a.toN.d = a.d.toNat := by cases a <;> rfl
@[simp] theorem SN.d_toI (a : SN) : a.toI.d = (a.d : Int) := by cases a <;> rfl
@[simp] theorem SI.d_l (n : Int) : (SI.l n).d = n := rfl
@[simp] theorem SI.d_t (f : Unit → Int) : (SI.t f).d = f () := rfl
@[simp] theorem SB.d_l (n : Bool) : (SB.l n).d = n := rfl
@[simp] theorem SB.d_t (f : Unit → Bool) : (SB.t f).d = f () := rfl
@[simp] theorem SN.d_l (n : Nat) : (SN.l n).d = n := rfl
@[simp] theorem SN.d_t (f : Unit → Nat) : (SN.t f).d = f () := rfl

theorem allO_append : ∀ {a b : Obs}, allO (a ++ b) ↔ allO a ∧ allO b
  | [], b => by simp [allO]
  | o :: a, b => by simp only [List.cons_append, allO, allO_append (a := a), and_assoc]

/-- A reckoning without memory. -/
def RunV (P : Program) (w : World) (s : Sem Value) (v : Value) : Prop := s.run P w = .ok v w

/-- The one value of a told scalar. -/
def AV.val : AV → Value
  | .int k n => .int k n.d
  | .bool b => .bool b.d
  | .str s => .string (s ())
  | _ => undef
theorem bin_ok {op : BinOp} {k : IntKind} {a b : SI} {x : AV} {obs : Obs} (h : bin op k a b = some (x, obs)) (ho : allO obs) (t : TypeId) :
    ∃ v, (binOp op t (.int k a.d) (.int k b.d)).run P w = .ok v w ∧ VR S x v := by
  refine ⟨x.val, ?_⟩
  cases op <;> simp only [bin, Option.some.injEq, Prod.mk.injEq, reduceCtorEq] at h <;> obtain ⟨rfl, rfl⟩ := h <;> simp only [allO, nI_eq, and_true] at ho
  case quo => exact ⟨by simp [AV.val, binOp, Op.intDiv, ho], by simp [AV.val, VR]⟩
  case rem => exact ⟨by simp [AV.val, binOp, Op.intDiv, ho], by simp [AV.val, VR]⟩
  all_goals exact ⟨by simp [AV.val, binOp, Op.intArith, Op.intBits, Op.intCmp, bitsI, eqI, neI, ltI, leI], by simp [AV.val, VR]⟩
theorem shft_ok {op : BinOp} {k k' : IntKind} {a b : SI} {x : AV} {obs : Obs} (h : shft op k a b = some (x, obs)) (ho : allO obs) (t : TypeId) :
    ∃ v, (binOp op t (.int k a.d) (.int k' b.d)).run P w = .ok v w ∧ VR S x v := by
  refine ⟨x.val, ?_⟩
  cases op <;> simp only [shft, Option.some.injEq, Prod.mk.injEq, reduceCtorEq] at h <;> obtain ⟨rfl, rfl⟩ := h <;> simp only [allO, nI_eq, and_true] at ho
  all_goals exact ⟨by simp [AV.val, binOp, Op.shift, show ¬ b.d < 0 by omega], by simp [AV.val, VR]⟩

structure EnvRows (P : Program) (E : Env) : Prop where
  rows : ∀ t r, E.row t = some r → RowOk P t r

theorem row_under (hE : EnvRows P E) {t : TypeId} {r : TRow} (h : E.row t = some r) : ∃ desc, (underlying t).run P w = .ok desc w ∧ digest desc = r.d := by
  obtain ⟨desc, h1, h2⟩ := (hE.rows t r h).d
  exact ⟨desc, run_underlying h1 w, h2⟩
theorem row_size (hE : EnvRows P E) {t : TypeId} {r : TRow} (h : E.row t = some r) : (sizeOf t).run P w = .ok r.size w := by
  obtain ⟨i, h1, h2, _⟩ := (hE.rows t r h).info
  simp [sizeOf, typeInfo, h1, h2]
theorem row_zero (hE : EnvRows P E) {t : TypeId} {r : TRow} (h : E.row t = some r) : (zeroValue t).run P w = .ok r.z w := by
  obtain ⟨i, h1, _, _, h2⟩ := (hE.rows t r h).info
  simp [zeroValue, typeInfo, h1, h2]
theorem row_agg (hE : EnvRows P E) {t : TypeId} {r : TRow} (h : E.row t = some r) : (isAgg t).run P w = .ok (isAggD r.d) w := by
  obtain ⟨desc, h1, h2⟩ := row_under (w := w) hE h
  rw [← h2]
  simp only [isAgg, Sem.run_bind, h1, Result.andThen]
  cases desc <;> rfl
theorem digest_bool {d : TypeDesc} (h : digest d = .bool) : d = .bool := by cases d <;> simp [digest] at h; rfl
theorem digest_int {d : TypeDesc} {k : IntKind} (h : digest d = .int k) : d = .int k := by cases d <;> simp [digest] at h; rw [h]
theorem digest_str {d : TypeDesc} (h : digest d = .str) : d = .string := by cases d <;> simp [digest] at h; rfl
theorem digest_ptr {d : TypeDesc} {e : TypeId} (h : digest d = .ptr e) : d = .pointer e := by cases d <;> simp [digest] at h; rw [h]
theorem digest_slice {d : TypeDesc} {e : TypeId} (h : digest d = .slice e) : d = .slice e := by cases d <;> simp [digest] at h; rw [h]
theorem digest_arr {d : TypeDesc} {n : Nat} {e : TypeId} (h : digest d = .arr n e) : d = .array n e := by cases d <;> simp [digest] at h; rw [h.1, h.2]
theorem digest_st {d : TypeDesc} {fs : List (Nat × TypeId)} (h : digest d = .st fs) : ∃ a : Array Field, d = .struct a ∧ a.toList.map (fun f => (f.offset, f.type)) = fs := by
  cases d <;> simp [digest] at h
  exact ⟨_, rfl, h⟩
theorem digest_iface {d : TypeDesc} (h : digest d = .iface) : ∃ ms, d = .interface ms := by cases d <;> simp [digest] at h; exact ⟨_, rfl⟩
theorem digest_fn {d : TypeDesc} (h : digest d = .fn) : ∃ a b c, d = .func a b c := by cases d <;> simp [digest] at h; exact ⟨_, _, _, rfl⟩

theorem eqAV_ok (hE : EnvRows P E) {t : TypeId} {r : TRow} {x y : AV} {b : SB} {vx vy : Value} (hr : E.row t = some r) (h : eqAV E r.d x y = some b) (hx : VR S x vx) (hy : VR S y vy) :
    (Op.equal t vx vy).run P w = .ok b.d w := by
  suffices hs : ∀ d, (Op.equalIn (d + 1) t vx vy).run P w = .ok b.d w from hs 9999
  intro depth
  obtain ⟨desc, h1, h2⟩ := row_under (w := w) hE hr
  cases hd : r.d <;> rw [hd] at h h2 <;> simp only [eqAV, reduceCtorEq] at h
  case bool =>
    obtain rfl := digest_bool h2
    cases x <;> simp only [reduceCtorEq] at h
    cases y <;> simp only [reduceCtorEq, Option.some.injEq] at h
    subst h
    simp only [VR] at hx hy
    subst hx hy
    simp [Op.equalIn, h1, eqBo]
  case iface =>
    obtain ⟨ms, rfl⟩ := digest_iface h2
    cases x <;> simp only [reduceCtorEq] at h <;> cases y <;> simp only [reduceCtorEq, Option.some.injEq] at h <;> subst h <;> simp only [VR] at hx hy
    · obtain ⟨v, rfl, _⟩ := hy; subst hx
      simp [Op.equalIn, h1]
    · obtain ⟨v, rfl, _⟩ := hx; subst hy
      simp [Op.equalIn, h1]
  case fn =>
    obtain ⟨a, c, d, rfl⟩ := digest_fn h2
    cases x <;> simp only [reduceCtorEq] at h <;> cases y <;> simp only [reduceCtorEq, Option.some.injEq] at h <;> subst h <;> simp only [VR] at hx hy
    · subst hx hy
      simp [Op.equalIn, h1]
    · obtain ⟨_, _, rfl, _⟩ := hy; subst hx
      simp [Op.equalIn, h1]
    · obtain ⟨_, _, rfl, _⟩ := hx; subst hy
      simp [Op.equalIn, h1]
  case ptr e =>
    obtain rfl := digest_ptr h2
    cases x <;> simp only [reduceCtorEq] at h
    case nilp =>
      cases y <;> simp only [reduceCtorEq, Option.some.injEq] at h <;> subst h <;> simp only [VR] at hx hy
      · subst hx hy
        simp [Op.equalIn, h1]
      · obtain ⟨_, _, _, rfl⟩ := hy; subst hx
        simp [Op.equalIn, h1]
    case ptr i o =>
      cases y <;> simp only [reduceCtorEq, Option.some.injEq] at h
      case nilp =>
        subst h
        simp only [VR] at hx hy
        obtain ⟨_, _, _, rfl⟩ := hx; subst hy
        simp [Op.equalIn, h1]
      case ptr i' o' =>
        split at h
        · rename_i re hre
          split at h
          · rename_i hc
            obtain ⟨rfl, rfl⟩ := hc
            obtain rfl := Option.some.inj h
            simp only [VR] at hx hy
            obtain ⟨g, c, h3, rfl⟩ := hx
            obtain ⟨g', c', h4, rfl⟩ := hy
            rw [h3] at h4
            obtain ⟨rfl, rfl⟩ : g = g' ∧ c = c' := by simpa using h4
            have h5 := row_size (w := w) hE hre
            have h6 : re.size ≠ 0 := by have := (hE.rows _ _ hre).pos; omega
            simp [Op.equalIn, h1, h5, h6, sameAddr, Result.andThen]
          · cases h
        · cases h

end

end Go.Sx
