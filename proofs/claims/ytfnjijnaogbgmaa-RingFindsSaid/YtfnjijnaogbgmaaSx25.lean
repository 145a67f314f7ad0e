/- A reckoner of Go code over told values: functions without a body; the next byte of a text; loops whose head is met again. -/
import Derived.Test.YtfnjijnaogbgmaaSx23
import Derived.Laws.RangeAny
namespace Go.Sx
open Go Go.RowKit
set_option linter.unusedVariables false
set_option linter.unusedSimpArgs false

def extSame (xs : List AV) : Option (AV × Obs) :=
  match xs with
  | [x] => some (x, [])
  | _ => none
def fbI (s : ByteArray) (c : Int) : Int := firstIdx s c.toNat.toUInt8
def extIndexByte (xs : List AV) : Option (AV × Obs) :=
  match xs with
  | [.str s, .int .u8 c] => some (.int .i64 (.t fun _ => fbI (s ()) c.d), [])
  | _ => none
def extAdd64 (xs : List AV) : Option (AV × Obs) :=
  match xs with
  | [.int .u64 x, .int .u64 y, .int .u64 c] => some (.tup [.int .u64 (.t fun _ => (x.d + y.d + c.d) % 18446744073709551616), .int .u64 (.t fun _ => (x.d + y.d + c.d) / 18446744073709551616)], [fun _ => 0 ≤ x.d ∧ 0 ≤ y.d ∧ 0 ≤ c.d ∧ c.d ≤ 1])
  | _ => none
def borrowI (x y c : Int) : Int := if x < y + c then 1 else 0
def extSub64 (xs : List AV) : Option (AV × Obs) :=
  match xs with
  | [.int .u64 x, .int .u64 y, .int .u64 c] => some (.tup [.int .u64 (.t fun _ => (x.d - y.d - c.d) % 18446744073709551616), .int .u64 (.t fun _ => borrowI x.d y.d c.d)], [fun _ => 0 ≤ x.d ∧ 0 ≤ y.d ∧ y.d < 18446744073709551616 ∧ 0 ≤ c.d ∧ c.d ≤ 1])
  | _ => none
def sub64E : Array Value → Sem Value := fun args => do
  let (x, y, b) ← Extern.MathBitsCarry.three "Sub64" args
  pure (Extern.MathBitsCarry.pair ((x + Extern.MathBitsCarry.m64 - y - b) % Extern.MathBitsCarry.m64) (if x < y + b then 1 else 0))
theorem run_sub64E {P : Program} (x y c : Int) (hx : 0 ≤ x) (hy : 0 ≤ y) (hy2 : y < 18446744073709551616) (hc0 : 0 ≤ c) (hc : c ≤ 1) (w : World) :
    (sub64E #[.int .u64 x, .int .u64 y, .int .u64 c]).run P w = .ok (.tuple #[.int .u64 ((x - y - c) % 18446744073709551616), .int .u64 (borrowI x y c)]) w := by
  have key : ∀ k : Nat, k ≤ 1 → (sub64E #[.int .u64 x, .int .u64 y, .int .u64 (k : Int)]).run P w =
      .ok (Extern.MathBitsCarry.pair ((x.toNat + Extern.MathBitsCarry.m64 - y.toNat - k) % Extern.MathBitsCarry.m64) (if x.toNat < y.toNat + k then 1 else 0)) w := by
    intro k hk
    have : k = 0 ∨ k = 1 := by omega
    rcases this with rfl | rfl <;> rfl
  obtain ⟨k, rfl⟩ := Int.eq_ofNat_of_zero_le hc0
  rw [key k (by omega)]
  obtain ⟨X, rfl⟩ := Int.eq_ofNat_of_zero_le hx
  obtain ⟨Y, rfl⟩ := Int.eq_ofNat_of_zero_le hy
  simp only [Extern.MathBitsCarry.pair, Extern.MathBitsCarry.m64, Int.toNat_natCast, borrowI]
  have e1 : Int.ofNat ((X + 2 ^ 64 - Y - k) % 2 ^ 64) = ((X : Int) - Y - k) % 18446744073709551616 := by
    simp only [Int.ofNat_eq_natCast]; omega
  have e2 : Int.ofNat (if X < Y + k then 1 else 0) = if (X : Int) < Y + k then 1 else 0 := by
    by_cases h : X < Y + k
    · rw [if_pos h, if_pos (by omega)]; rfl
    · rw [if_neg h, if_neg (by omega)]; rfl
  rw [e1, e2]
section
variable {P : Program} {f : FuncId} {fn : Func}
theorem extIndexByte_ok (h1 : P.funcs[f]? = some fn) (h2 : (fn.name == "runtime.NumGoroutine") = false) (h3 : fn.body.isNone = true) (h4 : Extern.findNext fn = none) (h5 : Extern.find fn = some Extern.BytealgIndexByte.indexByte) : ExtOk P f extIndexByte := by
  refine ⟨fn, _, h1, h2, h3, h4, h5, fun S xs vs x obs w h ho hv => ?_⟩
  unfold extIndexByte at h
  split at h
  · simp only [Option.some.injEq, Prod.mk.injEq] at h
    obtain ⟨rfl, rfl⟩ := h
    simp only [VRs, VR] at hv
    obtain ⟨v, vs', h6, rfl, v2, vs2, rfl, rfl, rfl⟩ := hv
    obtain rfl := Array.ext' h6
    exact ⟨_, run_indexByte_string _ _ w, by simp only [VR, SI.d_t, fbI]⟩
  · cases h
theorem tup2_ok {S : Sg} {x y : SI} {k1 k2 : IntKind} {a b : Int} (h1 : x.d = a) (h2 : y.d = b) : VR S (.tup [.int k1 x, .int k2 y]) (.tuple #[.int k1 a, .int k2 b]) := by
  subst h1 h2
  simp only [VR, VRs]
  exact ⟨_, rfl, _, _, rfl, rfl, _, _, rfl, rfl, rfl⟩
theorem three_ok {S : Sg} {k1 k2 k3 : IntKind} {x y c : SI} {vs : Array Value} (hv : VRs S [.int k1 x, .int k2 y, .int k3 c] vs.toList) : vs = #[.int k1 x.d, .int k2 y.d, .int k3 c.d] := by
  simp only [VRs, VR] at hv
  obtain ⟨v1, l1, h1, rfl, v2, l2, rfl, rfl, v3, l3, rfl, rfl, rfl⟩ := hv
  rw [← Array.toArray_toList (xs := vs), h1]
theorem extAdd64_ok (h1 : P.funcs[f]? = some fn) (h2 : (fn.name == "runtime.NumGoroutine") = false) (h3 : fn.body.isNone = true) (h4 : Extern.findNext fn = none) (h5 : Extern.find fn = some add64Entry) : ExtOk P f extAdd64 := by
  refine ⟨fn, _, h1, h2, h3, h4, h5, fun S xs vs x obs w h ho hv => ?_⟩
  unfold extAdd64 at h
  split at h
  · simp only [Option.some.injEq, Prod.mk.injEq] at h
    obtain ⟨rfl, rfl⟩ := h
    obtain rfl := three_ok hv
    simp only [allO] at ho
    obtain ⟨⟨o1, o2, o3, o4⟩, _⟩ := ho
    exact ⟨_, run_add64 _ _ _ o1 o2 o3 o4 w, tup2_ok rfl rfl⟩
  · cases h
theorem extSub64_ok (h1 : P.funcs[f]? = some fn) (h2 : (fn.name == "runtime.NumGoroutine") = false) (h3 : fn.body.isNone = true) (h4 : Extern.findNext fn = none) (h5 : Extern.find fn = some sub64E) : ExtOk P f extSub64 := by
  refine ⟨fn, _, h1, h2, h3, h4, h5, fun S xs vs x obs w h ho hv => ?_⟩
  unfold extSub64 at h
  split at h
  · simp only [Option.some.injEq, Prod.mk.injEq] at h
    obtain ⟨rfl, rfl⟩ := h
    obtain rfl := three_ok hv
    simp only [allO] at ho
    obtain ⟨⟨o1, o2, o3, o4, o5⟩, _⟩ := ho
    exact ⟨_, run_sub64E _ _ _ o1 o2 o3 o4 o5 w, tup2_ok rfl rfl⟩
  · cases h
theorem extSame_ok (h1 : P.funcs[f]? = some fn) (h2 : (fn.name == "runtime.NumGoroutine") = false) (h3 : fn.body.isNone = true) (h4 : Extern.findNext fn = none) (h5 : Extern.find fn = some Extern.AbiNoEscape.same) : ExtOk P f extSame := by
  refine ⟨fn, _, h1, h2, h3, h4, h5, fun S xs vs x obs w h ho hv => ?_⟩
  unfold extSame at h
  split at h
  · simp only [Option.some.injEq, Prod.mk.injEq] at h
    obtain ⟨rfl, rfl⟩ := h
    simp only [VRs] at hv
    obtain ⟨v, vs', h6, h7, rfl⟩ := hv
    have : vs = #[v] := by rw [← Array.toArray_toList (xs := vs), h6]
    subst this
    exact ⟨v, rfl, h7⟩
  · cases h
end

theorem AM.fall2 {P : Program} {G : Gl} {E : Env} {rs : List ResultVar} (hG : GOk P G E rs) {fr : List AV} {h : List Blk} {vs : List AV} {o : Obs} (he : resA E fr h rs = some (vs, o)) (ho : allO o) (hq : G.Q (oneOf vs) h) (hn : isRound rs = false := by rfl) : AM G ⟨fr, h, []⟩ :=
  AM.fall hG (by rw [he]; exact AMQ.mk' ho hq) hn
/-- A truth value is known. -/
theorem AM.sure {G : Gl} (t : Nat) (b : Bool) {f : Unit → Bool} {fr : List AV} {h : List Blk} {k : List It} (hs : get fr t = .bool (.t f)) (hn : f () = b) (h1 : AM G ⟨put fr t (.bool (.l b)), h, k⟩) : AM G ⟨fr, h, k⟩ := by
  refine ⟨fun S a w hc => ?_⟩
  have hv := hc.fr.get t
  rw [hs] at hv
  simp only [VR, SB.d_t] at hv
  exact h1.go S a w ⟨hc.rel, hc.old, hc.le, hc.fresh, hc.fr.one t (by simp only [VR, SB.d_l]; rw [hv, hn]), hc.defers⟩
/-- A loop's head, met again. -/
theorem AM.again {G : Gl} {fr : List AV} {h : List Blk} {b : Code} {k : List It} (h1 : AM G ⟨fr, h, .code (.loop b) :: k⟩) : AM G ⟨fr, h, .lp b :: k⟩ := by
  refine ⟨fun S a w hc => ?_⟩
  have := h1.go S a w hc
  simpa only [wpK] using this

section
variable {G : Gl} {E : Env} {P : Program} {rs : List ResultVar}
/-- The next character of a text. -/
theorem AM.next (hG : GOk P G E rs) {fr : List AV} {h : List Blk} {R rest : List Oper} {o : Oper} {k : List It} {it : Nat} {ty : TypeId} {id : Nat} {s : Unit → ByteArray} {p : Unit → Nat} (hw : wantedA R fr o = .yes) (hop : o.op = .next (.tmp it) true) (hx : get fr it = .ptr id 0) (hb : hget h id = .iter s p) (hid : id < h.length)
    (h1 : p () < (s ()).size → AM G ⟨putO fr o.dst (.tup [.bool (.l true), .int .i64 (.t fun _ => nI (p ())), .int .i32 (.t fun _ => (Utf8.decode (s ()) (p ())).1)]), hset h id (.iter s fun _ => p () + (Utf8.decode (s ()) (p ())).2), .ops R rest :: k⟩)
    (h2 : ¬ p () < (s ()).size → AM G ⟨putO fr o.dst (.tup [.bool (.l false)]), h, .ops R rest :: k⟩) : AM G ⟨fr, h, .ops R (o :: rest) :: k⟩ := by
  refine ⟨fun S a w hcfg => ?_⟩
  simp only [wpK]
  unfold wpListIn
  rw [if_pos (wantedA_yes hcfg.fr hw)]
  refine wpIn_of_wp (by rw [hop]; simp) ?_
  have ha : alive (hget h id) = true := by rw [hb]; rfl
  obtain ⟨r, e1, e2⟩ := hcfg.rel.blk id ha
  rw [hb] at e2
  obtain ⟨g, c, rfl, e3⟩ := e2
  have e4 := hcfg.fr.get it
  rw [hx] at e4
  simp only [VR] at e4
  obtain ⟨g', c', e5, e6⟩ := e4
  rw [e1] at e5
  obtain ⟨rfl, rfl⟩ : g = g' ∧ c = c' := by simpa using e5
  have hg : g < w.heap.size := (Array.getElem?_eq_some_iff.1 e3).1
  unfold Oper.wp
  by_cases hlt : p () < (s ()).size
  · have hrun : (execOp a.eval o).run G.P w = .ok (.value (.tuple #[.bool true, .int .i64 (p () : Int), .int .i32 (Utf8.decode (s ()) (p ())).1])) { w with heap := w.heap.setIfInBounds g (.stringIter (s ()) (p () + (Utf8.decode (s ()) (p ())).2)) } := by
      simp only [execOp, hop]
      refine value_of' ?_
      simp only [Act.eval, e6, Instr.next, getObj, setObj, Sem.run_bind, Sem.run, e3, Result.andThen, hlt, if_true]
      simp [goInt]
    rw [hrun]
    have hch : Chg w { w with heap := w.heap.setIfInBounds g (.stringIter (s ()) (p () + (Utf8.decode (s ()) (p ())).2)) } (fun k => k = g) := by
      refine ⟨rfl, rfl, rfl, by simp, fun k hk hx => ?_⟩
      simp only
      rw [Array.getElem?_setIfInBounds_ne (fun e => hx e.symm)]
    have hrel := hcfg.rel.write ha e1 hch (b := .iter s fun _ => p () + (Utf8.decode (s ()) (p ())).2) ⟨g, c, rfl, by simp [hg]⟩
    have := (h1 hlt).go S _ _ (hcfg.next (us := [(id, .iter s fun _ => p () + (Utf8.decode (s ()) (p ())).2)]) (.refl _) (fun _ _ => rfl) (fun _ _ => rfl) hrel o.dst (v := .tuple #[.bool true, .int .i64 (p () : Int), .int .i32 (Utf8.decode (s ()) (p ())).1]) (by simp [VR, VRs, nI]))
    simp only [wpK] at this
    exact this
  · have hrun : (execOp a.eval o).run G.P w = .ok (.value (.tuple #[.bool false])) w := by
      simp only [execOp, hop]
      refine value_of' ?_
      simp only [Act.eval, e6, Instr.next, getObj, Sem.run_bind, Sem.run, e3, Result.andThen, hlt, if_false]
      simp
    rw [hrun]
    have := (h2 hlt).go S _ _ (hcfg.next (us := []) (.refl _) (fun _ _ => rfl) (fun _ _ => rfl) hcfg.rel o.dst (v := .tuple #[.bool false]) (by simp [VR, VRs]))
    simp only [wpK] at this
    exact this
end

/-! Blocks are numbered anew. -/
def mapN (m : List Nat) (i : Nat) : Nat := (nth m i).getD (m.length + 1000000 + i)
mutual
def ren (m : List Nat) : AV → AV
  | .ptr id o => .ptr (mapN m id) o
  | .rowp id i s f => .rowp (mapN m id) i s f
  | .sl id s o n => .sl (mapN m id) s o n
  | .mp id => .mp (mapN m id)
  | .agg cs => .agg (rens m cs)
  | .fb cs o => .fb (rens m cs) o
  | .tup cs => .tup (rens m cs)
  | .fn f a b => .fn f (rens m a) (rens m b)
  | .iface t x => .iface t (ren m x)
  | .gd g x => .gd g (ren m x)
  | x => x
def rens (m : List Nat) : List AV → List AV
  | [] => []
  | x :: xs => ren m x :: rens m xs
end
def renB (m : List Nat) (b : Blk) : Blk :=
  match b with
  | .box T cs => .box T (rens m cs)
  | b => b
mutual
theorem ren_ok {S S' : Sg} (hF : S'.F = S.F) {m : List Nat} (hm : ∀ id r, S.σ (mapN m id) = some r → S'.σ id = some r) : (x : AV) → (v : Value) → VR S (ren m x) v → VR S' x v
  | .any, v, k => by simp only [VR]
  | .und, v, k => by simpa only [ren, VR] using k
  | .int _ _, v, k => by simpa only [ren, VR] using k
  | .bool _, v, k => by simpa only [ren, VR] using k
  | .str _, v, k => by simpa only [ren, VR] using k
  | .nilp, v, k => by simpa only [ren, VR] using k
  | .nilf, v, k => by simpa only [ren, VR] using k
  | .nili, v, k => by simpa only [ren, VR] using k
  | .nilm, v, k => by simpa only [ren, VR] using k
  | .nils, v, k => by simpa only [ren, VR] using k
  | .e0, v, k => by simpa only [ren, VR] using k
  | .ptr id off, v, k => by
    simp only [ren, VR] at k ⊢
    obtain ⟨g, c, h1, h2⟩ := k
    exact ⟨g, c, hm _ _ h1, h2⟩
  | .rowp id i sz fld, v, k => by
    simp only [ren, VR] at k ⊢
    obtain ⟨g, c, h1, h2⟩ := k
    exact ⟨g, c, hm _ _ h1, h2⟩
  | .fb cs off, v, k => by
    simp only [ren, VR] at k ⊢
    obtain ⟨g, vs, T, h1, h2, h3⟩ := k
    exact ⟨g, vs, T, h1, by rw [hF]; exact h2, rens_ok hF hm _ _ h3⟩
  | .rop K l i fld, v, k => by
    simp only [ren, VR] at k ⊢
    rw [hF]; exact k
  | .sl id sz off len, v, k => by
    simp only [ren, VR] at k ⊢
    obtain ⟨r, h1, h2⟩ := k
    exact ⟨r, hm _ _ h1, h2⟩
  | .mp id, v, k => by
    simp only [ren, VR] at k ⊢
    obtain ⟨g, c, h1, h2⟩ := k
    exact ⟨g, c, hm _ _ h1, h2⟩
  | .ro K l, v, k => by
    simp only [ren, VR] at k ⊢
    rw [hF]; exact k
  | .agg cs, v, k => by
    simp only [ren, VR] at k ⊢
    obtain ⟨vs, h1, h2⟩ := k
    exact ⟨vs, h1, rens_ok hF hm _ _ h2⟩
  | .tup cs, v, k => by
    simp only [ren, VR] at k ⊢
    obtain ⟨vs, h1, h2⟩ := k
    exact ⟨vs, h1, rens_ok hF hm _ _ h2⟩
  | .fn f a b, v, k => by
    simp only [ren, VR] at k ⊢
    obtain ⟨as, bs, h1, h2, h3⟩ := k
    exact ⟨as, bs, h1, rens_ok hF hm _ _ h2, rens_ok hF hm _ _ h3⟩
  | .iface t x, v, k => by
    simp only [ren, VR] at k ⊢
    obtain ⟨y, h1, h2⟩ := k
    exact ⟨y, h1, ren_ok hF hm _ _ h2⟩
  | .gd g x, v, k => by
    simp only [ren, VR] at k ⊢
    exact ⟨fun hg => ren_ok hF hm _ _ (k.1 hg), k.2⟩
theorem rens_ok {S S' : Sg} (hF : S'.F = S.F) {m : List Nat} (hm : ∀ id r, S.σ (mapN m id) = some r → S'.σ id = some r) : (xs : List AV) → (vs : List Value) → VRs S (rens m xs) vs → VRs S' xs vs
  | [], vs, k => by simpa only [rens, VRs] using k
  | x :: xs, vs, k => by
    simp only [rens, VRs] at k ⊢
    obtain ⟨v, vs', h1, h2, h3⟩ := k
    exact ⟨v, vs', h1, ren_ok hF hm _ _ h2, rens_ok hF hm _ _ h3⟩
end
/-- The blocks, as they are numbered anew. -/
def rimps (m : List Nat) (h : List Blk) : Nat → List Blk → Prop
  | _, [] => True
  | i, b' :: h' => bimp (hget h (mapN m i)) (renB m b') ∧ rimps m h (i + 1) h'
def idUpTo : Nat → Nat → List Nat → Bool
  | 0, _, _ => true
  | _ + 1, _, [] => false
  | n + 1, i, a :: as => (a == i) && idUpTo n (i + 1) as
def freshIn (n : Nat) : List Nat → Bool
  | [] => true
  | a :: as => decide (a ≤ n) && freshIn n as
def diff : List Nat → Bool
  | [] => true
  | a :: as => !memN as a && diff as
def renOk (base : Nat) (m : List Nat) (h h' : List Blk) : Bool := idUpTo base 0 m && diff m && (m.length == h'.length) && decide (h.length ≤ 1000000)
theorem nth_inj : ∀ {m : List Nat} {i j a : Nat}, diff m = true → nth m i = some a → nth m j = some a → i = j
  | [], i, j, a, hd, hi, hj => by simp [nth] at hi
  | b :: m, 0, 0, a, hd, hi, hj => rfl
  | b :: m, 0, j + 1, a, hd, hi, hj => by
    simp only [nth, Option.some.injEq] at hi hj
    subst hi
    simp only [diff, Bool.and_eq_true, Bool.not_eq_true'] at hd
    have : b ∈ m := by rw [nth_eq] at hj; exact List.mem_of_getElem? hj
    rw [← memN_iff] at this
    rw [this] at hd
    exact absurd hd.1 (by simp)
  | b :: m, i + 1, 0, a, hd, hi, hj => by
    simp only [nth, Option.some.injEq] at hi hj
    subst hj
    simp only [diff, Bool.and_eq_true, Bool.not_eq_true'] at hd
    have : b ∈ m := by rw [nth_eq] at hi; exact List.mem_of_getElem? hi
    rw [← memN_iff] at this
    rw [this] at hd
    exact absurd hd.1 (by simp)
  | b :: m, i + 1, j + 1, a, hd, hi, hj => by
    simp only [nth] at hi hj
    simp only [diff, Bool.and_eq_true] at hd
    rw [nth_inj hd.2 hi hj]
theorem idUpTo_ok : ∀ {n i : Nat} {m : List Nat} {j : Nat}, idUpTo n i m = true → j < n → nth m j = some (i + j)
  | 0, i, m, j, h, hj => by omega
  | n + 1, i, [], j, h, hj => by simp [idUpTo] at h
  | n + 1, i, a :: m, 0, h, hj => by
    simp only [idUpTo, Bool.and_eq_true, beq_iff_eq] at h
    simp [nth, h.1]
  | n + 1, i, a :: m, j + 1, h, hj => by
    simp only [idUpTo, Bool.and_eq_true] at h
    have := idUpTo_ok h.2 (show j < n by omega)
    simp only [nth]
    rw [this]
    congr 1
    omega
theorem rimps_get {m : List Nat} {h : List Blk} : ∀ {h' : List Blk} {i : Nat}, rimps m h i h' → ∀ j, j < h'.length → bimp (hget h (mapN m (i + j))) (renB m (hget h' j))
  | [], i, hr, j, hj => by simp at hj
  | b' :: h', i, hr, 0, hj => by simpa [hget] using hr.1
  | b' :: h', i, hr, j + 1, hj => by
    have := rimps_get hr.2 j (by simpa using hj)
    rw [show i + 1 + j = i + (j + 1) by omega] at this
    exact this
theorem hget_len : ∀ (h : List Blk) (i : Nat), alive (hget h i) = true → i < h.length
  | [], i, ha => by cases i <;> simp [hget, alive] at ha
  | b :: h, 0, ha => by simp
  | b :: h, i + 1, ha => by have := hget_len h i ha; simp; omega
theorem imps_get : ∀ (fr fr' : List AV), imps fr fr' → fr.length = fr'.length ∧ ∀ i, Sx.imp (get fr i) (get fr' i) := by
  intro fr fr'
  induction fr' generalizing fr with
  | nil =>
    intro hi
    cases fr <;> simp only [imps] at hi
    exact ⟨rfl, fun i => by simp [get, Sx.imp]⟩
  | cons y ys ih =>
    intro hi
    cases fr <;> simp only [imps] at hi
    obtain ⟨h1, h2⟩ := ih _ hi.2
    refine ⟨by simp [h1], fun i => ?_⟩
    cases i with
    | zero => exact hi.1
    | succ i => exact h2 i
theorem rens_get (m : List Nat) : ∀ (fr : List AV) (i : Nat), get (rens m fr) i = ren m (get fr i)
  | [], i => by simp [rens, get, ren]
  | x :: fr, 0 => by simp [rens, get]
  | x :: fr, i + 1 => by simpa [rens, get] using rens_get m fr i
theorem rens_len (m : List Nat) : ∀ (fr : List AV), (rens m fr).length = fr.length
  | [] => rfl
  | x :: fr => by simp [rens, rens_len m fr]
/-- The number below which the caller's blocks lie. -/
structure GB (G : Gl) (n : Nat) : Prop where
  b : ∀ id, n ≤ id → G.S0.σ id = none

theorem ren_cfg {W : World} {S0 S : Sg} {a : Act} {w : World} {base : Nat} (hB : ∀ id, base ≤ id → S0.σ id = none) (m : List Nat) {fr fr' : List AV} {h h' : List Blk} (hm : renOk base m h h' = true) (hf' : Sx.imps fr (rens m fr')) (hh' : rimps m h 0 h') (hc : CfgR W S0 S fr h a w) :
    CfgR W S0 ⟨fun j => if j < m.length then S.σ (mapN m j) else none, S.F⟩ fr' h' a w := by
  simp only [renOk, Bool.and_eq_true, beq_iff_eq, decide_eq_true_eq] at hm
  obtain ⟨⟨⟨hm1, hm2⟩, hm3⟩, hm4⟩ := hm
  obtain ⟨hl2, hg2⟩ := imps_get _ _ hf'
  have hgb := rimps_get hh'
  have key : ∀ j, alive (hget h' j) = true → j < h'.length ∧ bimp (hget h (mapN m j)) (renB m (hget h' j)) ∧ nth m j = some (mapN m j) := by
    intro j ha
    have hj := hget_len _ _ ha
    refine ⟨hj, by simpa using hgb j hj, ?_⟩
    unfold mapN
    cases hn : nth m j with
    | none =>
      rw [nth_eq] at hn
      have := List.getElem?_eq_none_iff.1 hn
      omega
    | some b => rfl
  have hal : ∀ j, alive (hget h' j) = true → alive (hget h (mapN m j)) = true := by
    intro j ha
    have hb := (key j ha).2.1
    cases hg : hget h' j <;> rw [hg] at hb ha <;> simp only [renB] at hb <;> first | (simp [alive] at ha; done) | exact bimp_alive hb rfl
  have hS : ∀ id r, S.σ (mapN m id) = some r → (⟨fun j => if j < m.length then S.σ (mapN m j) else none, S.F⟩ : Sg).σ id = some r := by
    intro id r hr
    simp only
    by_cases hid : id < m.length
    · rw [if_pos hid]; exact hr
    · exfalso
      have hn : nth m id = none := by rw [nth_eq]; exact List.getElem?_eq_none_iff.2 (by omega)
      have := hc.fresh (mapN m id) (by simp only [mapN, hn, Option.getD_none]; omega)
      rw [this] at hr
      cases hr
  have hσ : ∀ j, j < m.length → (⟨fun j => if j < m.length then S.σ (mapN m j) else none, S.F⟩ : Sg).σ j = S.σ (mapN m j) := fun j hj => by simp only; rw [if_pos hj]
  have hBR : ∀ (b : Blk) (r : Option (Nat × Nat)), BRel S (renB m b) r w → BRel ⟨fun j => if j < m.length then S.σ (mapN m j) else none, S.F⟩ b r w := by
    intro b r hb
    cases b with
    | box T cs =>
      obtain ⟨g, c, cells, e1, e2, e3⟩ := hb
      exact ⟨g, c, cells, e1, e2, rens_ok (S := S) (S' := ⟨fun j => if j < m.length then S.σ (mapN m j) else none, S.F⟩) rfl hS _ _ e3⟩
    | dead => exact hb
    | row T K l => exact hb
    | iter s p => exact hb
    | map T K V l => exact hb
    | obj o => exact hb
  refine ⟨⟨hc.rel.below, hc.rel.fv, ?_, ?_, ?_⟩, hc.old, ⟨?_, hc.le.F⟩, ?_, ⟨?_, ?_⟩, Marks.mono (S := S) (S' := ⟨fun j => if j < m.length then S.σ (mapN m j) else none, S.F⟩) (FLe.refl S.F) hc.defers⟩
  · intro j ha
    obtain ⟨hj, hb, _⟩ := key j ha
    obtain ⟨r, e1, e2⟩ := hc.rel.blk _ (hal j ha)
    refine ⟨r, by rw [hσ j (by omega)]; exact e1, hBR _ _ ?_⟩
    have har : alive (renB m (hget h' j)) = true := by cases hg : hget h' j <;> rw [hg] at ha <;> first | (simp [alive] at ha; done) | rfl
    exact (bimp_ok hb har e2).2
  · intro j g c ha e
    obtain ⟨hj, hb, _⟩ := key j ha
    rw [hσ j (by omega)] at e
    exact hc.rel.own _ g c (hal j ha) e
  · intro i j g c c' hai haj e1 e2
    obtain ⟨hi, _, hni⟩ := key i hai
    obtain ⟨hj, _, hnj⟩ := key j haj
    rw [hσ i (by omega)] at e1
    rw [hσ j (by omega)] at e2
    have e := hc.rel.inj _ _ g c c' (hal i hai) (hal j haj) e1 e2
    rw [← e] at hnj
    exact nth_inj hm2 hni hnj
  · intro id r e
    have hid : id < base := by
      apply Nat.lt_of_not_le
      intro hle
      rw [hB id hle] at e
      cases e
    have e1 := idUpTo_ok hm1 hid
    rw [Nat.zero_add] at e1
    have e2 : id < m.length := by rw [nth_eq] at e1; exact (List.getElem?_eq_some_iff.1 e1).1
    rw [hσ id e2]
    simp only [mapN, e1, Option.getD_some]
    exact hc.le.σ id r e
  · intro id hid
    show (if id < m.length then S.σ (mapN m id) else none) = none
    rw [if_neg (by omega)]
  · have e := rens_len m fr'
    rw [hc.fr.size, hl2, e]
  · intro i
    have e := imp_ok _ _ _ (hg2 i) (hc.fr.get i)
    rw [rens_get] at e
    exact ren_ok (S := S) (S' := ⟨fun j => if j < m.length then S.σ (mapN m j) else none, S.F⟩) rfl hS _ _ e

theorem AM.ren {G : Gl} {base : Nat} (hB : GB G base) (m : List Nat) {fr fr' : List AV} {h h' : List Blk} {k : List It} {p q : Prop} (hm : renOk base m h h' = true) (hf : Sx.imps fr (rens m fr') = p) (hh : rimps m h 0 h' = q) (hp : p) (hq : q) (h1 : AM G ⟨fr', h', k⟩) : AM G ⟨fr, h, k⟩ :=
  ⟨fun S a w hc => h1.go _ a w (ren_cfg hB.b m hm (hf ▸ hp) (hh ▸ hq) hc)⟩

/-- A function, with the number below which nothing lies. -/
theorem GB.of {G : Gl} (h : G.S0.σ = fun _ => none) : GB G 0 := ⟨fun id _ => by rw [h]⟩
end Go.Sx
