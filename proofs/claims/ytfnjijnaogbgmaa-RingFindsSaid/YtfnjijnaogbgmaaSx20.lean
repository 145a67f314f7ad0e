/- A reckoner of Go code over told values: functions as plain functions of data. -/
import Derived.Test.YtfnjijnaogbgmaaSx19
namespace Go.Sx
open Go Go.RowKit
set_option linter.unusedVariables false
set_option linter.unusedSimpArgs false

def bimp (b b' : Blk) : Prop :=
  match b' with
  | .dead => True
  | .box T' cs' => (match b with | .box T cs => T = T' ∧ imps cs cs' | _ => False)
  | .row T' K' l' => (match b with | .row T K l => T = T' ∧ (match castL K K' l with | some l2 => Eqq l2 l' | none => False) | _ => False)
  | .iter s' p' => (match b with | .iter s p => Eqq s s' ∧ Eqq p p' | _ => False)
  | .obj o' => (match b with | .obj o => Eqq o o' | _ => False)
  | .map T' K' V' l' => (match b with | .map T K V l => T = T' ∧ (if h : K.same K' = true ∧ V.same V' = true then Eqq (Kd.eq_of_same K K' h.1 ▸ Kd.eq_of_same V V' h.2 ▸ l) l' else False) | _ => False)
def himps : List Blk → List Blk → Prop
  | h, h' =>
    match h' with
    | [] => (match h with | [] => True | _ => False)
    | b' :: h' => (match h with | b :: h => bimp b b' ∧ himps h h' | _ => False)
theorem himps_get : ∀ (h h' : List Blk), himps h h' → h.length = h'.length ∧ ∀ id, bimp (hget h id) (hget h' id)
  | h, [], hh => by
    cases h <;> simp only [himps] at hh
    exact ⟨rfl, fun id => by simp [hget, bimp]⟩
  | h, b' :: h', hh => by
    cases h <;> simp only [himps] at hh
    obtain ⟨h1, h2⟩ := himps_get _ h' hh.2
    refine ⟨by simp [h1], fun id => ?_⟩
    cases id with
    | zero => exact hh.1
    | succ id => exact h2 id
theorem bimp_ok {S : Sg} {b b' : Blk} {r : Option (Nat × Nat)} {w : World} (h : bimp b b') (ha : alive b' = true) (hb : BRel S b r w) : alive b = true ∧ BRel S b' r w := by
  cases b' with
  | dead => simp [alive] at ha
  | box T' cs' =>
    cases b <;> simp only [bimp] at h
    obtain ⟨rfl, h⟩ := h
    obtain ⟨g, c, cells, h1, h2, h3⟩ := hb
    exact ⟨rfl, g, c, cells, h1, h2, imps_ok _ _ _ h h3⟩
  | row T' K' l' =>
    cases b <;> simp only [bimp] at h
    obtain ⟨rfl, h⟩ := h
    split at h
    · rename_i l2 hl
      obtain ⟨he, hl⟩ := castL_eq hl
      subst he
      subst hl
      refine ⟨rfl, ?_⟩
      cases r with
      | none => simp only [BRel] at hb ⊢; rw [← h.out]; exact hb
      | some p => obtain ⟨g, c⟩ := p; simp only [BRel] at hb ⊢; rw [← h.out]; exact hb
    · exact h.elim
  | iter s' p' =>
    cases b <;> simp only [bimp] at h
    obtain ⟨g, c, h1, h2⟩ := hb
    exact ⟨rfl, g, c, h1, by rw [← h.1.out, ← h.2.out]; exact h2⟩
  | obj o' =>
    cases b <;> simp only [bimp] at h
    obtain ⟨g, c, h1, h2⟩ := hb
    exact ⟨rfl, g, c, h1, by rw [← h.out]; exact h2⟩
  | map T' K' V' l' =>
    cases b <;> simp only [bimp] at h
    rename_i T K V l
    obtain ⟨rfl, h⟩ := h
    split at h
    · rename_i hs
      obtain ⟨g, c, es, h1, h2, h3⟩ := hb
      refine ⟨rfl, g, c, es, h1, h2, ?_⟩
      have e1 := Kd.eq_of_same K K' hs.1
      have e2 := Kd.eq_of_same V V' hs.2
      subst e1
      subst e2
      rw [← h.out]
      exact h3
    · exact h.elim
theorem bimp_alive {b b' : Blk} (h : bimp b b') (ha : alive b' = true) : alive b = true := by
  cases b' <;> cases b <;> simp_all [bimp, alive]

theorem AM.imp {G : Gl} {fr fr' : List AV} {h h' : List Blk} {k : List It} (hf : imps fr fr') (hh : himps h h') (h1 : AM G ⟨fr', h', k⟩) : AM G ⟨fr, h, k⟩ := by
  refine ⟨fun S a w hc => ?_⟩
  obtain ⟨hl, hg⟩ := himps_get h h' hh
  have hfr : ∀ (fr fr' : List AV), imps fr fr' → fr.length = fr'.length ∧ ∀ i, Sx.imp (get fr i) (get fr' i) := by
    intro fr fr'
    induction fr' generalizing fr with
    | nil =>
      intro hi
      cases fr <;> simp only [imps] at hi
      exact ⟨rfl, fun i => by simp [get, Sx.imp]⟩
    | cons y ys ih =>
      intro hi
      cases fr <;> simp only [imps] at hi
      obtain ⟨h1, h2⟩ := ih _ hi.2
      refine ⟨by simp [h1], fun i => ?_⟩
      cases i with
      | zero => exact hi.1
      | succ i => exact h2 i
  obtain ⟨hl2, hg2⟩ := hfr fr fr' hf
  refine h1.go S a w ⟨⟨hc.rel.below, hc.rel.fv, ?_, ?_, ?_⟩, hc.old, hc.le, by rw [← hl]; exact hc.fresh, ⟨by rw [← hl2]; exact hc.fr.size, fun i => imp_ok _ _ _ (hg2 i) (hc.fr.get i)⟩, hc.defers⟩
  · intro id ha
    obtain ⟨r, h3, h4⟩ := hc.rel.blk id (bimp_alive (hg id) ha)
    exact ⟨r, h3, (bimp_ok (hg id) ha h4).2⟩
  · intro id g c ha hσ
    exact hc.rel.own id g c (bimp_alive (hg id) ha) hσ
  · intro id id' g c c' ha ha' hσ hσ'
    exact hc.rel.inj id id' g c c' (bimp_alive (hg id) ha) (bimp_alive (hg id') ha') hσ hσ'

/-! Functions of data. -/
def encArgs : (Ks : List Kd) → (Unit → Kds.T Ks) → List AV
  | [], _ => []
  | K :: Ks, x => encArg K (fun _ => (x ()).1) :: encArgs Ks (fun _ => (x ()).2)
def decArgs : (Ks : List Kd) → List AV → Option (Unit → Kds.T Ks)
  | [], xs => (match xs with | [] => some fun _ => () | _ => none)
  | K :: Ks, xs =>
    (match xs with
     | x :: xs => (match decArg K x with
       | some y => (match decArgs Ks xs with | some ys => some fun _ => (y (), ys ()) | none => none)
       | none => none)
     | _ => none)
def encRes (Ks : List Kd) (x : Unit → Kds.T Ks) : AV := oneOf (encArgs Ks x)

theorem encArg_ok {S : Sg} {K : Kd} {x : AV} {y : Unit → K.T} {v : Value} (h : decArg K x = some y) (hv : VR S x v) : VR S (encArg K y) v := by
  cases K with
  | struct fs =>
    cases x <;> simp only [decArg, reduceCtorEq] at h
    split at h
    · rename_i z hz
      obtain rfl := Option.some.inj h
      simp only [VR] at hv
      obtain ⟨vs, rfl, hvs⟩ := hv
      simp only [encArg, VR]
      refine ⟨vs, rfl, ?_⟩
      obtain ⟨v1, v2, h1, h2, h3⟩ := Kds.dec_ok fs _ _ _ _ hz hvs
      simp only [VRs] at h3
      subst h3
      rw [h1, List.append_nil]
      exact KRs.enc fs z v1 h2
    · cases h
  | int k =>
    simp only [decArg] at h
    split at h
    · rename_i z hz
      obtain rfl := Option.some.inj h
      have := Kd.dec_all (S := S) hz ⟨v, [], rfl, hv, by simp only [VRs]⟩
      have := KR.enc (S := S) _ _ _ this
      simp only [Kd.enc, VRs] at this
      obtain ⟨u, us, h1, h2, _⟩ := this
      cases h1
      exact h2
    · cases h
  | bool =>
    simp only [decArg] at h
    split at h
    · rename_i z hz
      obtain rfl := Option.some.inj h
      have := Kd.dec_all (S := S) hz ⟨v, [], rfl, hv, by simp only [VRs]⟩
      have := KR.enc (S := S) _ _ _ this
      simp only [Kd.enc, VRs] at this
      obtain ⟨u, us, h1, h2, _⟩ := this
      cases h1
      exact h2
    · cases h
  | str =>
    simp only [decArg] at h
    split at h
    · rename_i z hz
      obtain rfl := Option.some.inj h
      have := Kd.dec_all (S := S) hz ⟨v, [], rfl, hv, by simp only [VRs]⟩
      have := KR.enc (S := S) _ _ _ this
      simp only [Kd.enc, VRs] at this
      obtain ⟨u, us, h1, h2, _⟩ := this
      cases h1
      exact h2
    · cases h
  | slice e =>
    simp only [decArg] at h
    split at h
    · rename_i z hz
      obtain rfl := Option.some.inj h
      have := Kd.dec_all (S := S) hz ⟨v, [], rfl, hv, by simp only [VRs]⟩
      have := KR.enc (S := S) _ _ _ this
      simp only [Kd.enc, VRs] at this
      obtain ⟨u, us, h1, h2, _⟩ := this
      cases h1
      exact h2
    · cases h
theorem encArgs_ok {S : Sg} : ∀ {Ks : List Kd} {xs : List AV} {y : Unit → Kds.T Ks} {vs : List Value}, decArgs Ks xs = some y → VRs S xs vs → VRs S (encArgs Ks y) vs
  | [], xs, y, vs, h, hv => by
    cases xs <;> simp only [decArgs, reduceCtorEq] at h
    simpa only [encArgs] using hv
  | K :: Ks, xs, y, vs, h, hv => by
    cases xs with
    | nil => simp only [decArgs, reduceCtorEq] at h
    | cons x xs =>
      simp only [decArgs] at h
      split at h
      · rename_i z hz
        split at h
        · rename_i zs hzs
          obtain rfl := Option.some.inj h
          simp only [VRs] at hv
          obtain ⟨v, vs', rfl, h1, h2⟩ := hv
          simp only [encArgs]
          exact ⟨v, vs', rfl, encArg_ok hz h1, encArgs_ok hzs h2⟩
        · cases h
      · cases h

/-- A function that gives S of its arguments, however these are told. -/
def decSpec {X : Type} (dec : List AV → Option (Unit → X)) (rsig : List Kd) (S : X → Kds.T rsig) (pre : X → Prop) (xs : List AV) : Option FOut :=
  match dec xs with
  | some x => some ⟨encRes rsig (fun _ => S (x ())), [], [fun _ => pre (x ())]⟩
  | none => none
/-- A function that gives S of its arguments, where pre holds. -/
def sigSpec (sig rsig : List Kd) (S : Kds.T sig → Kds.T rsig) (pre : Kds.T sig → Prop) (xs : List AV) : Option FOut := decSpec (decArgs sig) rsig S pre xs

def viewT (h : List Blk) (x : AV) : AV :=
  match x with
  | .tup cs => .tup (views h cs)
  | x => view h x
def partsT (x : AV) : List AV :=
  match x with
  | .tup cs => parts cs
  | x => parts1 x
/-- What stands at the end is what was told. -/
structure FinRo (v x : AV) (h : List Blk) : Prop where
  obs : AO (slObss h (partsT x))
  same : imp (viewT h x) v

def anys : Nat → List AV
  | 0 => []
  | n + 1 => .any :: anys n
theorem anys_get : ∀ (n i : Nat), get (anys n) i = .any
  | 0, i => rfl
  | n + 1, 0 => rfl
  | n + 1, i + 1 => anys_get n i
theorem anys_length : ∀ n, (anys n).length = n
  | 0 => rfl
  | n + 1 => by simp [anys, anys_length n]
def app : List AV → List AV → List AV
  | [], ys => ys
  | x :: xs, ys => x :: app xs ys
theorem app_eq : ∀ xs ys, app xs ys = xs ++ ys
  | [], ys => rfl
  | x :: xs, ys => by simp [app, app_eq xs ys]
theorem VRs.getD {S : Sg} : ∀ {xs : List AV} {vs : List Value} (i : Nat), VRs S xs vs → VR S (get xs i) (vs.getD i undef)
  | [], vs, i, h => by simp [get, VR]
  | x :: xs, vs, 0, h => by
    simp only [VRs] at h
    obtain ⟨v, vs', rfl, h1, h2⟩ := h
    simpa [get] using h1
  | x :: xs, vs, i + 1, h => by
    simp only [VRs] at h
    obtain ⟨v, vs', rfl, h1, h2⟩ := h
    simpa [get] using VRs.getD i h2

theorem plain_encArg {K : Kd} (x : Unit → K.T) : plainV (encArg K x) = true := by
  have app : ∀ a b : List AV, a.all plainS = true → b.all plainS = true → (a ++ b).all plainS = true := by
    intro a b h1 h2; simp [h1, h2]
  have key : ∀ (K : Kd) (x : Unit → K.T), (K.enc x).all plainS = true := by
    intro K
    exact Kd.rec (motive_1 := fun K => ∀ x : Unit → K.T, (K.enc x).all plainS = true) (motive_2 := fun fs => ∀ x : Unit → Kds.T fs, (Kds.enc fs x).all plainS = true)
      (fun k x => by simp [Kd.enc, plainS]) (fun x => by simp [Kd.enc, plainS]) (fun x => by simp [Kd.enc, plainS]) (fun e _ x => by simp [Kd.enc, plainS])
      (fun fs ih x => by simpa only [Kd.enc] using ih x) (fun x => by simp [Kds.enc]) (fun k ks ih1 ih2 x => by simp only [Kds.enc]; exact app _ _ (ih1 _) (ih2 _)) K
  cases K with
  | struct fs => simp only [encArg, plainV]; simpa only [Kd.enc] using key (.struct fs) x
  | int k => rfl
  | bool => rfl
  | str => rfl
  | slice e => rfl
theorem plain_encArgs : ∀ {Ks : List Kd} (x : Unit → Kds.T Ks), (encArgs Ks x).all plainV = true
  | [], x => rfl
  | K :: Ks, x => by simp only [encArgs, List.all_cons, plain_encArg, plain_encArgs (Ks := Ks), Bool.and_self]
theorem plain_res {S S' : Sg} (hF : S'.F = S.F) {Ks : List Kd} (x : Unit → Kds.T Ks) {v : Value} (h : VR S (encRes Ks x) v) : VR S' (encRes Ks x) v := by
  unfold encRes at h ⊢
  have hp := plain_encArgs x
  cases hx : encArgs Ks x with
  | nil =>
    rw [hx] at h
    simp only [oneOf, VR, VRs] at h ⊢
    exact h
  | cons a as =>
    cases as with
    | nil =>
      rw [hx] at h hp
      simp only [oneOf] at h ⊢
      simp only [List.all_cons, List.all_nil, Bool.and_true] at hp
      exact plainV_ok hF hp h
    | cons b bs =>
      rw [hx] at h hp
      simp only [oneOf, VR] at h ⊢
      obtain ⟨vs, h1, h2⟩ := h
      exact ⟨vs, h1, plainVs_ok hF hp h2⟩

theorem viewT_ok {W : World} {S : Sg} {h : List Blk} {w : World} (hr : Rel W S h w) {x : AV} {v : Value} (hx : VR S x v) (ho : allO (slObss h (partsT x))) : VR (frzS S h (slsOf (partsT x)) w) (viewT h x) v := by
  cases x
  case tup cs =>
    simp only [viewT]
    simp only [VR] at hx ⊢
    obtain ⟨vs, h1, h2⟩ := hx
    exact ⟨vs, h1, views_ok hr h2 ho fun _ h => h⟩
  case agg cs =>
    simp only [viewT, view]
    simp only [VR] at hx ⊢
    obtain ⟨vs, h1, h2⟩ := hx
    exact ⟨vs, h1, frz_ok hr h2 ho fun _ h => h⟩
  all_goals
    refine roOf_ok hr hx ?_ ?_
    · simp only [partsT, parts1, slObss, allO_append] at ho; exact ho.1
    · intro i hi; simp only [partsT, parts1, slsOf, List.append_nil]; exact hi

theorem fn_ofG {P : Program} {E : Env} (hE : EnvOk P E) {f : FuncId} {fn : Func} {body : Code} {rs : List ResultVar} {n : Nat} (hf : P.funcs[f]? = some fn) (hname : (fn.name == "runtime.NumGoroutine") = false) (hb : fn.body = some body) (hrs : fn.results.toList = rs) (hn : fn.ntmps = n)
    {X : Type} {m : Nat} {enc : (Unit → X) → List AV} {dec : List AV → Option (Unit → X)} (encOk : ∀ {S : Sg} {xs : List AV} {y : Unit → X} {vs : List Value}, dec xs = some y → VRs S xs vs → VRs S (enc y) vs) (encLen : ∀ y, (enc y).length = m)
    {rsig : List Kd} {R : X → Kds.T rsig} {pre : X → Prop}
    (h : ∀ x : X, pre x → ∀ G : Gl, GOk P G E rs → (G.S0.σ = fun _ => none) → (∀ v h', FinRo (encRes rsig (fun _ => R x)) v h' → G.Q v h') → AM G ⟨app (enc (fun _ => x)) (anys (n - m)), [], [.code body]⟩) : FnOk P f (decSpec dec rsig R pre) := by
  refine ⟨⟨fn, hf, hname, by rw [hb]; rfl⟩, ?_⟩
  intro xs out hs ho F w vs hF hv
  unfold decSpec at hs
  split at hs
  · rename_i y hy
    obtain rfl := Option.some.inj hs
    simp only [allO, and_true] at ho
    have henc := encOk hy hv
    have hlen : (enc y).length = m := encLen y
    have hvl : vs.size = m := by have := henc.length; rw [hlen] at this; simpa using this
    have key := h (y ()) ho { P := P, E := E, fn := fn, W := w, S0 := ⟨fun _ => none, F⟩, Q := fun v h' => FinRo (encRes rsig (fun _ => R (y ()))) v h' } ⟨rfl, hE, rfl, .inl ⟨rfl, hrs⟩⟩ rfl (fun _ _ h => h)
    refine (calls_of_wpG hf hb (R := Gl.End { P := P, E := E, fn := fn, W := w, S0 := ⟨fun _ => none, F⟩, Q := fun v h' => FinRo (encRes rsig (fun _ => R (y ()))) v h' }) ?_).mono ?_
    · have := key.go ⟨fun _ => none, F⟩ { tmps := vs ++ Array.replicate (fn.ntmps - vs.size) undef, defers := [] } w ?_
      · simp only [wpK] at this
        exact wpIn_mono this fun e a w hq => hq
      · refine ⟨⟨Below.refl _ _, hF, fun id ha => by simp [hget, alive] at ha, fun id g c ha => by simp [hget, alive] at ha, fun id id' g c c' ha => by simp [hget, alive] at ha⟩, fun _ _ => rfl, .refl _, fun _ _ => rfl, ⟨?_, ?_⟩, trivial⟩
        · simp only [app_eq, List.length_append, anys_length, hn, hvl, Array.size_append, Array.size_replicate]
          rw [show (enc fun _ => y ()).length = m from hlen]
        · intro i
          simp only [app_eq]
          by_cases hi : i < m
          · have h1 : get (enc (fun _ => y ()) ++ anys (n - m)) i = get (enc y) i := by
              have : ∀ (a b : List AV) (i : Nat), i < a.length → get (a ++ b) i = get a i := by
                intro a
                induction a with
                | nil => intro b i h; simp at h
                | cons x a ih => intro b i h; cases i with | zero => rfl | succ i => exact ih b i (by simpa using h)
              exact this _ _ i (by rw [show (enc fun _ => y ()).length = m from hlen]; exact hi)
            rw [h1]
            have h2 : (vs ++ Array.replicate (fn.ntmps - vs.size) undef).getD i undef = vs.toList.getD i undef := by
              have : i < vs.size := by omega
              simp [Array.getD, List.getD, this, Array.getElem_append_left, show i < vs.size + (fn.ntmps - vs.size) by omega]
            rw [h2]
            exact henc.getD i
          · have h1 : get (enc (fun _ => y ()) ++ anys (n - m)) i = .any := by
              have : ∀ (a b : List AV) (i : Nat), a.length ≤ i → get (a ++ b) i = get b (i - a.length) := by
                intro a
                induction a with
                | nil => intro b i h; rfl
                | cons x a ih => intro b i h; cases i with | zero => simp at h | succ i => simp only [List.cons_append, get, List.length_cons, Nat.add_sub_add_right]; exact ih b i (by simpa using h)
              rw [this _ _ i (by rw [show (enc fun _ => y ()).length = m from hlen]; omega), anys_get]
            rw [h1]
            simp only [VR]
    · rintro e w' ⟨v, x, h', T, rfl, hT, hTF, hTo, hTf, hTv, hfin⟩
      have hview := viewT_ok hT hTv hfin.obs.out
      have hres := imp_ok _ _ _ hfin.same hview
      refine ⟨v, ⟨fun _ => none, (frzS T h' (slsOf (partsT x)) w').F⟩, rfl, ⟨hT.below, frz_fv hT _, fun id ha => by simp [hget, alive] at ha, fun id g c ha => by simp [hget, alive] at ha, fun id id' g c c' ha => by simp [hget, alive] at ha⟩, hTF.F.trans (frz_le hT _).F, fun b hb => (frz_old hT _ b hb).trans (hTo b hb), fun _ _ => rfl, ?_⟩
      exact plain_res (S := frzS T h' (slsOf (partsT x)) w') (S' := ⟨fun _ => none, (frzS T h' (slsOf (partsT x)) w').F⟩) rfl _ hres
  · cases hs


theorem encArgs_len : ∀ (Ks : List Kd) (y : Unit → Kds.T Ks), (encArgs Ks y).length = Ks.length
  | [], y => rfl
  | K :: Ks, y => by simp [encArgs, encArgs_len Ks]
theorem fn_ofB {P : Program} {E : Env} (hE : EnvOk P E) {f : FuncId} {fn : Func} {body : Code} {rs : List ResultVar} {n : Nat} (hf : P.funcs[f]? = some fn) (hname : (fn.name == "runtime.NumGoroutine") = false) (hb : fn.body = some body) (hrs : fn.results.toList = rs) (hn : fn.ntmps = n)
    {sig rsig : List Kd} {R : Kds.T sig → Kds.T rsig} {pre : Kds.T sig → Prop}
    (h : ∀ x : Kds.T sig, pre x → ∀ G : Gl, GOk P G E rs → (G.S0.σ = fun _ => none) → (∀ v h', FinRo (encRes rsig (fun _ => R x)) v h' → G.Q v h') → AM G ⟨app (encArgs sig (fun _ => x)) (anys (n - sig.length)), [], [.code body]⟩) : FnOk P f (sigSpec sig rsig R pre) :=
  fn_ofG hE hf hname hb hrs hn (enc := encArgs sig) (dec := decArgs sig) encArgs_ok (encArgs_len sig) h

/-! Functions that are handed closures. -/
/-- An argument: a value; a pointer to a box with a value; a closure of a known function with what it has caught; a pointer to a box with such a one. -/
inductive AK where
  | v (K : Kd)
  | r (K : Kd)
  | c (f : FuncId) (as : List AK)
  | rc (f : FuncId) (as : List AK)
mutual
@[reducible] def AK.T : AK → Type
  | .v K => K.T
  | .r K => K.T
  | .c _ as => AKs.T as
  | .rc _ as => AKs.T as
@[reducible] def AKs.T : List AK → Type
  | [] => Unit
  | k :: ks => k.T × AKs.T ks
end
mutual
def AK.enc : (k : AK) → (Unit → k.T) → AV
  | .v K, x => encArg K x
  | .r K, x => .fb (K.enc x) 0
  | .c f as, x => .fn (.func f) [] (AKs.enc as x)
  | .rc f as, x => .fb [.fn (.func f) [] (AKs.enc as x)] 0
def AKs.enc : (ks : List AK) → (Unit → AKs.T ks) → List AV
  | [], _ => []
  | k :: ks, x => k.enc (fun _ => (x ()).1) :: AKs.enc ks (fun _ => (x ()).2)
end
mutual
def AK.dec : (k : AK) → AV → Option (Unit → k.T)
  | .v K, x => decArg K x
  | .r K, x => (match x with | .fb cs 0 => (match K.dec cs with | some (y, []) => some y | _ => none) | _ => none)
  | .c f as, x => (match x with | .fn (.func g) [] b => (match decide (g = f) with | true => AKs.dec as b | false => none) | _ => none)
  | .rc f as, x => (match x with | .fb [.fn (.func g) [] b] 0 => (match decide (g = f) with | true => AKs.dec as b | false => none) | _ => none)
def AKs.dec : (ks : List AK) → List AV → Option (Unit → AKs.T ks)
  | [], xs => (match xs with | [] => some fun _ => () | _ => none)
  | k :: ks, xs =>
    (match xs with
     | x :: xs => (match k.dec x with
       | some y => (match AKs.dec ks xs with | some ys => some fun _ => (y (), ys ()) | none => none)
       | none => none)
     | _ => none)
end
theorem AKs.len : ∀ (ks : List AK) (y : Unit → AKs.T ks), (AKs.enc ks y).length = ks.length
  | [], y => by simp [AKs.enc]
  | k :: ks, y => by simp [AKs.enc, AKs.len ks]
mutual
theorem AK.ok {S : Sg} : (k : AK) → (x : AV) → (y : Unit → k.T) → (v : Value) → k.dec x = some y → VR S x v → VR S (k.enc y) v
  | .v K, x, y, v, h, hv => by
    simp only [AK.dec, AK.enc] at h ⊢
    exact encArg_ok h hv
  | .r K, x, y, v, h, hv => by
    simp only [AK.dec, AK.enc] at h ⊢
    split at h
    · split at h
      · rename_i z hz
        obtain rfl := Option.some.inj h
        simp only [VR] at hv ⊢
        obtain ⟨g, vs, T, h1, h2, h3⟩ := hv
        refine ⟨g, vs, T, h1, h2, ?_⟩
        have := Kd.dec_all (S := S) hz h3
        exact KR.enc (S := S) _ _ _ this
      · cases h
    · cases h
  | .c f as, x, y, v, h, hv => by
    simp only [AK.dec, AK.enc] at h ⊢
    split at h
    · split at h
      · rename_i b hd
        obtain rfl := of_decide_eq_true hd
        simp only [VR] at hv ⊢
        obtain ⟨us, bs, h1, h2, h3⟩ := hv
        exact ⟨us, bs, h1, h2, AKs.ok as _ y _ h h3⟩
      · cases h
    · cases h
  | .rc f as, x, y, v, h, hv => by
    simp only [AK.dec, AK.enc] at h ⊢
    split at h
    · split at h
      · rename_i b hd
        obtain rfl := of_decide_eq_true hd
        simp only [VR, VRs] at hv ⊢
        obtain ⟨g, vs, T, h1, h2, u, us', h3, ⟨as', bs, h4, h5, h6⟩, h7⟩ := hv
        exact ⟨g, vs, T, h1, h2, u, us', h3, ⟨as', bs, h4, h5, AKs.ok as _ y _ h h6⟩, h7⟩
      · cases h
    · cases h
theorem AKs.ok {S : Sg} : (ks : List AK) → (xs : List AV) → (y : Unit → AKs.T ks) → (vs : List Value) → AKs.dec ks xs = some y → VRs S xs vs → VRs S (AKs.enc ks y) vs
  | [], xs, y, vs, h, hv => by
    simp only [AKs.dec, AKs.enc] at h ⊢
    cases xs <;> simp only [reduceCtorEq] at h
    exact hv
  | k :: ks, xs, y, vs, h, hv => by
    cases xs with
    | nil => simp only [AKs.dec, reduceCtorEq] at h
    | cons x xs =>
      simp only [AKs.dec] at h
      split at h
      · rename_i z hz
        split at h
        · rename_i zs hzs
          obtain rfl := Option.some.inj h
          simp only [VRs] at hv
          obtain ⟨v, vs', rfl, h1, h2⟩ := hv
          simp only [AKs.enc]
          exact ⟨v, vs', rfl, AK.ok k _ _ _ hz h1, AKs.ok ks _ _ _ hzs h2⟩
        · cases h
      · cases h
end
def akSpec (sig : List AK) (rsig : List Kd) (S : AKs.T sig → Kds.T rsig) (pre : AKs.T sig → Prop) (xs : List AV) : Option FOut := decSpec (AKs.dec sig) rsig S pre xs
theorem fn_ofC {P : Program} {E : Env} (hE : EnvOk P E) {f : FuncId} {fn : Func} {body : Code} {rs : List ResultVar} {n : Nat} (hf : P.funcs[f]? = some fn) (hname : (fn.name == "runtime.NumGoroutine") = false) (hb : fn.body = some body) (hrs : fn.results.toList = rs) (hn : fn.ntmps = n)
    {sig : List AK} {rsig : List Kd} {R : AKs.T sig → Kds.T rsig} {pre : AKs.T sig → Prop}
    (h : ∀ x : AKs.T sig, pre x → ∀ G : Gl, GOk P G E rs → (G.S0.σ = fun _ => none) → (∀ v h', FinRo (encRes rsig (fun _ => R x)) v h' → G.Q v h') → AM G ⟨app (AKs.enc sig (fun _ => x)) (anys (n - sig.length)), [], [.code body]⟩) : FnOk P f (akSpec sig rsig R pre) :=
  fn_ofG hE hf hname hb hrs hn (enc := AKs.enc sig) (dec := AKs.dec sig) (fun h1 h2 => AKs.ok _ _ _ _ h1 h2) (AKs.len sig) h

theorem fn_of {P : Program} {E : Env} (hE : EnvOk P E) {f : FuncId} {fn : Func} {body : Code} {rs : List ResultVar} {n : Nat} (hf : P.funcs[f]? = some fn) (hname : (fn.name == "runtime.NumGoroutine") = false) (hb : fn.body = some body) (hrs : fn.results.toList = rs) (hn : fn.ntmps = n)
    {sig rsig : List Kd} {R : Kds.T sig → Kds.T rsig} {pre : Kds.T sig → Prop}
    (h : ∀ x : Kds.T sig, pre x → ∀ G : Gl, GOk P G E rs → (∀ v h', FinRo (encRes rsig (fun _ => R x)) v h' → G.Q v h') → AM G ⟨app (encArgs sig (fun _ => x)) (anys (n - sig.length)), [], [.code body]⟩) : FnOk P f (sigSpec sig rsig R pre) :=
  fn_ofB hE hf hname hb hrs hn fun x hp G hG _ hQ => h x hp G hG hQ

/-! Tables. -/
def lookR : List (Nat × TRow) → Nat → Option TRow
  | [], _ => none
  | (a, r) :: l, t => if a = t then some r else lookR l t
def RowsOk (P : Program) : List (Nat × TRow) → Prop
  | [] => True
  | (t, r) :: l => RowOk P t r ∧ RowsOk P l
theorem rowsOk_look {P : Program} : ∀ {l : List (Nat × TRow)} {t : Nat} {r : TRow}, RowsOk P l → lookR l t = some r → RowOk P t r
  | [], t, r, h, hl => by simp [lookR] at hl
  | (a, x) :: l, t, r, h, hl => by
    simp only [lookR] at hl
    split at hl
    · rename_i e; subst e; obtain rfl := Option.some.inj hl; exact h.1
    · exact rowsOk_look h.2 hl
def lookF : List (FuncId × (List AV → Option FOut)) → FuncId → Option (List AV → Option FOut)
  | [], _ => none
  | (a, r) :: l, t => if a = t then some r else lookF l t
def FnsOk (P : Program) : List (FuncId × (List AV → Option FOut)) → Prop
  | [] => True
  | (t, r) :: l => FnOk P t r ∧ FnsOk P l
theorem fnsOk_look {P : Program} : ∀ {l : List (FuncId × (List AV → Option FOut))} {t : Nat} {r : List AV → Option FOut}, FnsOk P l → lookF l t = some r → FnOk P t r
  | [], t, r, h, hl => by simp [lookF] at hl
  | (a, x) :: l, t, r, h, hl => by
    simp only [lookF] at hl
    split at hl
    · rename_i e; subst e; obtain rfl := Option.some.inj hl; exact h.1
    · exact fnsOk_look h.2 hl
def lookX : List (FuncId × (List AV → Option (AV × Obs))) → FuncId → Option (List AV → Option (AV × Obs))
  | [], _ => none
  | (a, r) :: l, t => if a = t then some r else lookX l t
def ExtsOk (P : Program) : List (FuncId × (List AV → Option (AV × Obs))) → Prop
  | [] => True
  | (t, r) :: l => ExtOk P t r ∧ ExtsOk P l
theorem extsOk_look {P : Program} : ∀ {l : List (FuncId × (List AV → Option (AV × Obs)))} {t : Nat} {r : List AV → Option (AV × Obs)}, ExtsOk P l → lookX l t = some r → ExtOk P t r
  | [], t, r, h, hl => by simp [lookX] at hl
  | (a, x) :: l, t, r, h, hl => by
    simp only [lookX] at hl
    split at hl
    · rename_i e; subst e; obtain rfl := Option.some.inj hl; exact h.1
    · exact extsOk_look h.2 hl
def lookQ : List (TypeId × Kd) → TypeId → Option Kd
  | [], _ => none
  | (a, r) :: l, t => if a = t then some r else lookQ l t
def EqksOk (P : Program) : List (TypeId × Kd) → Prop
  | [] => True
  | (t, K) :: l => (EqOk P t K ∧ K.deep ≤ 100 ∧ K.flat = true) ∧ EqksOk P l
theorem eqksOk_look {P : Program} : ∀ {l : List (TypeId × Kd)} {t : TypeId} {K : Kd}, EqksOk P l → lookQ l t = some K → EqOk P t K ∧ K.deep ≤ 100 ∧ K.flat = true
  | [], t, K, h, hl => by simp [lookQ] at hl
  | (a, r) :: l, t, K, h, hl => by
    simp only [lookQ] at hl
    split at hl
    · rename_i e; subst e; cases hl; exact h.1
    · exact eqksOk_look h.2 hl
def rowOkB (r : TRow) : Bool :=
  r.z.cells.size == r.size && decide (0 < r.size) && (match r.kd with | none => true | some K => K.size == r.size && (match zOk K r.z.cells.toList with | some [] => true | _ => false))
theorem rowOk_of {P : Program} {t : TypeId} {r : TRow} {desc : TypeDesc} (h1 : P.underlying t = some desc) (h2 : digest desc = r.d) (h3 : (P.info? t).map (fun i => (i.zero, i.size, i.bytes)) = some (some r.z, r.size, r.bytes)) (h4 : rowOkB r = true) : RowOk P t r := by
  simp only [rowOkB, Bool.and_eq_true, beq_iff_eq, decide_eq_true_eq] at h4
  refine ⟨⟨desc, h1, h2⟩, ?_, h4.1.1, h4.1.2, ?_⟩
  · cases hi : P.info? t with
    | none => rw [hi] at h3; cases h3
    | some i =>
      rw [hi] at h3
      simp only [Option.map_some, Option.some.injEq, Prod.mk.injEq] at h3
      exact ⟨i, rfl, h3.2.1, h3.2.2, h3.1⟩
  · intro K hK
    have := h4.2
    rw [hK] at this
    simp only [Bool.and_eq_true, beq_iff_eq] at this
    refine ⟨this.1, ?_⟩
    have h5 := this.2
    split at h5
    · assumption
    · cases h5

end Go.Sx
