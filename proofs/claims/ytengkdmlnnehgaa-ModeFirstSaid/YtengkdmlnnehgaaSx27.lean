/- A reckoner of Go code over told values: empty slices in slots. -/
import Derived.Test.YtengkdmlnnehgaaSx26
namespace Go.Sx
open Go Go.RowKit
set_option linter.unusedVariables false
set_option linter.unusedSimpArgs false

/-- An empty slice in a slot is a row of one's own, without elements. -/
theorem AM.emptySlot {G : Gl} (t : Nat) (T' : TypeId) (K : Kd) {fr : List AV} {h : List Blk} {k : List It} (hn : get fr t = .nils)
    (h1 : AM G ⟨put fr t (.sl h.length K.size (.l 0) (.l 0)), hset h h.length (.row T' K fun _ => []), k⟩) : AM G ⟨fr, h, k⟩ := by
  refine ⟨fun S a w hc => ?_⟩
  have hf : S.σ h.length = none := hc.fresh _ (Nat.le_refl _)
  have hr1 := hc.rel.new (X := fun _ => False) ⟨rfl, rfl, rfl, Nat.le_refl _, fun _ _ _ => rfl⟩ (fun _ h => h) hf (b := .row T' K fun _ => []) (r := none) (by simp only [BRel]) (fun g c h => by cases h)
  have hle := upd_le (S := S) (r := none) hf
  have hfr : FrR ⟨upd S.σ h.length none, S.F⟩ fr a := hc.fr.mono hle
  refine h1.go _ a w ⟨hr1, hc.old, hc.le.trans hle, ?_, hfr.one t ?_, hc.defers⟩
  · intro i hi
    simp only [hset_length] at hi
    have : i ≠ h.length := by omega
    simp only [upd, if_neg this]
    exact hc.fresh i (by simp only; omega)
  · have hv := hc.fr.get t
    simp only at hv
    rw [hn] at hv
    simp only [VR] at hv ⊢
    exact ⟨none, by simp [upd], rfl, rfl, none, hv⟩
namespace D2
/-- An operation, as far as its order matters: the slot that it fills and those that it looks at as bits. -/
structure LO where
  d : Nat
  lk : Nat
  f : FL
def bitO (a : Option Nat) : Nat :=
  match a with
  | some x => 2 ^ x
  | none => 0
def bitL : List Nat → Nat
  | [] => 0
  | a :: as => 2 ^ a ||| bitL as
def lo (R : List Oper) (o : Oper) (f : FL) : LO := ⟨bitO o.dst, bitL (looks R o), f⟩
def los (R : List Oper) : List Oper → List FL → List LO
  | o :: os, f :: fs => lo R o f :: los R os fs
  | _, _ => []
def clashL (a b : LO) : Bool :=
  match (a.d &&& (b.d ||| b.lk)) ||| (b.d &&& a.lk) with
  | 0 => (match a.f.w with | true => meets a.f b.f || meets b.f a.f | false => (match b.f.w with | true => meets b.f a.f | false => false))
  | _ + 1 => true
def dokIn (b : LO) (m : Nat) : Nat → List LO → Bool
  | _, [] => true
  | i, a :: r => (match clashL a b with | false => dokIn b m (i + 1) r | true => (match m.testBit i with | true => dokIn b m (i + 1) r | false => false))
def dokAll : List LO → List LO → List Nat → Bool
  | _, [], _ => true
  | _, _ :: _, [] => false
  | done, b :: r, m :: ms => (match dokIn b m 0 done with | true => dokAll (done ++ [b]) r ms | false => false)
def predsOk : Nat → List Oper → Bool
  | _, [] => true
  | j, o :: os => (preds o).all (fun p => decide (p < j)) && predsOk (j + 1) os
def dok2 (R : List Oper) (ff : List FL) : Bool := Sx.distinctD R && (predsOk 0 R && dokAll [] (los R R ff) (masks R []))
theorem dokIn_spec {b : LO} {m : Nat} : ∀ (l : List LO) (n : Nat), dokIn b m n l = true → ∀ i a, l[i]? = some a → clashL a b = true → m.testBit (n + i) = true
  | [], n, h, i, a, hl, hc => by simp at hl
  | a1 :: l, n, h, i, a, hl, hc => by
    simp only [dokIn] at h
    cases i with
    | zero =>
      simp only [List.getElem?_cons_zero, Option.some.injEq] at hl
      subst hl
      rw [hc] at h
      simp only at h
      split at h
      · assumption
      · cases h
    | succ i =>
      simp only [List.getElem?_cons_succ] at hl
      have h' : dokIn b m (n + 1) l = true := by
        split at h
        · exact h
        · split at h
          · exact h
          · cases h
      have := dokIn_spec l (n + 1) h' i a hl hc
      rwa [show n + 1 + i = n + (i + 1) by omega] at this
theorem dokAll_spec : ∀ (l done : List LO) (ms : List Nat), dokAll done l ms = true → ∀ j b, l[j]? = some b →
    ∀ i a, i < done.length + j → (done ++ l)[i]? = some a → clashL a b = true → (ms.getD j 0).testBit i = true
  | [], done, ms, h, j, b, hl => by simp at hl
  | b1 :: l, done, [], h, j, b, hl => by simp [dokAll] at h
  | b1 :: l, done, m :: ms, h, j, b, hl => by
    simp only [dokAll] at h
    split at h
    · rename_i hin
      cases j with
      | zero =>
        simp only [List.getElem?_cons_zero, Option.some.injEq] at hl
        subst hl
        intro i a hi hd hc
        rw [List.getElem?_append_left (by simpa using hi)] at hd
        have := dokIn_spec done 0 hin i a hd hc
        simpa using this
      | succ j =>
        simp only [List.getElem?_cons_succ] at hl
        have hlen : (done ++ [b1]).length = done.length + 1 := by simp
        have h2 := dokAll_spec l (done ++ [b1]) ms h j b hl
        rw [hlen] at h2
        intro i a hi hd hc
        have := h2 i a (by omega) (by rw [List.append_assoc]; exact hd) hc
        simpa using this
    · cases h
theorem predsOk_spec : ∀ (l : List Oper) (n : Nat), predsOk n l = true → ∀ j o, l[j]? = some o → ∀ p ∈ preds o, p < n + j
  | [], n, h, j, o, hl => by simp at hl
  | o1 :: l, n, h, j, o, hl => by
    simp only [predsOk, Bool.and_eq_true] at h
    cases j with
    | zero =>
      simp only [List.getElem?_cons_zero, Option.some.injEq] at hl
      subst hl
      intro p hp
      have := List.all_eq_true.1 h.1 p hp
      simpa using this
    | succ j =>
      simp only [List.getElem?_cons_succ] at hl
      intro p hp
      have := predsOk_spec l (n + 1) h.2 j o hl p hp
      omega
theorem los_get {R : List Oper} : ∀ (os : List Oper) (fs : List FL) (i : Nat) (o : Oper) (f : FL), os[i]? = some o → fs[i]? = some f → (los R os fs)[i]? = some (lo R o f)
  | [], fs, i, o, f, h1, h2 => by simp at h1
  | o1 :: os, [], i, o, f, h1, h2 => by simp at h2
  | o1 :: os, f1 :: fs, 0, o, f, h1, h2 => by
    simp only [List.getElem?_cons_zero, Option.some.injEq] at h1 h2
    subst h1 h2
    rfl
  | o1 :: os, f1 :: fs, i + 1, o, f, h1, h2 => by
    simp only [los, List.getElem?_cons_succ] at h1 h2 ⊢
    exact los_get os fs i o f h1 h2
theorem bitL_bit : ∀ (l : List Nat) (x : Nat), x ∈ l → (bitL l).testBit x = true
  | [], x, h => by cases h
  | a :: l, x, h => by
    simp only [bitL, Nat.testBit_or, Bool.or_eq_true]
    rcases List.mem_cons.1 h with rfl | h
    · exact .inl (by rw [Nat.testBit_two_pow]; simp)
    · exact .inr (bitL_bit l x h)
theorem bitO_bit {a : Option Nat} {x : Nat} (h : a = some x) : (bitO a).testBit x = true := by
  subst h
  simp only [bitO]
  rw [Nat.testBit_two_pow]; simp
theorem clash_lo {R : List Oper} {o o' : Oper} {f f' : FL} (h : clash R o o' f f' = true) : clashL (lo R o f) (lo R o' f') = true := by
  unfold clashL
  split
  · rename_i h0
    have key : ∀ x, (((bitO o.dst) &&& ((bitO o'.dst) ||| (bitL (looks R o')))) ||| ((bitO o'.dst) &&& (bitL (looks R o)))).testBit x = false := by
      intro x
      simp only [lo] at h0
      rw [h0]
      simp
    simp only [Nat.testBit_or, Nat.testBit_and, Bool.or_eq_false_iff] at key
    simp only [clash, Bool.or_eq_true] at h
    rcases h with (((h | h) | h) | h) | h
    · exfalso
      unfold sameD at h
      split at h
      · rename_i x hx
        split at h
        · rename_i y hy
          obtain rfl : x = y := by simpa using h
          have := (key x).1
          rw [bitO_bit hx, bitO_bit hy] at this
          simp at this
        · cases h
      · cases h
    · exfalso
      unfold inD at h
      split at h
      · rename_i x hx
        have := (key x).1
        rw [bitO_bit hx, bitL_bit _ x ((memN_iff _ _).1 h)] at this
        simp at this
      · cases h
    · exfalso
      unfold inD at h
      split at h
      · rename_i x hx
        have := (key x).2
        rw [bitO_bit hx, bitL_bit _ x ((memN_iff _ _).1 h)] at this
        simp at this
      · cases h
    · have hw : f.w = true := by simp only [meets, Bool.and_eq_true] at h; exact h.1.1
      simp only [lo, hw, h, Bool.true_or]
    · have hw : f'.w = true := by simp only [meets, Bool.and_eq_true] at h; exact h.1.1
      simp only [lo, hw, h, Bool.or_true]
      split <;> rfl
  · rfl


theorem old_in {R : List Oper} {o' : Oper} {f' : FL} {m : Nat} : ∀ (l : List (Oper × FL)) (n : Nat), (∀ i o f, l[i]? = some (o, f) → clash R o o' f f' = true → m.testBit (n + i) = true) → Sx.dokIn R o' f' m n l = true
  | [], n, h => rfl
  | (o, f) :: l, n, h => by
    simp only [Sx.dokIn, Bool.and_eq_true]
    refine ⟨?_, old_in l (n + 1) fun i o f hi hc => by have := h (i + 1) o f (by simpa using hi) hc; rwa [show n + (i + 1) = n + 1 + i by omega] at this⟩
    cases hc : clash R o o' f f' with
    | false => rfl
    | true => have := h 0 o f rfl hc; simpa using this
theorem old_all {R : List Oper} : ∀ (l done : List (Oper × FL)) (ms : List Nat), l.length ≤ ms.length → (∀ j o' f', l[j]? = some (o', f') → (∀ p ∈ preds o', p < done.length + j) ∧ ∀ i o f, i < done.length + j → (done ++ l)[i]? = some (o, f) → clash R o o' f f' = true → (ms.getD j 0).testBit i = true) → Sx.dokAll R done.length done l ms = true
  | [], done, ms, hl, h => rfl
  | (o1, f1) :: l, done, [], hl, h => by simp at hl
  | (o1, f1) :: l, done, m :: ms, hl, h => by
    simp only [Sx.dokAll, Bool.and_eq_true]
    obtain ⟨h1, h2⟩ := h 0 o1 f1 rfl
    refine ⟨⟨?_, ?_⟩, ?_⟩
    · rw [List.all_eq_true]
      intro p hp
      have := h1 p hp
      simpa using this
    · refine old_in done 0 fun i o f hi hc => ?_
      have hlt : i < done.length := (List.getElem?_eq_some_iff.1 hi).1
      have := h2 i o f (by omega) (by rw [List.getElem?_append_left hlt]; exact hi) hc
      simpa using this
    · have := old_all l (done ++ [(o1, f1)]) ms (by simpa using hl) (by
        intro j o' f' hj
        obtain ⟨h3, h4⟩ := h (j + 1) o' f' (by simpa using hj)
        have hlen : (done ++ [(o1, f1)]).length = done.length + 1 := by simp
        rw [hlen]
        refine ⟨fun p hp => by have := h3 p hp; omega, fun i o f hi hd hc => ?_⟩
        have := h4 i o f (by omega) (by rw [List.append_assoc] at hd; exact hd) hc
        simpa using this)
      simpa using this
theorem masks_len : ∀ (os : List Oper) (acc : List Nat), (masks os acc).length = acc.length + os.length
  | [], acc => rfl
  | o :: os, acc => by simp only [masks]; rw [masks_len os]; simp; omega
theorem dok_of {R : List Oper} {ff : List FL} (h : dok2 R ff = true) : dok R ff = true := by
  simp only [dok2, Bool.and_eq_true] at h
  obtain ⟨h1, h2, h3⟩ := h
  simp only [dok, Bool.and_eq_true]
  refine ⟨h1, old_all (R.zip ff) [] (masks R []) (by rw [masks_len]; simp [List.length_zip]; omega) fun j o' f' hj => ?_⟩
  rw [List.getElem?_zip_eq_some] at hj
  refine ⟨fun p hp => by have := predsOk_spec _ 0 h2 j o' hj.1 p hp; simpa using this, fun i o f hi hd hc => ?_⟩
  simp only [List.nil_append] at hd
  rw [List.getElem?_zip_eq_some] at hd
  exact dokAll_spec _ [] _ h3 j _ (los_get (R := R) _ _ j o' f' hj.1 hj.2) i _ (by simpa using hi) (los_get (R := R) _ _ i o f hd.1 hd.2) (clash_lo hc)
end D2
/-! Steps of such a region, without frames that are made anew. -/
def evK (ts : List Nat) (fr : List AV) : Operand → AV
  | .tmp t => (match memN ts t with | true => get fr t | false => .any)
  | y => ev fr y
def dstep2 (E : Env) (R : List Oper) (fr : List AV) (h : List Blk) (o : Oper) : Option (DR × Obs) :=
  match wantedA R fr o with
  | .yes =>
    (match strips fr (oprs o.op) with
     | (fr', gs) =>
       (match step1 E (evK (looks R o) fr') h h.length o with
        | some r => some (⟨r.v, r.up, r.rd, liteOf (evK (looks R o) fr') o.op⟩, gs ++ r.obs)
        | none => none))
  | .no => some (⟨.und, [], [], none⟩, [])
  | .may g =>
    (match strips fr (oprs o.op) with
     | (fr', gs) =>
       (match step1 E (evK (looks R o) fr') h h.length o with
        | some ⟨v, [], obs, rd⟩ => some (⟨.gd g v, [], rd, liteOf (evK (looks R o) fr') o.op⟩, gdObs g (gs ++ obs))
        | _ => none))
  | .lost => none
def drun2 (E : Env) (R : List Oper) : List Oper → List AV → List Blk → Option (List DR × Obs × List AV × List Blk)
  | [], fr, h => some ([], [], fr, h)
  | o :: os, fr, h =>
    match dstep2 E R fr h o with
    | some (d, ob) =>
      (match drun2 E R os (putO fr o.dst d.v) (hsets h d.up) with
       | some (ds, obs, fr', h') => some (d :: ds, ob ++ obs, fr', h')
       | none => none)
    | none => none
theorem keep_put (ts : List Nat) (v : AV) : ∀ (fr : List AV) (n t : Nat), n + t ∈ ts → put (keep ts n fr) t v = keep ts n (put fr t v)
  | [], n, t, h => rfl
  | x :: fr, n, 0, h => by
    simp only [keep, put]
    rw [(memN_iff _ _).2 (by simpa using h)]
  | x :: fr, n, t + 1, h => by
    simp only [keep, put]
    rw [keep_put ts v fr (n + 1) t (by rwa [show n + 1 + t = n + (t + 1) by omega])]
theorem strips_keep (ts : List Nat) : ∀ (ys : List Operand) (fr : List AV), (∀ t, Operand.tmp t ∈ ys → t ∈ ts) → strips (keep ts 0 fr) ys = (keep ts 0 (strips fr ys).1, (strips fr ys).2)
  | [], fr, h => rfl
  | y :: ys, fr, h => by
    have hys : ∀ t, Operand.tmp t ∈ ys → t ∈ ts := fun t ht => h t (List.mem_cons_of_mem _ ht)
    cases y with
    | tmp t =>
      have ht := h t List.mem_cons_self
      have hg : get (keep ts 0 fr) t = get fr t := by rw [keep_get, Nat.zero_add, if_pos ht]
      simp only [strips, hg]
      split
      · rename_i g v hgv
        rw [keep_put ts v fr 0 t (by simpa using ht), strips_keep ts ys _ hys]
      · exact strips_keep ts ys fr hys
    | const v => simp only [strips]; exact strips_keep ts ys fr hys
    | global v => simp only [strips]; exact strips_keep ts ys fr hys
    | func v => simp only [strips]; exact strips_keep ts ys fr hys
theorem tmpsOf_mem : ∀ (ys : List Operand) (t : Nat), Operand.tmp t ∈ ys → t ∈ tmpsOf ys
  | [], t, h => by cases h
  | y :: ys, t, h => by
    rcases List.mem_cons.1 h with rfl | h
    · simp [tmpsOf]
    · have := tmpsOf_mem ys t h
      cases y <;> simp [tmpsOf, this]
theorem oprs_looks {R : List Oper} {o : Oper} {t : Nat} (h : Operand.tmp t ∈ oprs o.op) : t ∈ looks R o := by
  refine looks_guard (tmpsOf_mem _ _ ?_)
  unfold oprs at h
  split at h
  · rename_i c a b hop
    simp only [List.mem_singleton] at h
    rw [hop, ← h]
    simp [Op.operands]
  · exact h
theorem wanted_keep {R : List Oper} {o : Oper} (fr : List AV) : wantedA R (keep (looks R o) 0 fr) o = wantedA R fr o := by
  unfold wantedA
  cases hg : o.guard with
  | none => rfl
  | some p =>
    obtain ⟨j, want⟩ := p
    simp only
    cases hj : nth R j with
    | none => rfl
    | some o' =>
      obtain ⟨dst, op, ty, pos, after, guard⟩ := o'
      cases dst with
      | none => rfl
      | some d =>
        have hd : d ∈ looks R o := by simp [looks, hg, hj]
        simp only
        rw [keep_get, Nat.zero_add, if_pos hd]
theorem evK_eq (ts : List Nat) (fr : List AV) : ev (keep ts 0 fr) = evK ts fr := by
  funext y
  cases y with
  | tmp t =>
    simp only [ev, evK]
    rw [keep_get, Nat.zero_add]
    by_cases h : t ∈ ts
    · rw [if_pos h, (memN_iff _ _).2 h]
    · rw [if_neg h]
      have : memN ts t = false := by
        cases hm : memN ts t with
        | false => rfl
        | true => exact absurd ((memN_iff _ _).1 hm) h
      rw [this]
  | const v => rfl
  | global v => rfl
  | func v => rfl
theorem dstep2_eq {E : Env} {R : List Oper} {fr : List AV} {h : List Blk} {o : Oper} : dstep2 E R fr h o = dstep E R fr h o := by
  unfold dstep2 dstep
  rw [wanted_keep, strips_keep (looks R o) (oprs o.op) fr (fun t ht => oprs_looks ht)]
  simp only [evK_eq]
  rfl
theorem drun2_eq {E : Env} {R : List Oper} : ∀ (os : List Oper) (fr : List AV) (h : List Blk), drun2 E R os fr h = drun E R os fr h
  | [], fr, h => rfl
  | o :: os, fr, h => by
    simp only [drun2, drun, dstep2_eq, drun2_eq os]
    rfl
/-- A region that draws its order, by itself. -/
theorem AM.draw {P : Program} {G : Gl} {E : Env} {rs : List ResultVar} (hG : GOk P G E rs) {fr fr' : List AV} {h h' : List Blk} {k : List It} {id : Nat} {ops : Array Oper} {ds : List DR} {obs : Obs} {ff : List FL} (hd : drun2 E ops.toList ops.toList fr h = some (ds, obs, fr', h'))
    (hff : flags ds = ff) (hok : D2.dok2 ops.toList ff = true) (ho : allO obs) (h1 : AM G ⟨fr', h', k⟩) : AM G ⟨fr, h, .code (.region id ops true) :: k⟩ := by
  rw [drun2_eq] at hd
  have he := hG.e
  subst he
  subst hff
  refine ⟨fun S a w hc => ?_⟩
  simp only [wpK]
  exact draw_ok hG.ok hc hd (D2.dok_of hok) ho fun S' a' w' hc' => h1.go S' a' w' hc'
end Go.Sx
