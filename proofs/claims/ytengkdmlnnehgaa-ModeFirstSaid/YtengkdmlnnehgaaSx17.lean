/- A reckoner of Go code over told values: regions that draw their order. -/
import Derived.Test.YtengkdmlnnehgaaSx16
namespace Go.Sx
open Go Go.RowKit
set_option linter.unusedVariables false
set_option linter.unusedSimpArgs false

/-- i comes ahead of j. -/
inductive Anc (R : List Oper) : Nat → Nat → Prop
  | one {i j : Nat} {o : Oper} : R[j]? = some o → i ∈ preds o → Anc R i j
  | more {i p j : Nat} {o : Oper} : R[j]? = some o → p ∈ preds o → Anc R i p → Anc R i j

theorem memN_iff : ∀ (l : List Nat) (n : Nat), memN l n = true ↔ n ∈ l
  | [], n => by simp [memN]
  | a :: l, n => by
    simp only [memN]
    by_cases e : a = n
    · subst e; simp
    · rw [if_neg e, memN_iff l n]
      simp [Ne.symm e]
theorem keep_length : ∀ (ts : List Nat) (n : Nat) (fr : List AV), (keep ts n fr).length = fr.length
  | ts, n, [] => rfl
  | ts, n, x :: fr => by simp [keep, keep_length ts (n + 1) fr]
theorem keep_get : ∀ (ts : List Nat) (n : Nat) (fr : List AV) (i : Nat), get (keep ts n fr) i = if (n + i) ∈ ts then get fr i else .any
  | ts, n, [], i => by simp [keep, get]
  | ts, n, x :: fr, 0 => by
    simp only [keep, get, Nat.add_zero]
    by_cases e : n ∈ ts
    · rw [if_pos e, (memN_iff ts n).2 e]
    · rw [if_neg e]
      cases hm : memN ts n with
      | false => rfl
      | true => exact absurd ((memN_iff ts n).1 hm) e
  | ts, n, x :: fr, i + 1 => by
    simp only [keep, get]
    rw [keep_get ts (n + 1) fr i, show n + 1 + i = n + (i + 1) by omega]

theorem maskOf_bit {R : List Oper} {acc : List Nat} (hacc : ∀ j i, (acc.getD j 0).testBit i = true → Anc R i j) : ∀ (ps : List Nat) (i : Nat), (maskOf acc ps).testBit i = true → i ∈ ps ∨ ∃ p ∈ ps, Anc R i p
  | [], i, h => by simp [maskOf] at h
  | p :: ps, i, h => by
    simp only [maskOf, Nat.testBit_or, Bool.or_eq_true] at h
    rcases h with h | h | h
    · rw [Nat.testBit_two_pow] at h
      have : p = i := by simpa using h
      exact .inl (by simp [this])
    · exact .inr ⟨p, by simp, hacc p i h⟩
    · rcases maskOf_bit hacc ps i h with h | ⟨q, hq, ha⟩
      · exact .inl (List.mem_cons_of_mem _ h)
      · exact .inr ⟨q, List.mem_cons_of_mem _ hq, ha⟩
theorem masks_bit {R : List Oper} : ∀ (os pre : List Oper) (acc : List Nat), R = pre ++ os → acc.length = pre.length → (∀ j i, (acc.getD j 0).testBit i = true → Anc R i j) → ∀ j i, ((masks os acc).getD j 0).testBit i = true → Anc R i j
  | [], pre, acc, hR, hl, hacc => by simpa only [masks] using hacc
  | o :: os, pre, acc, hR, hl, hacc => by
    simp only [masks]
    refine masks_bit os (pre ++ [o]) _ (by rw [hR]; simp) (by simp [hl]) ?_
    intro j i hb
    rw [List.getD_eq_getElem?_getD, List.getElem?_append] at hb
    by_cases hj : j < acc.length
    · rw [if_pos hj] at hb
      exact hacc j i (by rw [List.getD_eq_getElem?_getD]; exact hb)
    · rw [if_neg hj] at hb
      by_cases hj' : j = acc.length
      · subst hj'
        simp only [Nat.sub_self, List.getElem?_cons_zero, Option.getD_some] at hb
        have hRj : R[acc.length]? = some o := by rw [hR, hl]; simp
        rcases maskOf_bit hacc _ i hb with h | ⟨p, hp, ha⟩
        · exact .one hRj h
        · exact .more hRj hp ha
      · have : ([maskOf acc (preds o)] : List Nat)[j - acc.length]? = none := by
          rw [List.getElem?_eq_none]; simp; omega
        rw [this] at hb
        simp at hb

theorem dokIn_spec {R : List Oper} {o' : Oper} {f' : FL} {m : Nat} : ∀ (l : List (Oper × FL)) (n : Nat), dokIn R o' f' m n l = true → ∀ i o f, l[i]? = some (o, f) → clash R o o' f f' = true → m.testBit (n + i) = true
  | [], n, h, i, o, f, hl, hc => by simp at hl
  | (o1, f1) :: l, n, h, i, o, f, hl, hc => by
    simp only [dokIn, Bool.and_eq_true] at h
    cases i with
    | zero =>
      simp only [List.getElem?_cons_zero, Option.some.injEq, Prod.mk.injEq] at hl
      obtain ⟨rfl, rfl⟩ := hl
      have := h.1
      rw [hc] at this
      simpa using this
    | succ i =>
      simp only [List.getElem?_cons_succ] at hl
      have := dokIn_spec l (n + 1) h.2 i o f hl hc
      rwa [show n + 1 + i = n + (i + 1) by omega] at this
theorem dokAll_spec {R : List Oper} : ∀ (l done : List (Oper × FL)) (ms : List Nat), dokAll R done.length done l ms = true → ∀ j o' f', l[j]? = some (o', f') →
    (∀ p ∈ preds o', p < done.length + j) ∧ ∀ i o f, i < done.length + j → (done ++ l)[i]? = some (o, f) → clash R o o' f f' = true → (ms.getD j 0).testBit i = true
  | [], done, ms, h, j, o', f', hl => by simp at hl
  | (o1, f1) :: l, done, [], h, j, o', f', hl => by simp [dokAll] at h
  | (o1, f1) :: l, done, m :: ms, h, j, o', f', hl => by
    simp only [dokAll, Bool.and_eq_true] at h
    cases j with
    | zero =>
      simp only [List.getElem?_cons_zero, Option.some.injEq, Prod.mk.injEq] at hl
      obtain ⟨rfl, rfl⟩ := hl
      refine ⟨fun p hp => ?_, fun i o f hi hd hc => ?_⟩
      · have := List.all_eq_true.1 h.1.1 p hp
        simpa using this
      · rw [List.getElem?_append_left (by simpa using hi)] at hd
        have := dokIn_spec done 0 h.1.2 i o f hd hc
        simpa using this
    | succ j =>
      simp only [List.getElem?_cons_succ] at hl
      have hlen : (done ++ [(o1, f1)]).length = done.length + 1 := by simp
      obtain ⟨h1, h2⟩ := dokAll_spec l (done ++ [(o1, f1)]) ms (by rw [hlen]; exact h.2) j o' f' hl
      rw [hlen] at h1 h2
      refine ⟨fun p hp => by have := h1 p hp; omega, fun i o f hi hd hc => ?_⟩
      have := h2 i o f (by omega) (by rw [List.append_assoc]; exact hd) hc
      simpa using this


def frN : List Oper → List DR → List AV → List AV
  | o :: os, d :: ds, fr => frN os ds (putO fr o.dst d.v)
  | _, _, fr => fr
def hN : List DR → List Blk → List Blk
  | [], h => h
  | d :: ds, h => hN ds (hsets h d.up)
theorem putO_length (fr : List AV) (d : Option Nat) (v : AV) : (putO fr d v).length = fr.length := by cases d <;> simp [putO, put_length]
theorem frN_length : ∀ (os : List Oper) (ds : List DR) (fr : List AV), (frN os ds fr).length = fr.length
  | [], ds, fr => rfl
  | o :: os, [], fr => rfl
  | o :: os, d :: ds, fr => by simp only [frN]; rw [frN_length os ds, putO_length]
theorem frN_spec : ∀ (os : List Oper) (ds : List DR) (fr : List AV) (t : Nat), ds.length = os.length →
    (t < fr.length ∧ ∃ (i : Nat) (o : Oper) (d : DR), os[i]? = some o ∧ ds[i]? = some d ∧ o.dst = some t ∧ get (frN os ds fr) t = d.v) ∨ ((t < fr.length → ∀ (i : Nat) (o : Oper), os[i]? = some o → o.dst ≠ some t) ∧ get (frN os ds fr) t = get fr t)
  | [], ds, fr, t, hl => .inr ⟨fun _ i o h => by simp at h, rfl⟩
  | o :: os, [], fr, t, hl => by simp at hl
  | o :: os, d :: ds, fr, t, hl => by
    simp only [frN]
    have hp : get (putO fr o.dst d.v) t = if o.dst = some t ∧ t < fr.length then d.v else get fr t := by
      cases hd : o.dst with
      | none => simp [putO]
      | some x =>
        simp only [putO]
        rw [get_put]
        by_cases e : t = x
        · subst e; simp
        · rw [if_neg (fun h => e h.1), if_neg (fun h => e (Option.some.inj h.1).symm)]
    rcases frN_spec os ds (putO fr o.dst d.v) t (by simpa using hl) with ⟨h0, i, o', d', h1, h2, h3, h4⟩ | ⟨h1, h2⟩
    · exact .inl ⟨by rwa [putO_length] at h0, i + 1, o', d', by simpa using h1, by simpa using h2, h3, h4⟩
    · rw [putO_length] at h1
      by_cases e : o.dst = some t ∧ t < fr.length
      · rw [if_pos e] at hp
        exact .inl ⟨e.2, 0, o, d, rfl, rfl, e.1, by rw [h2, hp]⟩
      · rw [if_neg e] at hp
        refine .inr ⟨fun ht i o' ho' => ?_, by rw [h2, hp]⟩
        cases i with
        | zero =>
          simp only [List.getElem?_cons_zero, Option.some.injEq] at ho'
          subst ho'
          exact fun hd => e ⟨hd, ht⟩
        | succ i => exact h1 ht i o' (by simpa using ho')

theorem drun_at {E : Env} {R : List Oper} : ∀ (os : List Oper) (fr : List AV) (h : List Blk) (ds : List DR) (obs : Obs) (fr' : List AV) (h' : List Blk), drun E R os fr h = some (ds, obs, fr', h') → allO obs →
    ds.length = os.length ∧ fr' = frN os ds fr ∧ h' = hN ds h ∧ ∀ (i : Nat) (o : Oper), os[i]? = some o → ∃ (d : DR) (ob : Obs), ds[i]? = some d ∧ dstep E R (frN (os.take i) (ds.take i) fr) (hN (ds.take i) h) o = some (d, ob) ∧ allO ob
  | [], fr, h, ds, obs, fr', h', hd, ho => by
    simp only [drun, Option.some.injEq, Prod.mk.injEq] at hd
    obtain ⟨rfl, rfl, rfl, rfl⟩ := hd
    exact ⟨rfl, rfl, rfl, fun i o hi => by simp at hi⟩
  | o :: os, fr, h, ds, obs, fr', h', hd, ho => by
    simp only [drun] at hd
    split at hd
    · rename_i d ob hdo
      split at hd
      · rename_i ds2 obs2 fr2 h2 hd2
        simp only [Option.some.injEq, Prod.mk.injEq] at hd
        obtain ⟨rfl, rfl, rfl, rfl⟩ := hd
        rw [allO_append] at ho
        obtain ⟨h3, h4, h5, h6⟩ := drun_at os _ _ _ _ _ _ hd2 ho.2
        refine ⟨by simp [h3], by rw [h4]; rfl, by rw [h5]; rfl, fun i o' hi => ?_⟩
        cases i with
        | zero =>
          simp only [List.getElem?_cons_zero, Option.some.injEq] at hi
          subst hi
          exact ⟨d, ob, rfl, by simpa [frN, hN] using hdo, ho.1⟩
        | succ i =>
          obtain ⟨d', ob', h7, h8, h9⟩ := h6 i o' (by simpa using hi)
          exact ⟨d', ob', by simpa using h7, by simpa [frN, hN] using h8, h9⟩
      · cases hd
    · cases hd

def hLis (listed : Nat → Bool) : Nat → List DR → List Blk → List Blk
  | _, [], h => h
  | n, d :: ds, h => hLis listed (n + 1) ds (if listed n = true then hsets h d.up else h)
theorem hLis_congr {l1 l2 : Nat → Bool} : ∀ (n : Nat) (ds : List DR) (h : List Blk), (∀ (k : Nat) (d : DR), ds[k]? = some d → d.up ≠ [] → l1 (n + k) = l2 (n + k)) → hLis l1 n ds h = hLis l2 n ds h
  | n, [], h, hc => rfl
  | n, d :: ds, h, hc => by
    simp only [hLis]
    have e : (if l1 n = true then hsets h d.up else h) = (if l2 n = true then hsets h d.up else h) := by
      by_cases hu : d.up = []
      · rw [hu]; simp [hsets]
      · have := hc 0 d rfl hu
        simp only [Nat.add_zero] at this
        rw [this]
    rw [e]
    exact hLis_congr (n + 1) ds _ fun k d' hk hu => by
      have := hc (k + 1) d' (by simpa using hk) hu
      rwa [show n + (k + 1) = n + 1 + k by omega] at this
theorem hget_hsets_congr (id : Nat) : ∀ (us : List (Nat × Blk)) (h h' : List Blk), hget h id = hget h' id → hget (hsets h us) id = hget (hsets h' us) id
  | [], h, h', e => e
  | (n, b) :: us, h, h', e => by
    simp only [hsets]
    refine hget_hsets_congr id us _ _ ?_
    rw [hget_hset, hget_hset, e]
theorem hget_hsets_none (id : Nat) : ∀ (us : List (Nat × Blk)) (h : List Blk), id ∉ fstN us → hget (hsets h us) id = hget h id
  | [], h, _ => rfl
  | (n, b) :: us, h, hn => by
    simp only [fstN, List.mem_cons, not_or] at hn
    simp only [hsets]
    rw [hget_hsets_none id us _ hn.2, hget_hset, if_neg hn.1]
theorem hLis_at {l1 l2 : Nat → Bool} (id : Nat) : ∀ (n : Nat) (ds : List DR) (h h' : List Blk), hget h id = hget h' id → (∀ (k : Nat) (d : DR), ds[k]? = some d → id ∈ fstN d.up → l1 (n + k) = l2 (n + k)) → hget (hLis l1 n ds h) id = hget (hLis l2 n ds h') id
  | n, [], h, h', e, hc => e
  | n, d :: ds, h, h', e, hc => by
    simp only [hLis]
    refine hLis_at id (n + 1) ds _ _ ?_ fun k d' hk hu => ?_
    · by_cases hu : id ∈ fstN d.up
      · have := hc 0 d rfl hu
        simp only [Nat.add_zero] at this
        rw [this]
        split
        · exact hget_hsets_congr id d.up h h' e
        · exact e
      · have e1 : ∀ (b : Bool) (g : List Blk), hget (if b = true then hsets g d.up else g) id = hget g id := by
          intro b g
          cases b
          · simp
          · simp [hget_hsets_none id d.up g hu]
        rw [e1, e1, e]
    · have := hc (k + 1) d' (by simpa using hk) hu
      rwa [show n + (k + 1) = n + 1 + k by omega] at this
theorem hLis_none : ∀ (n : Nat) (ds : List DR) (h : List Blk) (l : Nat → Bool), (∀ k, n ≤ k → l k = false) → hLis l n ds h = h
  | n, [], h, l, hl => rfl
  | n, d :: ds, h, l, hl => by
    simp only [hLis]
    rw [hl n (Nat.le_refl _)]
    exact hLis_none (n + 1) ds h l fun k hk => hl k (by omega)
theorem hLis_take : ∀ (i n : Nat) (ds : List DR) (h : List Blk), hLis (fun k => decide (k < n + i)) n ds h = hN (ds.take i) h
  | i, n, [], h => by simp [hLis, hN]
  | 0, n, d :: ds, h => by
    rw [hLis_none]
    · simp [hN]
    · intro k hk; simp; omega
  | i + 1, n, d :: ds, h => by
    simp only [hLis, List.take_succ_cons, hN]
    rw [if_pos (by simp)]
    have := hLis_take i (n + 1) ds (hsets h d.up)
    rwa [show n + 1 + i = n + (i + 1) by omega] at this

section
variable {P : Program} {E : Env} {W : World} {S0 : Sg}

/-- An operation of such a region. -/
theorem exec_ok (hE : EnvOk P E) {S : Sg} {fr' : List AV} {h hc : List Blk} {a : Act} {w : World} (hrel : Rel W S hc w) (hfresh : ∀ id, hc.length ≤ id → S.σ id = none) (hfr : FrR S fr' a) {o : Oper} {r : Res} (hs : step1 E (ev fr') h h.length o = some r) (ho : allO r.obs) (hh : r.rd ≠ [] → hc = h)
    {K : Act → World → Prop} {Q : Exit → Act → World → Prop}
    (hK : ∀ S' v w', S.le S' → (∀ b, b < W.heap.size → S'.F b = S.F b) → (∀ id, (hsets hc r.up).length ≤ id → S'.σ id = none) → Rel W S' (hsets hc r.up) w' → VR S' r.v v → K (a.put o.dst v) w') : o.wp P a w K Q := by
  unfold step1 at hs
  split at hs
  · rename_i x obs hp
    obtain rfl := Option.some.inj hs
    obtain ⟨v, h1, h2⟩ := pop_ok (w := w) hE.rows hfr.ev hp ho
    unfold Oper.wp
    rw [h1]
    exact hK S v w (.refl _) (fun _ _ => rfl) hfresh hrel h2
  · split at hs
    · rename_i r' hr'
      obtain rfl := Option.some.inj hs
      have := hh (by simp)
      subst this
      refine mop_ok hE hrel hfr.ev hr' ho (fun id _ hid => hfresh id hid) fun v w' S' h1 h2 h3 h4 h5 => hK S' v w' h1 h2 ?_ h4 h5
      intro id hid
      obtain ⟨h6, h7⟩ := hsets_length r'.up hc id hid
      rw [h3 id h7]
      exact hfresh id h6
    · cases hs


theorem distinct_spec : ∀ {R : List Oper}, distinctD R = true → ∀ (i j : Nat) (o o' : Oper) (t : Nat), R[i]? = some o → R[j]? = some o' → o.dst = some t → o'.dst = some t → i = j
  | [], h, i, j, o, o', t, hi, hj, h1, h2 => by simp at hi
  | a :: R, h, i, j, o, o', t, hi, hj, h1, h2 => by
    simp only [distinctD, Bool.and_eq_true] at h
    have key : ∀ (k : Nat) (x : Oper), R[k]? = some x → a.dst = some t → x.dst = some t → False := by
      intro k x hk h3 h4
      have := List.all_eq_true.1 h.1 x (List.mem_of_getElem? hk)
      simp [sameD, h3, h4] at this
    cases i with
    | zero =>
      cases j with
      | zero => rfl
      | succ j =>
        simp only [List.getElem?_cons_zero, Option.some.injEq] at hi
        subst hi
        exact (key j o' (by simpa using hj) h1 h2).elim
    | succ i =>
      cases j with
      | zero =>
        simp only [List.getElem?_cons_zero, Option.some.injEq] at hj
        subst hj
        exact (key i o (by simpa using hi) h2 h1).elim
      | succ j => rw [distinct_spec h.2 i j o o' t (by simpa using hi) (by simpa using hj) h1 h2]

theorem flags_get : ∀ (ds : List DR) (i : Nat) (d : DR), ds[i]? = some d → (flags ds)[i]? = some (fl d)
  | [], i, d, h => by simp at h
  | a :: ds, 0, d, h => by
    simp only [List.getElem?_cons_zero, Option.some.injEq] at h
    subst h; rfl
  | a :: ds, i + 1, d, h => by simp only [flags, List.getElem?_cons_succ]; exact flags_get ds i d (by simpa using h)
theorem isNil_false {α : Type} {l : List α} : (!isNil l) = true ↔ l ≠ [] := by cases l <;> simp [isNil]
theorem inD_spec {a : Option Nat} {l : List Nat} {t : Nat} (h : a = some t) (ht : t ∈ l) : inD a l = true := by
  subst h; exact (memN_iff l t).2 ht

theorem Act.put_size (a : Act) (d : Option Nat) (v : Value) : (a.put d v).tmps.size = a.tmps.size := by cases d <;> simp [Act.put]
theorem Act.put_get (a : Act) (d : Option Nat) (v : Value) (t : Nat) : (a.put d v).tmps.getD t undef = if d = some t ∧ t < a.tmps.size then v else a.tmps.getD t undef := by
  cases d with
  | none => simp [Act.put]
  | some d =>
    simp only [Act.put]
    by_cases hi : t < a.tmps.size
    · by_cases e : d = t
      · subst e; simp [Array.getD, hi]
      · simp [Array.getD, hi, Array.getElem_setIfInBounds, e]
    · simp [Array.getD, hi]

theorem meetN_of {l m : List Nat} {i : Nat} (h1 : i ∈ l) (h2 : i ∈ m) : meetN l m = true := by
  induction l with
  | nil => cases h1
  | cons a l ih =>
    simp only [meetN, Bool.or_eq_true]
    rcases List.mem_cons.1 h1 with rfl | h1
    · exact .inl ((memN_iff _ _).2 h2)
    · exact .inr (ih h1)
theorem meets_full {a b : DR} (ha : a.up ≠ []) (hb : b.up ≠ [] ∨ (b.rd ≠ [] ∧ b.lt = none)) : meets (fl a) (fl b) = true := by
  rcases hb with hb | ⟨hb, hb'⟩
  · simp only [meets, fl, isNil_false.2 ha, isNil_false.2 hb, Bool.true_or, Bool.and_true, Bool.true_and]
    split <;> rfl
  · simp only [meets, fl, isNil_false.2 ha, isNil_false.2 hb, hb', Bool.or_true, Bool.true_or, Bool.and_true]
theorem meets_lite {a b : DR} {l : List Nat} {i : Nat} (ha : i ∈ fstN a.up) (hb : b.lt = some l) (hi : i ∈ l) : meets (fl a) (fl b) = true := by
  have hne : a.up ≠ [] := by intro e; rw [e] at ha; cases ha
  simp only [meets, fl, isNil_false.2 hne, hb, isSo, Bool.or_true, Bool.and_true, Bool.true_and, meetN_of hi ha]
theorem clash_l {R : List Oper} {o o' : Oper} {f f' : FL} (h : meets f f' = true) : clash R o o' f f' = true := by simp only [clash, h, Bool.or_true, Bool.true_or]
theorem clash_r {R : List Oper} {o o' : Oper} {f f' : FL} (h : meets f' f = true) : clash R o o' f f' = true := by simp only [clash, h, Bool.or_true]
theorem lite_step {E : Env} {ρ : Operand → AV} {h h' : List Blk} {n n' : Nat} {o : Oper} {l : List Nat} (hl : liteOf ρ o.op = some l) (he : ∀ i ∈ l, hget h i = hget h' i) : step1 E ρ h n o = step1 E ρ h' n' o := by
  unfold liteOf at hl
  split at hl
  · rename_i t x hop
    unfold step1
    rw [hop]
    simp only [pop, mop, mop1, mop2]
    have : loadA E h t (ρ x) = loadA E h' t (ρ x) := by
      split at hl
      · rename_i id off hx
        cases hl
        rw [hx]
        simp only [loadA, he id (by simp)]
      · rename_i id i sz fld hx
        cases hl
        rw [hx]
        simp only [loadA, he id (by simp)]
      · rename_i K l i fld hx
        rw [hx]
        rfl
      · cases hl
    rw [this]
  · cases hl
structure Inv (W : World) (S0 : Sg) (R : List Oper) (ds : List DR) (fr : List AV) (h : List Blk) (L : Nat → Bool) (S : Sg) (a : Act) (w : World) : Prop where
  rel : Rel W S (hLis L 0 ds h) w
  old : ∀ b, b < W.heap.size → S.F b = S0.F b
  le : S0.le S
  fresh : ∀ id, (hLis L 0 ds h).length ≤ id → S.σ id = none
  size : a.tmps.size = fr.length
  done : ∀ (t i : Nat) (o : Oper) (d : DR), t < fr.length → L i = true → R[i]? = some o → ds[i]? = some d → o.dst = some t → VR S d.v (a.tmps.getD t undef)
  rest : ∀ t, (∀ (i : Nat) (o : Oper), L i = true → R[i]? = some o → o.dst ≠ some t) → VR S (get fr t) (a.tmps.getD t undef)
  defers : a.defers = []
  closed : ∀ j, L j = true → ∀ i, Anc R i j → L i = true

theorem looks_guard {R : List Oper} {o : Oper} {t : Nat} (h : t ∈ tmpsOf o.op.operands.toList) : t ∈ looks R o := by
  unfold looks
  split
  · exact h
  · split
    · exact List.mem_cons_of_mem _ h
    · exact h

theorem draw_ok {G : Gl} (hE : EnvOk G.P G.E) {S : Sg} {fr fr' : List AV} {h h' : List Blk} {a : Act} {w : World} (hc : CfgR G.W G.S0 S fr h a w) {id : Nat} {ops : Array Oper} {ds : List DR} {obs : Obs} (hd : drun G.E ops.toList ops.toList fr h = some (ds, obs, fr', h'))
    (hok : dok ops.toList (flags ds) = true) (ho : allO obs) {Q : Exit → Act → World → Prop} (hK : ∀ S' a' w', CfgR G.W G.S0 S' fr' h' a' w' → Q .normal a' w') : (Code.region id ops true).wp G.P Q a w := by
  obtain ⟨hlen, hfr', hh', hat⟩ := drun_at ops.toList fr h ds obs fr' h' hd ho
  simp only [dok, Bool.and_eq_true] at hok
  obtain ⟨hdist, hall⟩ := hok
  have hspec : ∀ (j : Nat) (o : Oper) (d : DR), ops.toList[j]? = some o → ds[j]? = some d → (∀ p ∈ preds o, p < j) ∧ ∀ (i : Nat) (o1 : Oper) (d1 : DR), i < j → ops.toList[i]? = some o1 → ds[i]? = some d1 →
      clash ops.toList o1 o (fl d1) (fl d) = true → Anc ops.toList i j := by
    intro j o d hj hdj
    have hz : ∀ (i : Nat) (o : Oper) (d : DR), ops.toList[i]? = some o → ds[i]? = some d → (ops.toList.zip (flags ds))[i]? = some (o, fl d) := by
      intro i o d h1 h2
      rw [List.getElem?_zip_eq_some]
      exact ⟨h1, flags_get ds i d h2⟩
    obtain ⟨h1, h2⟩ := dokAll_spec (R := ops.toList) _ [] _ hall j o _ (hz j o d hj hdj)
    simp only [List.length_nil, Nat.zero_add, List.nil_append] at h1 h2
    exact ⟨h1, fun i o1 d1 hij hi hdi hcl => masks_bit ops.toList [] [] rfl rfl (by intro j i hb; simp at hb) j i (h2 i o1 _ hij (hz i o1 d1 hi hdi) hcl)⟩
  have hds : ∀ (i : Nat) (o : Oper), ops.toList[i]? = some o → ∃ d, ds[i]? = some d := fun i o hi => by
    obtain ⟨d, ob, h1, _⟩ := hat i o hi
    exact ⟨d, h1⟩
  -- all orders
  have main : ∀ (fuel : Nat) (listed : Array Bool) (S : Sg) (a : Act) (w : World), listed.size = ops.size → (∀ j, ops.size ≤ j → True) → ((List.range ops.size).filter fun i => !listed.getD i true).length ≤ fuel →
      Inv G.W G.S0 ops.toList ds fr h (fun i => listed.getD i false) S a w → wpAny G.P .any ops Q fuel listed a w := by
    intro fuel
    have ready_spec : ∀ (listed : Array Bool) (i : Nat), i ∈ Region.ready .any ops listed ↔ i < ops.size ∧ listed.getD i true = false ∧ ∃ o, ops.toList[i]? = some o ∧ ∀ p ∈ preds o, listed.getD p false = true := by
      intro listed i
      simp only [Region.ready, List.mem_filter, List.mem_range, Bool.and_eq_true, Bool.not_eq_true']
      constructor
      · rintro ⟨h1, h2, h3⟩
        refine ⟨h1, h2, ops[i], by simp [h1], ?_⟩
        have e : ops[i]? = some ops[i] := by simp [h1]
        rw [e] at h3
        simp only [Option.map_some, Option.getD_some] at h3
        intro p hp
        simp only [preds, List.mem_map, List.mem_filter] at hp
        obtain ⟨ed, ⟨h4, h5⟩, rfl⟩ := hp
        have := Array.all_eq_true_iff_forall_mem.1 h3 ed (by simpa using h4)
        simpa [h5] using this
      · rintro ⟨h1, h2, o, h3, h4⟩
        refine ⟨h1, h2, ?_⟩
        have e : ops[i]? = some o := by simpa using h3
        rw [e]
        simp only [Option.map_some, Option.getD_some]
        rw [Array.all_eq_true_iff_forall_mem]
        intro ed hed
        by_cases hb : Region.binds .any ed = true
        · have := h4 ed.on (by simp only [preds, List.mem_map, List.mem_filter]; exact ⟨ed, ⟨by simpa using hed, hb⟩, rfl⟩)
          simp [this]
        · simp [hb]
    -- nothing is ready: all are listed
    have finish : ∀ (listed : Array Bool) (S : Sg) (a : Act) (w : World), listed.size = ops.size → Region.ready .any ops listed = [] → Inv G.W G.S0 ops.toList ds fr h (fun i => listed.getD i false) S a w → Q .normal a w := by
      intro listed S a w hls hr hi
      have hall : ∀ i, i < ops.size → listed.getD i false = true := by
        intro i
        induction i using Nat.strongRecOn with
        | _ i ih =>
          intro hlt
          cases hl : listed.getD i false with
          | true => rfl
          | false =>
            exfalso
            have hlt' : i < listed.size := by rw [hls]; exact hlt
            have hmem : i ∈ Region.ready .any ops listed := by
              rw [ready_spec]
              have e : ops.toList[i]? = some ops[i] := by simp [hlt]
              refine ⟨hlt, by simpa [Array.getD, hlt'] using hl, ops[i], e, fun p hp => ?_⟩
              obtain ⟨d, hdi⟩ := hds i _ e
              have := (hspec i _ d e hdi).1 p hp
              exact ih p this (by omega)
            rw [hr] at hmem
            simp at hmem
      have hnl : ds.length = ops.size := by rw [hlen]; simp
      have hhl : hLis (fun i => listed.getD i false) 0 ds h = h' := by
        rw [hh']
        have := hLis_take ds.length 0 ds h
        rw [List.take_length] at this
        rw [← this]
        refine hLis_congr 0 ds h fun k d hk _ => ?_
        have hkl : k < ds.length := (List.getElem?_eq_some_iff.1 hk).1
        have := hall k (by omega)
        simp only [Nat.zero_add]
        rw [this]
        simp [hkl]
      refine hK S a w ⟨by rw [← hhl]; exact hi.rel, hi.old, hi.le, by rw [← hhl]; exact hi.fresh, ⟨?_, ?_⟩, hi.defers⟩
      · rw [hi.size, hfr', frN_length]
      · intro t
        rw [hfr']
        rcases frN_spec ops.toList ds fr t hlen with ⟨ht, i, o, d, h1, h2, h3, h4⟩ | ⟨h1, h2⟩
        · rw [h4]
          have hil : i < ops.size := by simpa using (List.getElem?_eq_some_iff.1 h1).1
          exact hi.done t i o d ht (hall i hil) h1 h2 h3
        · rw [h2]
          by_cases ht : t < fr.length
          · exact hi.rest t fun i o _ hio => h1 ht i o hio
          · have : get fr t = .any := by
              have : ∀ (l : List AV) (n : Nat), l.length ≤ n → get l n = .any := by
                intro l
                induction l with
                | nil => intro n _; rfl
                | cons x l ih => intro n hn; cases n with | zero => simp at hn | succ n => exact ih n (by simpa using hn)
              exact this fr t (by omega)
            rw [this]
            simp only [VR]
    induction fuel with
    | zero =>
      intro listed S a w hls _ hf hi
      have hr : Region.ready .any ops listed = [] := by
        rw [List.eq_nil_iff_forall_not_mem]
        intro i hmem
        rw [ready_spec] at hmem
        have hm : i ∈ (List.range ops.size).filter fun i => !listed.getD i true := by
          simp only [List.mem_filter, List.mem_range]
          exact ⟨hmem.1, by rw [hmem.2.1]; rfl⟩
        have := List.length_pos_of_mem hm
        omega
      exact ⟨hr, finish listed S a w hls hr hi⟩
    | succ fuel ih =>
      intro listed S a w hls _ hf hi
      refine ⟨fun hr => finish listed S a w hls hr hi, fun i hmem => ?_⟩
      rw [ready_spec] at hmem
      obtain ⟨hin, hnl, o, hio, hpre⟩ := hmem
      obtain ⟨d, ob, hdi, hstep, hob⟩ := hat i o hio
      have hil : i < listed.size := by rw [hls]; exact hin
      have hLi : listed.getD i false = false := by simpa [Array.getD, hil] using hnl
      have hL' : ∀ k, (listed.setIfInBounds i true).getD k false = if k = i then true else listed.getD k false := by
        intro k
        by_cases e : k = i
        · subst e; simp [Array.getD, hil]
        · by_cases hk : k < listed.size
          · simp [Array.getD, hk, Array.getElem_setIfInBounds, Ne.symm e, e]
          · simp [Array.getD, hk, e]
      have hanc : ∀ k, Anc ops.toList k i → listed.getD k false = true := by
        intro k hk
        cases hk with
        | one h1 h2 => rw [hio] at h1; cases h1; exact hpre k h2
        | more h1 h2 h3 => rw [hio] at h1; cases h1; exact hi.closed _ (hpre _ h2) k h3
      have hanc' : ∀ k, Anc ops.toList i k → listed.getD k false = false := by
        intro k hk
        cases hlk : listed.getD k false with
        | false => rfl
        | true => have := hi.closed k hlk i hk; rw [hLi] at this; cases this
      -- the slots that it looks at
      have hkeep : FrR S (keep (looks ops.toList o) 0 (frN (ops.toList.take i) (ds.take i) fr)) a := by
        refine ⟨by rw [keep_length, frN_length]; exact hi.size, fun t => ?_⟩
        rw [keep_get, Nat.zero_add]
        by_cases ht : t ∈ looks ops.toList o
        · rw [if_pos ht]
          rcases frN_spec (ops.toList.take i) (ds.take i) fr t (by rw [List.length_take, List.length_take, hlen]) with ⟨htl, j, o', d', h1, h2, h3, h4⟩ | ⟨h1, h2⟩
          · rw [h4]
            have hji : j < i := by
              have := (List.getElem?_eq_some_iff.1 h1).1
              rw [List.length_take] at this
              omega
            rw [List.getElem?_take, if_pos hji] at h1 h2
            refine hi.done t j o' d' htl ?_ h1 h2 h3
            refine hanc j ((hspec i o d hio hdi).2 j o' d' hji h1 h2 ?_)
            simp [clash, inD_spec h3 ht]
          · rw [h2]
            by_cases htl : t < fr.length
            · refine hi.rest t fun k o' hLk hko hdk => ?_
              rcases Nat.lt_trichotomy k i with hk | hk | hk
              · exact h1 htl k o' (by rw [List.getElem?_take, if_pos hk]; exact hko) hdk
              · subst hk; rw [hLi] at hLk; cases hLk
              · obtain ⟨d', hdk'⟩ := hds k o' hko
                have := hanc' k ((hspec k o' d' hko hdk').2 i o d hk hio hdi (by simp [clash, inD_spec hdk ht]))
                (try simp only at hLk)
                rw [this] at hLk; cases hLk
            · have : get fr t = .any := by
                have : ∀ (l : List AV) (n : Nat), l.length ≤ n → get l n = .any := by
                  intro l
                  induction l with
                  | nil => intro n _; rfl
                  | cons x l ih => intro n hn; cases n with | zero => simp at hn | succ n => exact ih n (by simpa using hn)
                exact this fr t (by omega)
              rw [this]
              simp only [VR]
        · rw [if_neg ht]
          simp only [VR]
      -- memory that it looks at
      have hmem : d.up ≠ [] ∨ (d.rd ≠ [] ∧ d.lt = none) → hLis (fun k => listed.getD k false) 0 ds h = hN (ds.take i) h := by
        intro hm
        have := hLis_take i 0 ds h
        rw [← this]
        refine hLis_congr 0 ds h fun k d' hk hu => ?_
        simp only [Nat.zero_add]
        have hkl : k < ops.toList.length := by rw [← hlen]; exact (List.getElem?_eq_some_iff.1 hk).1
        have hko : ops.toList[k]? = some ops.toList[k] := List.getElem?_eq_getElem hkl
        rcases Nat.lt_trichotomy k i with hki | hki | hki
        · rw [hanc k ((hspec i o d hio hdi).2 k _ d' hki hko hk (clash_l (meets_full hu hm)))]
          simp [hki]
        · subst hki
          rw [hLi]; simp
        · rw [hanc' k ((hspec k _ d' hko hk).2 i o d hki hio hdi (clash_r (meets_full hu hm)))]
          simp [Nat.lt_asymm hki]
      have hlite : ∀ l, d.lt = some l → ∀ id ∈ l, hget (hN (ds.take i) h) id = hget (hLis (fun k => listed.getD k false) 0 ds h) id := by
        intro l hl id hid
        have := hLis_take i 0 ds h
        rw [← this]
        refine hLis_at id 0 ds h h rfl fun k d' hk hu => ?_
        simp only [Nat.zero_add]
        have hkl : k < ops.toList.length := by rw [← hlen]; exact (List.getElem?_eq_some_iff.1 hk).1
        have hko : ops.toList[k]? = some ops.toList[k] := List.getElem?_eq_getElem hkl
        rcases Nat.lt_trichotomy k i with hki | hki | hki
        · rw [hanc k ((hspec i o d hio hdi).2 k _ d' hki hko hk (clash_l (meets_lite hu hl hid)))]
          simp [hki]
        · subst hki
          rw [hLi]; simp
        · rw [hanc' k ((hspec k _ d' hko hk).2 i o d hki hio hdi (clash_r (meets_lite hu hl hid)))]
          simp [Nat.lt_asymm hki]
      have hnext : d.up ≠ [] → hLis (fun k => (listed.setIfInBounds i true).getD k false) 0 ds h = hsets (hLis (fun k => listed.getD k false) 0 ds h) d.up := by
        intro hu0
        rw [hmem (.inl hu0)]
        have h1 := hLis_take (i + 1) 0 ds h
        have h2 : hN (ds.take (i + 1)) h = hsets (hN (ds.take i) h) d.up := by
          have happ : ∀ (l : List DR) (x : DR) (h : List Blk), hN (l ++ [x]) h = hsets (hN l h) x.up := by
            intro l x
            induction l with
            | nil => intro h; rfl
            | cons y l ihl => intro h; simp only [List.cons_append, hN]; exact ihl _
          rw [List.take_add_one, hdi]
          exact happ _ d h
        rw [← h2, ← h1]
        refine hLis_congr 0 ds h fun k d' hk hu => ?_
        simp only [Nat.zero_add]
        rw [hL']
        have hkl : k < ops.toList.length := by rw [← hlen]; exact (List.getElem?_eq_some_iff.1 hk).1
        have hko : ops.toList[k]? = some ops.toList[k] := List.getElem?_eq_getElem hkl
        rcases Nat.lt_trichotomy k i with hki | hki | hki
        · rw [if_neg (by omega), hanc k ((hspec i o d hio hdi).2 k _ d' hki hko hk (clash_l (meets_full hu (.inl hu0))))]
          simp; omega
        · subst hki; simp
        · rw [if_neg (by omega), hanc' k ((hspec k _ d' hko hk).2 i o d hki hio hdi (clash_r (meets_full hu (.inl hu0))))]
          simp; omega
      have hsame : d.up = [] → hLis (fun k => (listed.setIfInBounds i true).getD k false) 0 ds h = hLis (fun k => listed.getD k false) 0 ds h := by
        intro hu0
        refine hLis_congr 0 ds h fun k d' hk hu => ?_
        simp only [Nat.zero_add]
        rw [hL']
        rw [if_neg]
        rintro rfl
        rw [hdi] at hk
        cases hk
        exact hu hu0
      have hafter : hLis (fun k => (listed.setIfInBounds i true).getD k false) 0 ds h = hsets (hLis (fun k => listed.getD k false) 0 ds h) d.up := by
        by_cases hu : d.up = []
        · rw [hsame hu, hu]; rfl
        · exact hnext hu
      -- what holds behind it
      have cont : ∀ S' v w', S.le S' → (∀ b, b < G.W.heap.size → S'.F b = S.F b) → (∀ id, (hsets (hLis (fun k => listed.getD k false) 0 ds h) d.up).length ≤ id → S'.σ id = none) → Rel G.W S' (hsets (hLis (fun k => listed.getD k false) 0 ds h) d.up) w' → VR S' d.v v →
          wpAny G.P .any ops Q fuel (listed.setIfInBounds i true) (a.put o.dst v) w' := by
        intro S' v w' hS hold hfresh hrel hv
        refine ih (listed.setIfInBounds i true) S' (a.put o.dst v) w' (by simpa using hls) (fun _ _ => trivial) ?_ ?_
        · have hm : i ∈ (List.range ops.size).filter fun i => !listed.getD i true := by
            simp only [List.mem_filter, List.mem_range]
            exact ⟨hin, by rw [hnl]; rfl⟩
          have hsub : ((List.range ops.size).filter fun i_1 => !(listed.setIfInBounds i true).getD i_1 true) = ((List.range ops.size).filter fun i => !listed.getD i true).filter fun k => !(k == i) := by
            rw [List.filter_filter]
            refine List.filter_congr fun k hk => ?_
            have hkl : k < listed.size := by rw [hls]; simpa using hk
            by_cases e : k = i
            · subst e; simp [Array.getD, hkl]
            · simp [Array.getD, hkl, Array.getElem_setIfInBounds, Ne.symm e, e]
          rw [hsub]
          have hlt : (((List.range ops.size).filter fun i => !listed.getD i true).filter fun k => !(k == i)).length < ((List.range ops.size).filter fun i => !listed.getD i true).length := by
            rw [List.length_filter_lt_length_iff_exists]
            exact ⟨i, hm, by simp⟩
          omega
        · refine ⟨by rw [hafter]; exact hrel, fun b hb => (hold b hb).trans (hi.old b hb), hi.le.trans hS, by rw [hafter]; exact hfresh, by rw [Act.put_size]; exact hi.size, ?_, ?_, ?_, ?_⟩
          · intro t j o' d' htl hLj hjo hjd hdst
            (try simp only at hLj)
            rw [hL'] at hLj
            rw [Act.put_get]
            by_cases e : o.dst = some t ∧ t < a.tmps.size
            · rw [if_pos e]
              have := distinct_spec hdist i j o o' t hio hjo e.1 hdst
              subst this
              rw [hdi] at hjd
              cases hjd
              exact hv
            · rw [if_neg e]
              have hji : j ≠ i := by
                rintro rfl
                rw [hio] at hjo
                cases hjo
                exact e ⟨hdst, by rw [hi.size]; exact htl⟩
              rw [if_neg hji] at hLj
              exact VR.mono hS _ _ (hi.done t j o' d' htl hLj hjo hjd hdst)
          · intro t ht
            have hne : o.dst ≠ some t := ht i o (by rw [hL']; simp) hio
            rw [Act.put_get, if_neg (fun e => hne e.1)]
            refine VR.mono hS _ _ (hi.rest t fun k o' hLk hko => ht k o' ?_ hko)
            (try simp only at hLk ⊢)
            rw [hL']
            by_cases e : k = i
            · simp [e]
            · rw [if_neg e]; exact hLk
          · cases o.dst <;> exact hi.defers
          · intro j hLj k hk
            (try simp only at hLj ⊢)
            rw [hL'] at hLj ⊢
            by_cases e : k = i
            · simp [e]
            · rw [if_neg e]
              by_cases e' : j = i
              · subst e'; exact hanc k hk
              · rw [if_neg e'] at hLj
                exact hi.closed j hLj k hk
      -- the operation itself
      have hio' : ops[i]? = some o := by simpa using hio
      simp only [wpOp, hio']
      unfold dstep at hstep
      have eR : ops = ops.toList.toArray := by simp
      split at hstep
      · rename_i hw
        have hw' := wantedA_yes hkeep hw
        rw [← eR] at hw'
        rw [if_pos hw']
        refine .inl ?_
        cases hst : strips (keep (looks ops.toList o) 0 (frN (ops.toList.take i) (ds.take i) fr)) (oprs o.op) with
        | mk fr1 gs =>
          rw [hst] at hstep
          cases hr : step1 G.E (Sx.ev fr1) (hN (ds.take i) h) (hN (ds.take i) h).length o with
          | none => simp [hr] at hstep
          | some r =>
            simp only [hr, Option.some.injEq, Prod.mk.injEq] at hstep
            obtain ⟨rfl, rfl⟩ := hstep
            rw [allO_append] at hob
            cases hlt : liteOf (Sx.ev fr1) o.op with
            | none => exact exec_ok hE hi.rel hi.fresh (strips_ok hkeep hst hob.1) hr hob.2 (fun hrd => hmem (.inr ⟨hrd, hlt⟩)) cont
            | some l =>
              have hr' := (lite_step (E := G.E) (n := (hN (ds.take i) h).length) (n' := (hLis (fun k => listed.getD k false) 0 ds h).length) hlt (hlite l hlt)).symm.trans hr
              exact exec_ok hE hi.rel hi.fresh (strips_ok hkeep hst hob.1) hr' hob.2 (fun _ => rfl) cont
      · rename_i hw
        have hw' := wantedA_no hkeep hw
        rw [← eR] at hw'
        rw [if_neg (by rw [hw']; simp)]
        simp only [Option.some.injEq, Prod.mk.injEq] at hstep
        obtain ⟨rfl, rfl⟩ := hstep
        exact cont S undef w (.refl _) (fun _ _ => rfl) hi.fresh hi.rel (show VR S .und undef by simp only [VR])
      · rename_i g hw
        have hw' := wantedA_may hkeep hw
        rw [← eR] at hw'
        cases hst : strips (keep (looks ops.toList o) 0 (frN (ops.toList.take i) (ds.take i) fr)) (oprs o.op) with
        | mk fr1 gs =>
          rw [hst] at hstep
          cases hr : step1 G.E (Sx.ev fr1) (hN (ds.take i) h) (hN (ds.take i) h).length o with
          | none => simp [hr] at hstep
          | some r =>
            obtain ⟨v, up, obs', rd⟩ := r
            cases up with
            | cons u us => simp [hr] at hstep
            | nil =>
              simp only [hr, Option.some.injEq, Prod.mk.injEq] at hstep
              obtain ⟨rfl, rfl⟩ := hstep
              by_cases hg : g ()
              · rw [if_pos (hw'.2 hg)]
                refine .inl ?_
                have ho' := gdObs_ok hg hob
                rw [allO_append] at ho'
                cases hlt : liteOf (Sx.ev fr1) o.op with
                | none => exact exec_ok (r := ⟨v, [], obs', rd⟩) hE hi.rel hi.fresh (strips_ok hkeep hst ho'.1) hr ho'.2 (fun hrd => hmem (.inr ⟨hrd, hlt⟩)) fun S' v' w' h1 h2 h3 h4 h5 => cont S' v' w' h1 h2 h3 h4 (by simp only [VR]; exact fun _ => h5)
                | some l =>
                  have hr' := (lite_step (E := G.E) (n := (hN (ds.take i) h).length) (n' := (hLis (fun k => listed.getD k false) 0 ds h).length) hlt (hlite l hlt)).symm.trans hr
                  exact exec_ok (r := ⟨v, [], obs', rd⟩) hE hi.rel hi.fresh (strips_ok hkeep hst ho'.1) hr' ho'.2 (fun _ => rfl) fun S' v' w' h1 h2 h3 h4 h5 => cont S' v' w' h1 h2 h3 h4 (by simp only [VR]; exact fun _ => h5)
              · rw [if_neg (fun hh => hg (hw'.1 hh))]
                exact cont S undef w (.refl _) (fun _ _ => rfl) hi.fresh hi.rel (by simp only [VR]; exact fun hh => absurd hh hg)
      · cases hstep
  refine wp_region_any hE.mixed (main ops.size (Array.replicate ops.size false) S a _ (by simp) (fun _ _ => trivial) (Nat.le_trans (List.length_filter_le _ _) (by simp)) ?_)
  have hL0 : (fun i => (Array.replicate ops.size false).getD i false) = fun _ => false := by
    funext i
    simp only [Array.getD]
    split <;> simp
  rw [hL0]
  have hh0 : hLis (fun _ => false) 0 ds h = h := hLis_none 0 ds h _ fun _ _ => rfl
  refine ⟨by rw [hh0]; exact ⟨hc.rel.below.drew, hc.rel.fv, hc.rel.blk, hc.rel.own, hc.rel.inj⟩, hc.old, hc.le, by rw [hh0]; exact hc.fresh, hc.fr.size, (fun t i o d _ hf => by cases hf), (fun t _ => hc.fr.get t), hc.defers, (fun j hf => by cases hf)⟩

end
end Go.Sx
