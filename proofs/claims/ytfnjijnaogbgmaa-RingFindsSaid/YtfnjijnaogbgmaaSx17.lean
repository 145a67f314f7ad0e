/- A reckoner of Go code over told values: regions that draw their order. -/
import Derived.Test.YtfnjijnaogbgmaaSx16
namespace Go.Sx
open Go Go.RowKit
set_option linter.unusedVariables false
set_option linter.unusedSimpArgs false

/-- i comes ahead of j. -/
inductive Anc (R : List Oper) : Nat → Nat → Prop
  | one {i j : Nat} {o : Oper} : R[j]? = some o → i ∈ preds o → Anc R i j
  | more {i p j : Nat} {o : Oper} : R[j]? = some o → p ∈ preds o → Anc R i p → Anc R i j

theorem memN_iff : ∀ (l : List Nat) (n : Nat), memN l n = true ↔ n ∈ l
  | [], n => by simp [memN]
  | a :: l, n => by
    simp only [memN]
    by_cases e : a = n
    · subst e; simp
    · rw [if_neg e, memN_iff l n]
      simp [Ne.symm e]
theorem keep_length : ∀ (ts : List Nat) (n : Nat) (fr : List AV), (keep ts n fr).length = fr.length
  | ts, n, [] => rfl
  | ts, n, x :: fr => by simp [keep, keep_length ts (n + 1) fr]
theorem keep_get : ∀ (ts : List Nat) (n : Nat) (fr : List AV) (i : Nat), get (keep ts n fr) i = if (n + i) ∈ ts then get fr i else .any
  | ts, n, [], i => by simp [keep, get]
  | ts, n, x :: fr, 0 => by
    simp only [keep, get, Nat.add_zero]
    by_cases e : n ∈ ts
    · rw [if_pos e, (memN_iff ts n).2 e]
    · rw [if_neg e]
      cases hm : memN ts n with
      | false => rfl
      | true => exact absurd ((memN_iff ts n).1 hm) e
  | ts, n, x :: fr, i + 1 => by
    simp only [keep, get]
    rw [keep_get ts (n + 1) fr i, show n + 1 + i = n + (i + 1) by omega]

theorem maskOf_bit {R : List Oper} {acc : List Nat} (hacc : ∀ j i, (acc.getD j 0).testBit i = true → Anc R i j) : ∀ (ps : List Nat) (i : Nat), (maskOf acc ps).testBit i = true → i ∈ ps ∨ ∃ p ∈ ps, Anc R i p
  | [], i, h => by simp [maskOf] at h
  | p :: ps, i, h => by
    simp only [maskOf, Nat.testBit_or, Bool.or_eq_true] at h
    rcases h with h | h | h
    · rw [Nat.testBit_two_pow] at h
      have : p = i := by simpa using h
      exact .inl (by simp [this])
    · exact .inr ⟨p, by simp, hacc p i h⟩
    · rcases maskOf_bit hacc ps i h with h | ⟨q, hq, ha⟩
      · exact .inl (List.mem_cons_of_mem _ h)
      · exact .inr ⟨q, List.mem_cons_of_mem _ hq, ha⟩
theorem masks_bit {R : List Oper} : ∀ (os pre : List Oper) (acc : List Nat), R = pre ++ os → acc.length = pre.length → (∀ j i, (acc.getD j 0).testBit i = true → Anc R i j) → ∀ j i, ((masks os acc).getD j 0).testBit i = true → Anc R i j
  | [], pre, acc, hR, hl, hacc => by simpa only [masks] using hacc
  | o :: os, pre, acc, hR, hl, hacc => by
    simp only [masks]
    refine masks_bit os (pre ++ [o]) _ (by rw [hR]; simp) (by simp [hl]) ?_
    intro j i hb
    rw [List.getD_eq_getElem?_getD, List.getElem?_append] at hb
    by_cases hj : j < acc.length
    · rw [if_pos hj] at hb
      exact hacc j i (by rw [List.getD_eq_getElem?_getD]; exact hb)
    · rw [if_neg hj] at hb
      by_cases hj' : j = acc.length
      · subst hj'
        simp only [Nat.sub_self, List.getElem?_cons_zero, Option.getD_some] at hb
        have hRj : R[acc.length]? = some o := by rw [hR, hl]; simp
        rcases maskOf_bit hacc _ i hb with h | ⟨p, hp, ha⟩
        · exact .one hRj h
        · exact .more hRj hp ha
      · have : ([maskOf acc (preds o)] : List Nat)[j - acc.length]? = none := by
          rw [List.getElem?_eq_none]; simp; omega
        rw [this] at hb
        simp at hb

theorem dokIn_spec {b : LO} {m : Nat} : ∀ (l : List LO) (n : Nat), dokIn b m n l = true → ∀ i a, l[i]? = some a → clashL a b = true → m.testBit (n + i) = true
  | [], n, h, i, a, hl, hc => by simp at hl
  | a1 :: l, n, h, i, a, hl, hc => by
    simp only [dokIn] at h
    cases i with
    | zero =>
      simp only [List.getElem?_cons_zero, Option.some.injEq] at hl
      subst hl
      rw [hc] at h
      simp only at h
      split at h
      · assumption
      · cases h
    | succ i =>
      simp only [List.getElem?_cons_succ] at hl
      have h' : dokIn b m (n + 1) l = true := by
        split at h
        · exact h
        · split at h
          · exact h
          · cases h
      have := dokIn_spec l (n + 1) h' i a hl hc
      rwa [show n + 1 + i = n + (i + 1) by omega] at this
theorem dokAll_spec : ∀ (l done : List LO) (ms : List Nat), dokAll done l ms = true → ∀ j b, l[j]? = some b →
    ∀ i a, i < done.length + j → (done ++ l)[i]? = some a → clashL a b = true → (ms.getD j 0).testBit i = true
  | [], done, ms, h, j, b, hl => by simp at hl
  | b1 :: l, done, [], h, j, b, hl => by simp [dokAll] at h
  | b1 :: l, done, m :: ms, h, j, b, hl => by
    simp only [dokAll] at h
    split at h
    · rename_i hin
      cases j with
      | zero =>
        simp only [List.getElem?_cons_zero, Option.some.injEq] at hl
        subst hl
        intro i a hi hd hc
        rw [List.getElem?_append_left (by simpa using hi)] at hd
        have := dokIn_spec done 0 hin i a hd hc
        simpa using this
      | succ j =>
        simp only [List.getElem?_cons_succ] at hl
        have hlen : (done ++ [b1]).length = done.length + 1 := by simp
        have h2 := dokAll_spec l (done ++ [b1]) ms h j b hl
        rw [hlen] at h2
        intro i a hi hd hc
        have := h2 i a (by omega) (by rw [List.append_assoc]; exact hd) hc
        simpa using this
    · cases h
theorem predsOk_spec : ∀ (l : List Oper) (n : Nat), predsOk n l = true → ∀ j o, l[j]? = some o → ∀ p ∈ preds o, p < n + j
  | [], n, h, j, o, hl => by simp at hl
  | o1 :: l, n, h, j, o, hl => by
    simp only [predsOk, Bool.and_eq_true] at h
    cases j with
    | zero =>
      simp only [List.getElem?_cons_zero, Option.some.injEq] at hl
      subst hl
      intro p hp
      have := List.all_eq_true.1 h.1 p hp
      simpa using this
    | succ j =>
      simp only [List.getElem?_cons_succ] at hl
      intro p hp
      have := predsOk_spec l (n + 1) h.2 j o hl p hp
      omega
theorem los_get {R : List Oper} : ∀ (os : List Oper) (fs : List FL) (i : Nat) (o : Oper) (f : FL), os[i]? = some o → fs[i]? = some f → (los R os fs)[i]? = some (lo R o f)
  | [], fs, i, o, f, h1, h2 => by simp at h1
  | o1 :: os, [], i, o, f, h1, h2 => by simp at h2
  | o1 :: os, f1 :: fs, 0, o, f, h1, h2 => by
    simp only [List.getElem?_cons_zero, Option.some.injEq] at h1 h2
    subst h1 h2
    rfl
  | o1 :: os, f1 :: fs, i + 1, o, f, h1, h2 => by
    simp only [los, List.getElem?_cons_succ] at h1 h2 ⊢
    exact los_get os fs i o f h1 h2
theorem bitL_bit : ∀ (l : List Nat) (x : Nat), x ∈ l → (bitL l).testBit x = true
  | [], x, h => by cases h
  | a :: l, x, h => by
    simp only [bitL, Nat.testBit_or, Bool.or_eq_true]
    rcases List.mem_cons.1 h with rfl | h
    · exact .inl (by rw [Nat.testBit_two_pow]; simp)
    · exact .inr (bitL_bit l x h)
theorem bitO_bit {a : Option Nat} {x : Nat} (h : a = some x) : (bitO a).testBit x = true := by
  subst h
  simp only [bitO]
  rw [Nat.testBit_two_pow]; simp
theorem clash_lo {R : List Oper} {o o' : Oper} {f f' : FL} (h : clash R o o' f f' = true) : clashL (lo R o f) (lo R o' f') = true := by
  unfold clashL
  split
  · rename_i h0
    have key : ∀ x, (((bitO o.dst) &&& ((bitO o'.dst) ||| (bitL (looks R o')))) ||| ((bitO o'.dst) &&& (bitL (looks R o)))).testBit x = false := by
      intro x
      simp only [lo] at h0
      rw [h0]
      simp
    simp only [Nat.testBit_or, Nat.testBit_and, Bool.or_eq_false_iff] at key
    simp only [clash, Bool.or_eq_true] at h
    rcases h with (((h | h) | h) | h) | h
    · exfalso
      unfold sameD at h
      split at h
      · rename_i x hx
        split at h
        · rename_i y hy
          obtain rfl : x = y := by simpa using h
          have := (key x).1
          rw [bitO_bit hx, bitO_bit hy] at this
          simp at this
        · cases h
      · cases h
    · exfalso
      unfold inD at h
      split at h
      · rename_i x hx
        have := (key x).1
        rw [bitO_bit hx, bitL_bit _ x ((memN_iff _ _).1 h)] at this
        simp at this
      · cases h
    · exfalso
      unfold inD at h
      split at h
      · rename_i x hx
        have := (key x).2
        rw [bitO_bit hx, bitL_bit _ x ((memN_iff _ _).1 h)] at this
        simp at this
      · cases h
    · have hw : f.w = true := by simp only [meets, Bool.and_eq_true] at h; exact h.1.1
      simp only [lo, hw, h, Bool.true_or]
    · have hw : f'.w = true := by simp only [meets, Bool.and_eq_true] at h; exact h.1.1
      simp only [lo, hw, h, Bool.or_true]
      split <;> rfl
  · rfl

def frN : List Oper → List DR → List AV → List AV
  | o :: os, d :: ds, fr => frN os ds (putO fr o.dst d.v)
  | _, _, fr => fr
def hN : List DR → List Blk → List Blk
  | [], h => h
  | d :: ds, h => hN ds (hsets h d.up)
theorem putO_length (fr : List AV) (d : Option Nat) (v : AV) : (putO fr d v).length = fr.length := by cases d <;> simp [putO, put_length]
theorem frN_length : ∀ (os : List Oper) (ds : List DR) (fr : List AV), (frN os ds fr).length = fr.length
  | [], ds, fr => rfl
  | o :: os, [], fr => rfl
  | o :: os, d :: ds, fr => by simp only [frN]; rw [frN_length os ds, putO_length]
theorem frN_spec : ∀ (os : List Oper) (ds : List DR) (fr : List AV) (t : Nat), ds.length = os.length →
    (t < fr.length ∧ ∃ (i : Nat) (o : Oper) (d : DR), os[i]? = some o ∧ ds[i]? = some d ∧ o.dst = some t ∧ get (frN os ds fr) t = d.v) ∨ ((t < fr.length → ∀ (i : Nat) (o : Oper), os[i]? = some o → o.dst ≠ some t) ∧ get (frN os ds fr) t = get fr t)
  | [], ds, fr, t, hl => .inr ⟨fun _ i o h => by simp at h, rfl⟩
  | o :: os, [], fr, t, hl => by simp at hl
  | o :: os, d :: ds, fr, t, hl => by
    simp only [frN]
    have hp : get (putO fr o.dst d.v) t = if o.dst = some t ∧ t < fr.length then d.v else get fr t := by
      cases hd : o.dst with
      | none => simp [putO]
      | some x =>
        simp only [putO]
        rw [get_put]
        by_cases e : t = x
        · subst e; simp
        · rw [if_neg (fun h => e h.1), if_neg (fun h => e (Option.some.inj h.1).symm)]
    rcases frN_spec os ds (putO fr o.dst d.v) t (by simpa using hl) with ⟨h0, i, o', d', h1, h2, h3, h4⟩ | ⟨h1, h2⟩
    · exact .inl ⟨by rwa [putO_length] at h0, i + 1, o', d', by simpa using h1, by simpa using h2, h3, h4⟩
    · rw [putO_length] at h1
      by_cases e : o.dst = some t ∧ t < fr.length
      · rw [if_pos e] at hp
        exact .inl ⟨e.2, 0, o, d, rfl, rfl, e.1, by rw [h2, hp]⟩
      · rw [if_neg e] at hp
        refine .inr ⟨fun ht i o' ho' => ?_, by rw [h2, hp]⟩
        cases i with
        | zero =>
          simp only [List.getElem?_cons_zero, Option.some.injEq] at ho'
          subst ho'
          exact fun hd => e ⟨hd, ht⟩
        | succ i => exact h1 ht i o' (by simpa using ho')

theorem drunK_at {E : Env} {R : List Oper} : ∀ (os : List Oper) (fr : List AV) (h : List Blk) (ds : List DR) (obs : Obs) (fr' : List AV) (h' : List Blk), drunK E R os fr h = some (ds, obs, fr', h') → allO obs →
    ds.length = os.length ∧ fr' = frN os ds fr ∧ h' = hN ds h ∧ ∀ (i : Nat) (o : Oper), os[i]? = some o → ∃ (d : DR) (ob : Obs), ds[i]? = some d ∧ dstepK E R (frN (os.take i) (ds.take i) fr) (hN (ds.take i) h) o = some (d, ob) ∧ allO ob
  | [], fr, h, ds, obs, fr', h', hd, ho => by
    simp only [drunK, Option.some.injEq, Prod.mk.injEq] at hd
    obtain ⟨rfl, rfl, rfl, rfl⟩ := hd
    exact ⟨rfl, rfl, rfl, fun i o hi => by simp at hi⟩
  | o :: os, fr, h, ds, obs, fr', h', hd, ho => by
    simp only [drunK] at hd
    split at hd
    · rename_i d ob hdo
      split at hd
      · rename_i ds2 obs2 fr2 h2 hd2
        simp only [Option.some.injEq, Prod.mk.injEq] at hd
        obtain ⟨rfl, rfl, rfl, rfl⟩ := hd
        rw [allO_append] at ho
        obtain ⟨h3, h4, h5, h6⟩ := drunK_at os _ _ _ _ _ _ hd2 ho.2
        refine ⟨by simp [h3], by rw [h4]; rfl, by rw [h5]; rfl, fun i o' hi => ?_⟩
        cases i with
        | zero =>
          simp only [List.getElem?_cons_zero, Option.some.injEq] at hi
          subst hi
          exact ⟨d, ob, rfl, by simpa [frN, hN] using hdo, ho.1⟩
        | succ i =>
          obtain ⟨d', ob', h7, h8, h9⟩ := h6 i o' (by simpa using hi)
          exact ⟨d', ob', by simpa using h7, by simpa [frN, hN] using h8, h9⟩
      · cases hd
    · cases hd

def hLis (listed : Nat → Bool) : Nat → List DR → List Blk → List Blk
  | _, [], h => h
  | n, d :: ds, h => hLis listed (n + 1) ds (if listed n = true then hsets h d.up else h)
theorem hLis_congr {l1 l2 : Nat → Bool} : ∀ (n : Nat) (ds : List DR) (h : List Blk), (∀ (k : Nat) (d : DR), ds[k]? = some d → d.up ≠ [] → l1 (n + k) = l2 (n + k)) → hLis l1 n ds h = hLis l2 n ds h
  | n, [], h, hc => rfl
  | n, d :: ds, h, hc => by
    simp only [hLis]
    have e : (if l1 n = true then hsets h d.up else h) = (if l2 n = true then hsets h d.up else h) := by
      by_cases hu : d.up = []
      · rw [hu]; simp [hsets]
      · have := hc 0 d rfl hu
        simp only [Nat.add_zero] at this
        rw [this]
    rw [e]
    exact hLis_congr (n + 1) ds _ fun k d' hk hu => by
      have := hc (k + 1) d' (by simpa using hk) hu
      rwa [show n + (k + 1) = n + 1 + k by omega] at this
theorem hget_hsets_congr (id : Nat) : ∀ (us : List (Nat × Blk)) (h h' : List Blk), hget h id = hget h' id → hget (hsets h us) id = hget (hsets h' us) id
  | [], h, h', e => e
  | (n, b) :: us, h, h', e => by
    simp only [hsets]
    refine hget_hsets_congr id us _ _ ?_
    rw [hget_hset, hget_hset, e]
theorem hget_hsets_none (id : Nat) : ∀ (us : List (Nat × Blk)) (h : List Blk), id ∉ fstN us → hget (hsets h us) id = hget h id
  | [], h, _ => rfl
  | (n, b) :: us, h, hn => by
    simp only [fstN, List.mem_cons, not_or] at hn
    simp only [hsets]
    rw [hget_hsets_none id us _ hn.2, hget_hset, if_neg hn.1]
theorem hLis_at {l1 l2 : Nat → Bool} (id : Nat) : ∀ (n : Nat) (ds : List DR) (h h' : List Blk), hget h id = hget h' id → (∀ (k : Nat) (d : DR), ds[k]? = some d → id ∈ fstN d.up → l1 (n + k) = l2 (n + k)) → hget (hLis l1 n ds h) id = hget (hLis l2 n ds h') id
  | n, [], h, h', e, hc => e
  | n, d :: ds, h, h', e, hc => by
    simp only [hLis]
    refine hLis_at id (n + 1) ds _ _ ?_ fun k d' hk hu => ?_
    · by_cases hu : id ∈ fstN d.up
      · have := hc 0 d rfl hu
        simp only [Nat.add_zero] at this
        rw [this]
        split
        · exact hget_hsets_congr id d.up h h' e
        · exact e
      · have e1 : ∀ (b : Bool) (g : List Blk), hget (if b = true then hsets g d.up else g) id = hget g id := by
          intro b g
          cases b
          · simp
          · simp [hget_hsets_none id d.up g hu]
        rw [e1, e1, e]
    · have := hc (k + 1) d' (by simpa using hk) hu
      rwa [show n + (k + 1) = n + 1 + k by omega] at this
theorem hLis_none : ∀ (n : Nat) (ds : List DR) (h : List Blk) (l : Nat → Bool), (∀ k, n ≤ k → l k = false) → hLis l n ds h = h
  | n, [], h, l, hl => rfl
  | n, d :: ds, h, l, hl => by
    simp only [hLis]
    rw [hl n (Nat.le_refl _)]
    exact hLis_none (n + 1) ds h l fun k hk => hl k (by omega)
theorem hLis_take : ∀ (i n : Nat) (ds : List DR) (h : List Blk), hLis (fun k => decide (k < n + i)) n ds h = hN (ds.take i) h
  | i, n, [], h => by simp [hLis, hN]
  | 0, n, d :: ds, h => by
    rw [hLis_none]
    · simp [hN]
    · intro k hk; simp; omega
  | i + 1, n, d :: ds, h => by
    simp only [hLis, List.take_succ_cons, hN]
    rw [if_pos (by simp)]
    have := hLis_take i (n + 1) ds (hsets h d.up)
    rwa [show n + 1 + i = n + (i + 1) by omega] at this

section
variable {P : Program} {E : Env} {W : World} {S0 : Sg}

theorem fstN_eq : ∀ us : List (Nat × Blk), fstN us = us.map (·.1)
  | [] => rfl
  | (n, b) :: us => by simp only [fstN, List.map_cons, fstN_eq us]
/-- An operation of such a region. -/
theorem exec_ok (hE : EnvOk P E) {S : Sg} {fr' : List AV} {hc : List Blk} {a : Act} {w : World} {n : Nat} (hrel : Rel W S hc w) (hfr : FrR S fr' a) {o : Oper} {r : Res} (hs : step1 E (ev fr') hc n o = some r) (ho : allO r.obs) (hnew : ∀ id ∈ fstN r.up, n ≤ id → S.σ id = none)
    {K : Act → World → Prop} {Q : Exit → Act → World → Prop}
    (hK : ∀ S' v w', S.le S' → (∀ b, b < W.heap.size → S'.F b = S.F b) → (∀ id, id ∉ fstN r.up → S'.σ id = S.σ id) → Rel W S' (hsets hc r.up) w' → VR S' r.v v → K (a.put o.dst v) w') : o.wp P a w K Q := by
  unfold step1 at hs
  split at hs
  · rename_i x obs hp
    obtain rfl := Option.some.inj hs
    obtain ⟨v, h1, h2⟩ := pop_ok (w := w) hE.rows hfr.ev hp ho
    unfold Oper.wp
    rw [h1]
    exact hK S v w (.refl _) (fun _ _ => rfl) (fun _ _ => rfl) hrel h2
  · split at hs
    · rename_i r' hr'
      obtain rfl := Option.some.inj hs
      refine mop_ok hE hrel hfr.ev hr' ho (fun id hid hn => hnew id (by rw [fstN_eq]; exact hid) hn) fun v w' S' h1 h2 h3 h4 h5 => hK S' v w' h1 h2 (fun id hid => h3 id (by rw [fstN_eq] at hid; exact hid)) h4 h5
    · cases hs
theorem decs_len {K : Kd} {n : Nat} {h : List Blk} : ∀ {parts : List (Nat × AV)} {ys : List (Unit → K.T)}, decs K n h parts = some ys → ys.length = n := by
  intro parts ys hd
  unfold decs at hd
  have key : ∀ (parts : List (Nat × AV)) (acc : Option (List (Unit → K.T))), (∀ l, acc = some l → l.length = n) → ∀ ys, parts.foldl (fun acc p => match acc with
      | none => none
      | some l => match K.dec (frz h p.2.cells) with
        | some (y, []) => if p.1 < n then some (l.set p.1 y) else none
        | _ => none) acc = some ys → ys.length = n := by
    intro parts
    induction parts with
    | nil => intro acc ha ys h1; exact ha ys h1
    | cons p ps ih =>
      intro acc ha ys h1
      simp only [List.foldl_cons] at h1
      refine ih _ ?_ ys h1
      intro l hl
      cases acc with
      | none => simp at hl
      | some l0 =>
        simp only at hl
        split at hl
        · split at hl
          · obtain rfl := Option.some.inj hl
            simp [ha l0 rfl]
          · cases hl
        · cases hl
  exact key parts _ (by intro l hl; obtain rfl := Option.some.inj hl; simp) ys hd
theorem slsOf_app : ∀ (a b : List AV), slsOf (a ++ b) = slsOf a ++ slsOf b
  | [], b => rfl
  | x :: a, b => by simp only [List.cons_append, slsOf, slsOf_app a b, List.append_assoc]
theorem frz_nosl {h h' : List Blk} : ∀ {xs : List AV}, slsOf xs = [] → frz h xs = frz h' xs
  | [], _ => rfl
  | x :: xs, hs => by
    simp only [slsOf, List.append_eq_nil_iff] at hs
    simp only [frz, frz_nosl (h := h) (h' := h') hs.2]
    congr 1
    cases x <;> first | rfl | (simp [slOf] at hs)
theorem slObss_nosl {h : List Blk} : ∀ {xs : List AV}, slsOf xs = [] → slObss h xs = []
  | [], _ => rfl
  | x :: xs, hs => by
    simp only [slsOf, List.append_eq_nil_iff] at hs
    simp only [slObss, slObss_nosl (h := h) hs.2, List.append_nil]
    cases x <;> first | rfl | (simp [slOf] at hs)
theorem decs_nosl {K : Kd} {n : Nat} {h h' : List Blk} {parts : List (Nat × AV)} (hs : slsOf (partCells parts) = []) : decs K n h parts = decs K n h' parts := by
  unfold decs
  generalize (some (List.replicate n (fun _ => K.z)) : Option (List (Unit → K.T))) = acc
  induction parts generalizing acc with
  | nil => rfl
  | cons p ps ih =>
    obtain ⟨i, x⟩ := p
    simp only [partCells, slsOf_app, List.append_eq_nil_iff] at hs
    simp only [List.foldl_cons, frz_nosl (h := h) (h' := h') hs.1]
    exact ih hs.2 _
theorem build_nosl {E : Env} {ρ : Operand → AV} {h h' : List Blk} {n m : Nat} {t : TypeId} {ps : Array (Nat × Operand)} (hs : slsOf (partCells (ps.toList.map fun p => (p.1, ρ p.2))) = []) : mop1 E ρ h n (.buildSlice t m ps) = mop1 E ρ h' n (.buildSlice t m ps) := by
  simp only [mop1, hs, slObss_nosl hs, kill]
  split
  · split
    · rename_i K _ _
      rw [decs_nosl (K := _) (h := h) (h' := h') hs]
    · rfl
  · rfl
/-- A new row that is read alone. -/
theorem mayB_ok (hE : EnvOk P E) {S : Sg} {fr' : List AV} {hc : List Blk} {a : Act} {w : World} {n : Nat} (hrel : Rel W S hc w) (hfr : FrR S fr' a) {o : Oper} {r : Res} (hs : mayB E (ev fr') n o.op = some r) (ho : allO r.obs) (hn : S.σ n = none)
    {K : Act → World → Prop} {Q : Exit → Act → World → Prop}
    (hK : ∀ S' v w', S.le S' → (∀ b, b < W.heap.size → S'.F b = S.F b) → (∀ id, id ∉ fstN r.up → S'.σ id = S.σ id) → Rel W S' (hsets hc r.up) w' → VR S' r.v v → K (a.put o.dst v) w') : o.wp P a w K Q := by
  unfold mayB at hs
  split at hs
  · rename_i t m ps hop
    split at hs
    · rename_i id sz off len n' T KK l obs rd hm
      obtain rfl := Option.some.inj hs
      have hm0 := hm
      -- what mop1 gives
      simp only [mop1] at hm
      split at hm
      · rename_i e _ _ _ _ _
        split at hm
        · rename_i K2 _
          split at hm
          · rename_i ys hys
            split at hm
            · simp only [Option.some.injEq, Res.mk.injEq, AV.sl.injEq, List.cons.injEq, Prod.mk.injEq, Blk.row.injEq] at hm
              obtain ⟨⟨rfl, rfl, rfl, rfl⟩, ⟨⟨rfl, rfl, rfl, hl⟩, hk⟩, rfl, rfl⟩ := hm
              obtain rfl := eq_of_heq hl
              have hns : slsOf (partCells (ps.toList.map fun p => (p.1, Sx.ev fr' p.2))) = [] := by
                cases hq : slsOf (partCells (ps.toList.map fun p => (p.1, Sx.ev fr' p.2))) with
                | nil => rfl
                | cons q qs => rw [hq] at hk; simp [kill] at hk
              have hmm := (build_nosl (E := E) (h := []) (h' := hc) (n := n) (t := t) (m := m) hns).symm.trans hm0
              have hst : step1 E (Sx.ev fr') hc n o = some ⟨.sl n K2.size (.l 0) (.l m), (n, .row e K2 fun _ => ys.map fun y => y ()) :: kill (slsOf (partCells (ps.toList.map fun p => (p.1, Sx.ev fr' p.2)))), slObss [] (partCells (ps.toList.map fun p => (p.1, Sx.ev fr' p.2))), [0]⟩ := by
                unfold step1
                rw [hop]
                simp only [pop, mop, hmm, hns, kill]
              rw [hns] at hst
              simp only [kill] at hst
              refine exec_ok hE hrel hfr hst ho (by intro id hid _; simp only [fstN, List.mem_singleton] at hid; subst hid; exact hn) fun S' v w' h1 h2 h3 h4 h5 => ?_
              simp only [hsets] at h4
              have hf := frz_rel h4 [n]
              refine hK (frzS S' (hset hc n (.row e K2 fun _ => ys.map fun y => y ())) [n] w') v w' (h1.trans (frz_le h4 _)) (fun b hb => (frz_old h4 _ b hb).trans (h2 b hb)) (fun id hid => h3 id (by simpa [fstN] using hid)) (hf.ext fun id => ?_) ?_
              · simp only [kill, hsets, hget_hset]
                split <;> rfl
              · have := roOf_ok (ids := [n]) h4 h5 (by
                  simp only [slObs, hget_hset, if_pos, allO, and_true, SN.d]
                  simp [decs_len hys]) (by simp [slOf])
                simp only [roOf, hget_hset, if_pos, SN.d, List.drop_zero] at this
                have e : ∀ l : List K2.T, l.length = m → l.take m = l := fun l hl => by rw [← hl, List.take_length]
                rw [show (fun _ : Unit => (ys.map fun y => y ()).take m) = fun _ => ys.map fun y => y () from funext fun _ => e _ (by simp [decs_len hys])] at this
                exact this
            · cases hm
          · cases hm
        · cases hm
      · cases hm
    · cases hs
  · cases hs
theorem mayB_up {E : Env} {ρ : Operand → AV} {n : Nat} {o : Op} {r : Res} (hs : mayB E ρ n o = some r) : r.up = [(n, .dead)] := by
  unfold mayB at hs
  split at hs
  · split at hs
    · obtain rfl := Option.some.inj hs; rfl
    · cases hs
  · cases hs
theorem mayB_nodefer {E : Env} {ρ : Operand → AV} {n : Nat} {o : Op} {r : Res} (hs : mayB E ρ n o = some r) : ∀ c, o ≠ .defer c := by
  rintro c rfl
  simp [mayB] at hs
theorem Rel.dead {S : Sg} {h : List Blk} {w : World} (hr : Rel W S h w) {n : Nat} (hn : S.σ n = none) : Rel W S (hsets h [(n, .dead)]) w := by
  refine hr.ext fun id => ?_
  simp only [hsets, hget_hset]
  split
  · rename_i e
    subst e
    cases hg : hget h id with
    | dead => rfl
    | _ => exact absurd hn (hr.σ_of_alive (by rw [hg]; rfl))
  · rfl
/-- A step that looks at no memory. -/
theorem step1_pop {E : Env} {ρ : Operand → AV} {h h' : List Blk} {n n' : Nat} {o : Oper} {r : Res} (hs : step1 E ρ h n o = some r) (hr : r.rd = []) : step1 E ρ h' n' o = some r := by
  unfold step1 at hs ⊢
  cases hp : pop E ρ o.op with
  | some x => rw [hp] at hs; exact hs
  | none =>
    rw [hp] at hs
    simp only at hs
    split at hs
    · obtain rfl := Option.some.inj hs
      simp at hr
    · cases hs

/-! Blocks that are written in another order. -/
theorem hset_comm : ∀ (h : List Blk) (n m : Nat) (b c : Blk), n ≠ m → hset (hset h n b) m c = hset (hset h m c) n b
  | [], 0, 0, b, c, hne => absurd rfl hne
  | [], 0, m + 1, b, c, hne => by simp only [hset]
  | [], n + 1, 0, b, c, hne => by simp only [hset]
  | [], n + 1, m + 1, b, c, hne => by simp only [hset]; rw [hset_comm [] n m b c (by omega)]
  | a :: h, 0, 0, b, c, hne => absurd rfl hne
  | a :: h, 0, m + 1, b, c, hne => by simp only [hset]
  | a :: h, n + 1, 0, b, c, hne => by simp only [hset]
  | a :: h, n + 1, m + 1, b, c, hne => by simp only [hset]; rw [hset_comm h n m b c (by omega)]
theorem hsets_hset : ∀ (us : List (Nat × Blk)) (h : List Blk) (n : Nat) (b : Blk), n ∉ fstN us → hsets (hset h n b) us = hset (hsets h us) n b
  | [], h, n, b, hn => rfl
  | (m, c) :: us, h, n, b, hn => by
    simp only [fstN, List.mem_cons, not_or] at hn
    simp only [hsets]
    rw [hset_comm h n m b c hn.1, hsets_hset us _ n b hn.2]
theorem hsets_comm : ∀ (us vs : List (Nat × Blk)) (h : List Blk), (∀ i ∈ fstN us, i ∉ fstN vs) → hsets (hsets h us) vs = hsets (hsets h vs) us
  | [], vs, h, hd => rfl
  | (n, b) :: us, vs, h, hd => by
    simp only [hsets]
    rw [hsets_comm us vs (hset h n b) fun i hi => hd i (by simp [fstN, hi]), hsets_hset vs h n b (hd n (by simp [fstN]))]
theorem hLis_hsets {L : Nat → Bool} : ∀ (n : Nat) (ds : List DR) (h : List Blk) (us : List (Nat × Blk)), (∀ (k : Nat) (d : DR), ds[k]? = some d → L (n + k) = true → ∀ i ∈ fstN us, i ∉ fstN d.up) → hLis L n ds (hsets h us) = hsets (hLis L n ds h) us
  | n, [], h, us, hd => rfl
  | n, d :: ds, h, us, hd => by
    simp only [hLis]
    have ih := fun h => hLis_hsets (L := L) (n + 1) ds h us fun k d' hk hl => by
      refine hd (k + 1) d' (by simpa using hk) ?_
      rwa [show n + (k + 1) = n + 1 + k by omega]
    cases hl : L n with
    | false => simp only [Bool.false_eq_true, if_false]; exact ih h
    | true =>
      simp only [if_true]
      rw [hsets_comm us d.up h (hd 0 d rfl (by simpa using hl))]
      exact ih _
theorem hLis_add {L L' : Nat → Bool} : ∀ (j n : Nat) (ds : List DR) (h : List Blk) (d : DR), ds[j]? = some d → L (n + j) = false → L' (n + j) = true → (∀ k, k ≠ n + j → L' k = L k) →
    (∀ (k : Nat) (d' : DR), ds[k]? = some d' → j < k → L (n + k) = true → ∀ i ∈ fstN d.up, i ∉ fstN d'.up) → hLis L' n ds h = hsets (hLis L n ds h) d.up
  | j, n, [], h, d, hj, h1, h2, h3, h4 => by simp at hj
  | 0, n, d0 :: ds, h, d, hj, h1, h2, h3, h4 => by
    simp only [List.getElem?_cons_zero, Option.some.injEq] at hj
    subst hj
    simp only [Nat.add_zero] at h1 h2
    simp only [hLis, h1, h2, if_true, Bool.false_eq_true, if_false]
    rw [← hLis_hsets (L := L) (n + 1) ds h d0.up fun k d' hk hl => h4 (k + 1) d' (by simpa using hk) (by omega) (by rwa [show n + (k + 1) = n + 1 + k by omega])]
    exact hLis_congr (n + 1) ds _ fun k d' _ _ => h3 _ (by omega)
  | j + 1, n, d0 :: ds, h, d, hj, h1, h2, h3, h4 => by
    simp only [hLis]
    rw [h3 n (by omega)]
    exact hLis_add j (n + 1) ds _ d (by simpa using hj) (by rwa [show n + 1 + j = n + (j + 1) by omega]) (by rwa [show n + 1 + j = n + (j + 1) by omega]) (fun k hk => h3 k (by omega)) fun k d' hk hjk hl => h4 (k + 1) d' (by simpa using hk) (by omega) (by rwa [show n + (k + 1) = n + 1 + k by omega])
theorem hN_le : ∀ (ds : List DR) (h : List Blk) (id : Nat), (hN ds h).length ≤ id → h.length ≤ id ∧ ∀ (k : Nat) (d : DR), ds[k]? = some d → id ∉ fstN d.up
  | [], h, id, hl => ⟨hl, fun k d hk => by simp at hk⟩
  | d :: ds, h, id, hl => by
    simp only [hN] at hl
    obtain ⟨h1, h2⟩ := hN_le ds _ id hl
    obtain ⟨h3, h4⟩ := hsets_length d.up h id h1
    refine ⟨h3, fun k d' hk => ?_⟩
    cases k with
    | zero =>
      simp only [List.getElem?_cons_zero, Option.some.injEq] at hk
      subst hk
      rw [fstN_eq]; exact h4
    | succ k => exact h2 k d' (by simpa using hk)


theorem distinct_spec : ∀ {R : List Oper}, distinctD R = true → ∀ (i j : Nat) (o o' : Oper) (t : Nat), R[i]? = some o → R[j]? = some o' → o.dst = some t → o'.dst = some t → i = j
  | [], h, i, j, o, o', t, hi, hj, h1, h2 => by simp at hi
  | a :: R, h, i, j, o, o', t, hi, hj, h1, h2 => by
    simp only [distinctD, Bool.and_eq_true] at h
    have key : ∀ (k : Nat) (x : Oper), R[k]? = some x → a.dst = some t → x.dst = some t → False := by
      intro k x hk h3 h4
      have := List.all_eq_true.1 h.1 x (List.mem_of_getElem? hk)
      simp [sameD, h3, h4] at this
    cases i with
    | zero =>
      cases j with
      | zero => rfl
      | succ j =>
        simp only [List.getElem?_cons_zero, Option.some.injEq] at hi
        subst hi
        exact (key j o' (by simpa using hj) h1 h2).elim
    | succ i =>
      cases j with
      | zero =>
        simp only [List.getElem?_cons_zero, Option.some.injEq] at hj
        subst hj
        exact (key i o (by simpa using hi) h2 h1).elim
      | succ j => rw [distinct_spec h.2 i j o o' t (by simpa using hi) (by simpa using hj) h1 h2]

theorem flags_get : ∀ (ds : List DR) (i : Nat) (d : DR), ds[i]? = some d → (flags ds)[i]? = some (fl d)
  | [], i, d, h => by simp at h
  | a :: ds, 0, d, h => by
    simp only [List.getElem?_cons_zero, Option.some.injEq] at h
    subst h; rfl
  | a :: ds, i + 1, d, h => by simp only [flags, List.getElem?_cons_succ]; exact flags_get ds i d (by simpa using h)
theorem isNil_false {α : Type} {l : List α} : (!isNil l) = true ↔ l ≠ [] := by cases l <;> simp [isNil]
theorem inD_spec {a : Option Nat} {l : List Nat} {t : Nat} (h : a = some t) (ht : t ∈ l) : inD a l = true := by
  subst h; exact (memN_iff l t).2 ht

theorem Act.put_size (a : Act) (d : Option Nat) (v : Value) : (a.put d v).tmps.size = a.tmps.size := by cases d <;> simp [Act.put]
theorem Act.put_get (a : Act) (d : Option Nat) (v : Value) (t : Nat) : (a.put d v).tmps.getD t undef = if d = some t ∧ t < a.tmps.size then v else a.tmps.getD t undef := by
  cases d with
  | none => simp [Act.put]
  | some d =>
    simp only [Act.put]
    by_cases hi : t < a.tmps.size
    · by_cases e : d = t
      · subst e; simp [Array.getD, hi]
      · simp [Array.getD, hi, Array.getElem_setIfInBounds, e]
    · simp [Array.getD, hi]

theorem meetN_of {l m : List Nat} {i : Nat} (h1 : i ∈ l) (h2 : i ∈ m) : meetN l m = true := by
  induction l with
  | nil => cases h1
  | cons a l ih =>
    simp only [meetN, Bool.or_eq_true]
    rcases List.mem_cons.1 h1 with rfl | h1
    · exact .inl ((memN_iff _ _).2 h2)
    · exact .inr (ih h1)
theorem meets_full {a b : DR} (ha : a.up ≠ []) (hn : b.lt = none) (hb : b.up ≠ [] ∨ b.rd ≠ []) : meets (fl a) (fl b) = true := by
  rcases hb with hb | hb
  · simp only [meets, fl, isNil_false.2 ha, isNil_false.2 hb, hn, Bool.true_or, Bool.and_true]
  · simp only [meets, fl, isNil_false.2 ha, isNil_false.2 hb, hn, Bool.or_true, Bool.true_or, Bool.and_true]
theorem fstN_ne {us : List (Nat × Blk)} {i : Nat} (h : i ∈ fstN us) : us ≠ [] := by intro e; rw [e] at h; cases h
theorem meets_lite {a b : DR} {l : List Nat} {i : Nat} (ha : i ∈ fstN a.up) (hb : b.lt = some l) (hi : i ∈ l) : meets (fl a) (fl b) = true := by
  simp only [meets, fl, isNil_false.2 (fstN_ne ha), hb, isSo, Bool.or_true, Bool.and_true, Bool.true_and, meetN_of hi ha, Bool.true_or]
theorem meets_ups {a b : DR} {i : Nat} (ha : i ∈ fstN a.up) (hb : i ∈ fstN b.up) : meets (fl a) (fl b) = true := by
  simp only [meets, fl, isNil_false.2 (fstN_ne ha), isNil_false.2 (fstN_ne hb), Bool.true_or, Bool.and_true, Bool.true_and]
  split
  · rw [meetN_of hb ha, Bool.or_true]
  · rfl
theorem clash_l {R : List Oper} {o o' : Oper} {f f' : FL} (h : meets f f' = true) : clash R o o' f f' = true := by simp only [clash, h, Bool.or_true, Bool.true_or]
theorem clash_r {R : List Oper} {o o' : Oper} {f f' : FL} (h : meets f' f = true) : clash R o o' f f' = true := by simp only [clash, h, Bool.or_true]
theorem noRef_vB {h h' : List Blk} : ∀ (n : Nat) (x : AV), noRef n x = true → vB n h x = vB n h' x ∧ vI n h x = vI n h' x ∧ vO n h x = vO n h' x
  | 0, x, hx => by simp [noRef] at hx
  | n + 1, x, hx => by
    have key : ∀ xs : List AV, xs.all (noRef n) = true → xs.map (vB n h) = xs.map (vB n h') ∧ xs.flatMap (vI n h) = xs.flatMap (vI n h') ∧ xs.flatMap (vO n h) = xs.flatMap (vO n h') := by
      intro xs
      induction xs with
      | nil => intro _; exact ⟨rfl, rfl, rfl⟩
      | cons y ys ih =>
        intro hy
        simp only [List.all_cons, Bool.and_eq_true] at hy
        obtain ⟨h1, h2, h3⟩ := noRef_vB (h := h) (h' := h') n y hy.1
        obtain ⟨h4, h5, h6⟩ := ih hy.2
        simp only [List.map_cons, List.flatMap_cons, h1, h2, h3, h4, h5, h6, and_self]
    cases x <;> try exact ⟨rfl, rfl, rfl⟩
    case ptr => simp [noRef] at hx
    case sl => simp [noRef] at hx
    case fn f a b =>
      simp only [noRef, Bool.and_eq_true] at hx
      simp only [vB, vI, vO]
      obtain ⟨h1, h2, h3⟩ := key a hx.1
      obtain ⟨h4, h5, h6⟩ := key b hx.2
      rw [h1, h2, h3, h4, h5, h6]
      exact ⟨rfl, rfl, rfl⟩
    case agg cs =>
      simp only [noRef] at hx
      simp only [vB, vI, vO]
      obtain ⟨h1, h2, h3⟩ := key cs hx
      rw [h1, h2, h3]
      exact ⟨rfl, rfl, rfl⟩
theorem allRef_vB {h h' : List Blk} (n : Nat) : ∀ (xs : List AV), allRef n xs = true → xs.map (vB n h) = xs.map (vB n h') ∧ xs.flatMap (vI n h) = xs.flatMap (vI n h') ∧ xs.flatMap (vO n h) = xs.flatMap (vO n h')
  | [], _ => ⟨rfl, rfl, rfl⟩
  | x :: xs, hx => by
    simp only [allRef] at hx
    split at hx
    · rename_i hr
      obtain ⟨h1, h2, h3⟩ := noRef_vB (h := h) (h' := h') n x hr
      obtain ⟨h4, h5, h6⟩ := allRef_vB (h := h) (h' := h') n xs hx
      simp only [List.map_cons, List.flatMap_cons, h1, h2, h3, h4, h5, h6, and_self]
    · cases hx
theorem step1_of {E : Env} {ρ : Operand → AV} {h h' : List Blk} {n : Nat} {o : Oper} (h1 : mop1 E ρ h n o.op = mop1 E ρ h' n o.op) (h2 : mop2 E ρ h n o.op = mop2 E ρ h' n o.op) (h3 : mop3 E ρ h n o.op = mop3 E ρ h' n o.op) : step1 E ρ h n o = step1 E ρ h' n o := by
  unfold step1 mop
  rw [h1, h2, h3]
theorem lite_step {E : Env} {ρ : Operand → AV} {h h' : List Blk} {n : Nat} {o : Oper} {l : List Nat} (hl : liteOf ρ o.op = some l) (he : ∀ i ∈ l, hget h i = hget h' i) : step1 E ρ h n o = step1 E ρ h' n o := by
  unfold liteOf at hl
  split at hl
  · rename_i t x hop
    have : loadA E h t (ρ x) = loadA E h' t (ρ x) := by
      split at hl
      · rename_i id off hx
        cases hl
        rw [hx]
        simp only [loadA, he id (by simp)]
      · rename_i id i sz fld hx
        cases hl
        rw [hx]
        simp only [loadA, he id (by simp)]
      · rename_i K l i fld hx
        rw [hx]
        rfl
      · rename_i cs off hx
        rw [hx]
        rfl
      · cases hl
    refine step1_of ?_ ?_ ?_ <;> rw [hop]
    · simp only [mop1, this]
    · rfl
    · rfl
  · rename_i t hop
    refine step1_of ?_ ?_ ?_ <;> rw [hop] <;> rfl
  · rename_i t x hop
    refine step1_of ?_ ?_ ?_ <;> rw [hop] <;> rfl
  · rename_i t x y hop
    refine step1_of ?_ ?_ ?_ <;> rw [hop] <;> rfl
  · rename_i t n ps hop
    split at hl
    · rename_i hns
      refine step1_of ?_ ?_ ?_ <;> rw [hop]
      · exact build_nosl hns
      · rfl
      · rfl
    · cases hl
  · rename_i t x y hop
    have : storeA E h t (ρ x) (ρ y) = storeA E h' t (ρ x) (ρ y) := by
      split at hl
      · rename_i id off hx
        cases hl
        rw [hx]
        simp only [storeA, he id (by simp)]
      · cases hl
    refine step1_of ?_ ?_ ?_ <;> rw [hop]
    · simp only [mop1, this]
    · rfl
    · rfl
  · rename_i c hop
    obtain ⟨callee, as, ts⟩ := c
    unfold liteCall at hl
    cases callee with
    | value f =>
      simp only at hl
      split at hl
      · rename_i g xs hcall
        split at hl
        · rename_i hr
          obtain ⟨h1, h2, h3⟩ := allRef_vB (h := h) (h' := h') 6 xs hr
          refine step1_of ?_ ?_ ?_ <;> rw [hop]
          · simp only [mop1, hcall, h1, h2, h3]
          · rfl
          · rfl
        · cases hl
      · cases hl
    | builtin b =>
      cases b <;> first | (cases hl; done) | skip
      simp only at hl
      split at hl
      · rename_i s x hsx
        cases hl
        have hr : ∀ v, (∀ i ∈ slOf v, hget h i = hget h' i) → roOf h v = roOf h' v ∧ slObs h v = slObs h' v := by
          intro v hv
          cases v <;> first | exact ⟨rfl, rfl⟩ | skip
          rename_i id sz off len
          simp only [roOf, slObs, hv id (by simp [slOf]), and_self]
        obtain ⟨e1, e2⟩ := hr (ρ x) (fun i hi => he i (by simp [hi]))
        have e3 : ∀ id sz off len, ρ s = .sl id sz off len → hget h id = hget h' id := fun id sz off len hs => he id (by simp [hs, slOf])
        refine step1_of ?_ ?_ ?_ <;> rw [hop]
        · simp only [mop1, hsx, e1, e2]
          cases hs : ρ s <;> first | rfl | skip
          rename_i id sz off len
          have e4 := e3 _ _ _ _ hs
          cases off with
          | l n => cases n <;> first | rfl | (simp only [e4])
          | t f => rfl
        · simp only [mop2, hsx]
          cases hs : ρ s <;> first | rfl | skip
          rename_i id sz off len
          have e4 := e3 _ _ _ _ hs
          cases off with
          | l n => cases n <;> first | rfl | (simp only [e4])
          | t f => rfl
        · rfl
      · cases hl
    | _ => cases hl
  · cases hl
structure Inv (W : World) (S0 : Sg) (R : List Oper) (ds : List DR) (fr : List AV) (h : List Blk) (L : Nat → Bool) (S : Sg) (a : Act) (w : World) : Prop where
  rel : Rel W S (hLis L 0 ds h) w
  old : ∀ b, b < W.heap.size → S.F b = S0.F b
  le : S0.le S
  fresh : ∀ id, h.length ≤ id → (∀ (k : Nat) (d : DR), L k = true → ds[k]? = some d → id ∉ fstN d.up) → S.σ id = none
  size : a.tmps.size = fr.length
  done : ∀ (t i : Nat) (o : Oper) (d : DR), t < fr.length → L i = true → R[i]? = some o → ds[i]? = some d → o.dst = some t → VR S d.v (a.tmps.getD t undef)
  rest : ∀ t, (∀ (i : Nat) (o : Oper), L i = true → R[i]? = some o → o.dst ≠ some t) → VR S (get fr t) (a.tmps.getD t undef)
  defers : Marks W S0 S a.defers
  closed : ∀ j, L j = true → ∀ i, Anc R i j → L i = true

theorem looks_guard {R : List Oper} {o : Oper} {t : Nat} (h : t ∈ tmpsOf o.op.operands.toList) : t ∈ looks R o := by
  unfold looks
  split
  · exact h
  · split
    · exact List.mem_cons_of_mem _ h
    · exact h

theorem keep_put (ts : List Nat) (v : AV) : ∀ (fr : List AV) (n t : Nat), n + t ∈ ts → put (keep ts n fr) t v = keep ts n (put fr t v)
  | [], n, t, h => rfl
  | x :: fr, n, 0, h => by
    simp only [keep, put]
    rw [(memN_iff _ _).2 (by simpa using h)]
  | x :: fr, n, t + 1, h => by
    simp only [keep, put]
    rw [keep_put ts v fr (n + 1) t (by rwa [show n + 1 + t = n + (t + 1) by omega])]
theorem strips_keep (ts : List Nat) : ∀ (ys : List Operand) (fr : List AV), (∀ t, Operand.tmp t ∈ ys → t ∈ ts) → strips (keep ts 0 fr) ys = (keep ts 0 (strips fr ys).1, (strips fr ys).2)
  | [], fr, h => rfl
  | y :: ys, fr, h => by
    have hys : ∀ t, Operand.tmp t ∈ ys → t ∈ ts := fun t ht => h t (List.mem_cons_of_mem _ ht)
    cases y with
    | tmp t =>
      have ht := h t List.mem_cons_self
      have hg : get (keep ts 0 fr) t = get fr t := by rw [keep_get, Nat.zero_add, if_pos ht]
      simp only [strips, hg]
      split
      · rename_i g v hgv
        rw [keep_put ts v fr 0 t (by simpa using ht), strips_keep ts ys _ hys]
      · exact strips_keep ts ys fr hys
    | const v => simp only [strips]; exact strips_keep ts ys fr hys
    | global v => simp only [strips]; exact strips_keep ts ys fr hys
    | func v => simp only [strips]; exact strips_keep ts ys fr hys
theorem tmpsOf_mem : ∀ (ys : List Operand) (t : Nat), Operand.tmp t ∈ ys → t ∈ tmpsOf ys
  | [], t, h => by cases h
  | y :: ys, t, h => by
    rcases List.mem_cons.1 h with rfl | h
    · simp [tmpsOf]
    · have := tmpsOf_mem ys t h
      cases y <;> simp [tmpsOf, this]
theorem oprs_looks {R : List Oper} {o : Oper} {t : Nat} (h : Operand.tmp t ∈ oprs o.op) : t ∈ looks R o := by
  refine looks_guard (tmpsOf_mem _ _ ?_)
  unfold oprs at h
  split at h
  · rename_i c a b hop
    simp only [List.mem_singleton] at h
    rw [hop, ← h]
    simp [Op.operands]
  · exact h
theorem wanted_keep {R : List Oper} {o : Oper} (fr : List AV) : wantedA R (keep (looks R o) 0 fr) o = wantedA R fr o := by
  unfold wantedA
  cases hg : o.guard with
  | none => rfl
  | some p =>
    obtain ⟨j, want⟩ := p
    simp only
    cases hj : nth R j with
    | none => rfl
    | some o' =>
      obtain ⟨dst, op, ty, pos, after, guard⟩ := o'
      cases dst with
      | none => rfl
      | some d =>
        have hd : d ∈ looks R o := by simp [looks, hg, hj]
        simp only
        rw [keep_get, Nat.zero_add, if_pos hd]
theorem evK_eq (ts : List Nat) (fr : List AV) : ev (keep ts 0 fr) = evK ts fr := by
  funext y
  cases y with
  | tmp t =>
    simp only [ev, evK]
    rw [keep_get, Nat.zero_add]
    by_cases h : t ∈ ts
    · rw [if_pos h, (memN_iff _ _).2 h]
    · rw [if_neg h]
      have : memN ts t = false := by
        cases hm : memN ts t with
        | false => rfl
        | true => exact absurd ((memN_iff _ _).1 hm) h
      rw [this]
  | const v => rfl
  | global v => rfl
  | func v => rfl
theorem dstep_eq {E : Env} {R : List Oper} {fr : List AV} {h : List Blk} {o : Oper} : dstep E R fr h o = dstepK E R fr h o := by
  unfold dstep dstepK
  rw [wanted_keep, strips_keep (looks R o) (oprs o.op) fr (fun t ht => oprs_looks ht)]
  simp only [evK_eq]
theorem drun_eq {E : Env} {R : List Oper} : ∀ (os : List Oper) (fr : List AV) (h : List Blk), drun E R os fr h = drunK E R os fr h
  | [], fr, h => rfl
  | o :: os, fr, h => by
    simp only [drun, drunK, dstep_eq, drun_eq os]
theorem draw_ok {G : Gl} (hE : EnvOk G.P G.E) {S : Sg} {fr fr' : List AV} {h h' : List Blk} {a : Act} {w : World} (hc : CfgR G.W G.S0 S fr h a w) {id : Nat} {ops : Array Oper} {ds : List DR} {obs : Obs} (hd : drun G.E ops.toList ops.toList fr h = some (ds, obs, fr', h'))
    (hok : dok ops.toList (flags ds) = true) (ho : allO obs) {Q : Exit → Act → World → Prop} (hK : ∀ S' a' w', CfgR G.W G.S0 S' fr' h' a' w' → Q .normal a' w') : (Code.region id ops true).wpIn G.Fe 0 G.P Q a w := by
  rw [drun_eq] at hd
  obtain ⟨hlen, hfr', hh', hat⟩ := drunK_at ops.toList fr h ds obs fr' h' hd ho
  simp only [dok, Bool.and_eq_true] at hok
  obtain ⟨hdist, hpre0, hall⟩ := hok
  have hspec : ∀ (j : Nat) (o : Oper) (d : DR), ops.toList[j]? = some o → ds[j]? = some d → (∀ p ∈ preds o, p < j) ∧ ∀ (i : Nat) (o1 : Oper) (d1 : DR), i < j → ops.toList[i]? = some o1 → ds[i]? = some d1 →
      clash ops.toList o1 o (fl d1) (fl d) = true → Anc ops.toList i j := by
    intro j o d hj hdj
    have h2 := dokAll_spec _ [] _ hall j _ (los_get (R := ops.toList) _ _ j o (fl d) hj (flags_get ds j d hdj))
    simp only [List.length_nil, Nat.zero_add, List.nil_append] at h2
    refine ⟨fun p hp => by have := predsOk_spec _ 0 hpre0 j o hj p hp; omega, fun i o1 d1 hij hi hdi hcl => masks_bit ops.toList [] [] rfl rfl (by intro j i hb; simp at hb) j i (h2 i _ hij (los_get (R := ops.toList) _ _ i o1 (fl d1) hi (flags_get ds i d1 hdi)) (clash_lo hcl))⟩
  have hds : ∀ (i : Nat) (o : Oper), ops.toList[i]? = some o → ∃ d, ds[i]? = some d := fun i o hi => by
    obtain ⟨d, ob, h1, _⟩ := hat i o hi
    exact ⟨d, h1⟩
  -- all orders
  have main : ∀ (fuel : Nat) (listed : Array Bool) (S : Sg) (a : Act) (w : World), listed.size = ops.size → (∀ j, ops.size ≤ j → True) → ((List.range ops.size).filter fun i => !listed.getD i true).length ≤ fuel →
      Inv G.W G.S0 ops.toList ds fr h (fun i => listed.getD i false) S a w → wpAnyIn G.Fe 0 G.P .any ops Q fuel listed a w := by
    intro fuel
    have ready_spec : ∀ (listed : Array Bool) (i : Nat), i ∈ Region.ready .any ops listed ↔ i < ops.size ∧ listed.getD i true = false ∧ ∃ o, ops.toList[i]? = some o ∧ ∀ p ∈ preds o, listed.getD p false = true := by
      intro listed i
      simp only [Region.ready, List.mem_filter, List.mem_range, Bool.and_eq_true, Bool.not_eq_true']
      constructor
      · rintro ⟨h1, h2, h3⟩
        refine ⟨h1, h2, ops[i], by simp [h1], ?_⟩
        have e : ops[i]? = some ops[i] := by simp [h1]
        rw [e] at h3
        simp only [Option.map_some, Option.getD_some] at h3
        intro p hp
        simp only [preds, List.mem_map, List.mem_filter] at hp
        obtain ⟨ed, ⟨h4, h5⟩, rfl⟩ := hp
        have := Array.all_eq_true_iff_forall_mem.1 h3 ed (by simpa using h4)
        simpa [h5] using this
      · rintro ⟨h1, h2, o, h3, h4⟩
        refine ⟨h1, h2, ?_⟩
        have e : ops[i]? = some o := by simpa using h3
        rw [e]
        simp only [Option.map_some, Option.getD_some]
        rw [Array.all_eq_true_iff_forall_mem]
        intro ed hed
        by_cases hb : Region.binds .any ed = true
        · have := h4 ed.on (by simp only [preds, List.mem_map, List.mem_filter]; exact ⟨ed, ⟨by simpa using hed, hb⟩, rfl⟩)
          simp [this]
        · simp [hb]
    -- nothing is ready: all are listed
    have finish : ∀ (listed : Array Bool) (S : Sg) (a : Act) (w : World), listed.size = ops.size → Region.ready .any ops listed = [] → Inv G.W G.S0 ops.toList ds fr h (fun i => listed.getD i false) S a w → Q .normal a w := by
      intro listed S a w hls hr hi
      have hall : ∀ i, i < ops.size → listed.getD i false = true := by
        intro i
        induction i using Nat.strongRecOn with
        | _ i ih =>
          intro hlt
          cases hl : listed.getD i false with
          | true => rfl
          | false =>
            exfalso
            have hlt' : i < listed.size := by rw [hls]; exact hlt
            have hmem : i ∈ Region.ready .any ops listed := by
              rw [ready_spec]
              have e : ops.toList[i]? = some ops[i] := by simp [hlt]
              refine ⟨hlt, by simpa [Array.getD, hlt'] using hl, ops[i], e, fun p hp => ?_⟩
              obtain ⟨d, hdi⟩ := hds i _ e
              have := (hspec i _ d e hdi).1 p hp
              exact ih p this (by omega)
            rw [hr] at hmem
            simp at hmem
      have hnl : ds.length = ops.size := by rw [hlen]; simp
      have hhl : hLis (fun i => listed.getD i false) 0 ds h = h' := by
        rw [hh']
        have := hLis_take ds.length 0 ds h
        rw [List.take_length] at this
        rw [← this]
        refine hLis_congr 0 ds h fun k d hk _ => ?_
        have hkl : k < ds.length := (List.getElem?_eq_some_iff.1 hk).1
        have := hall k (by omega)
        simp only [Nat.zero_add]
        rw [this]
        simp [hkl]
      refine hK S a w ⟨by rw [← hhl]; exact hi.rel, hi.old, hi.le, fun id hid => by have := hN_le ds h id (by rw [← hh']; exact hid); exact hi.fresh id this.1 fun k d _ hk => this.2 k d hk, ⟨?_, ?_⟩, hi.defers⟩
      · rw [hi.size, hfr', frN_length]
      · intro t
        rw [hfr']
        rcases frN_spec ops.toList ds fr t hlen with ⟨ht, i, o, d, h1, h2, h3, h4⟩ | ⟨h1, h2⟩
        · rw [h4]
          have hil : i < ops.size := by simpa using (List.getElem?_eq_some_iff.1 h1).1
          exact hi.done t i o d ht (hall i hil) h1 h2 h3
        · rw [h2]
          by_cases ht : t < fr.length
          · exact hi.rest t fun i o _ hio => h1 ht i o hio
          · have : get fr t = .any := by
              have : ∀ (l : List AV) (n : Nat), l.length ≤ n → get l n = .any := by
                intro l
                induction l with
                | nil => intro n _; rfl
                | cons x l ih => intro n hn; cases n with | zero => simp at hn | succ n => exact ih n (by simpa using hn)
              exact this fr t (by omega)
            rw [this]
            simp only [VR]
    induction fuel with
    | zero =>
      intro listed S a w hls _ hf hi
      have hr : Region.ready .any ops listed = [] := by
        rw [List.eq_nil_iff_forall_not_mem]
        intro i hmem
        rw [ready_spec] at hmem
        have hm : i ∈ (List.range ops.size).filter fun i => !listed.getD i true := by
          simp only [List.mem_filter, List.mem_range]
          exact ⟨hmem.1, by rw [hmem.2.1]; rfl⟩
        have := List.length_pos_of_mem hm
        omega
      exact ⟨hr, finish listed S a w hls hr hi⟩
    | succ fuel ih =>
      intro listed S a w hls _ hf hi
      refine ⟨fun hr => finish listed S a w hls hr hi, fun i hmem => ?_⟩
      rw [ready_spec] at hmem
      obtain ⟨hin, hnl, o, hio, hpre⟩ := hmem
      obtain ⟨d, ob, hdi, hstep, hob⟩ := hat i o hio
      have hil : i < listed.size := by rw [hls]; exact hin
      have hLi : listed.getD i false = false := by simpa [Array.getD, hil] using hnl
      have hL' : ∀ k, (listed.setIfInBounds i true).getD k false = if k = i then true else listed.getD k false := by
        intro k
        by_cases e : k = i
        · subst e; simp [Array.getD, hil]
        · by_cases hk : k < listed.size
          · simp [Array.getD, hk, Array.getElem_setIfInBounds, Ne.symm e, e]
          · simp [Array.getD, hk, e]
      have hanc : ∀ k, Anc ops.toList k i → listed.getD k false = true := by
        intro k hk
        cases hk with
        | one h1 h2 => rw [hio] at h1; cases h1; exact hpre k h2
        | more h1 h2 h3 => rw [hio] at h1; cases h1; exact hi.closed _ (hpre _ h2) k h3
      have hanc' : ∀ k, Anc ops.toList i k → listed.getD k false = false := by
        intro k hk
        cases hlk : listed.getD k false with
        | false => rfl
        | true => have := hi.closed k hlk i hk; rw [hLi] at this; cases this
      -- the slots that it looks at
      have hkeep : FrR S (keep (looks ops.toList o) 0 (frN (ops.toList.take i) (ds.take i) fr)) a := by
        refine ⟨by rw [keep_length, frN_length]; exact hi.size, fun t => ?_⟩
        rw [keep_get, Nat.zero_add]
        by_cases ht : t ∈ looks ops.toList o
        · rw [if_pos ht]
          rcases frN_spec (ops.toList.take i) (ds.take i) fr t (by rw [List.length_take, List.length_take, hlen]) with ⟨htl, j, o', d', h1, h2, h3, h4⟩ | ⟨h1, h2⟩
          · rw [h4]
            have hji : j < i := by
              have := (List.getElem?_eq_some_iff.1 h1).1
              rw [List.length_take] at this
              omega
            rw [List.getElem?_take, if_pos hji] at h1 h2
            refine hi.done t j o' d' htl ?_ h1 h2 h3
            refine hanc j ((hspec i o d hio hdi).2 j o' d' hji h1 h2 ?_)
            simp [clash, inD_spec h3 ht]
          · rw [h2]
            by_cases htl : t < fr.length
            · refine hi.rest t fun k o' hLk hko hdk => ?_
              rcases Nat.lt_trichotomy k i with hk | hk | hk
              · exact h1 htl k o' (by rw [List.getElem?_take, if_pos hk]; exact hko) hdk
              · subst hk; rw [hLi] at hLk; cases hLk
              · obtain ⟨d', hdk'⟩ := hds k o' hko
                have := hanc' k ((hspec k o' d' hko hdk').2 i o d hk hio hdi (by simp [clash, inD_spec hdk ht]))
                (try simp only at hLk)
                rw [this] at hLk; cases hLk
            · have : get fr t = .any := by
                have : ∀ (l : List AV) (n : Nat), l.length ≤ n → get l n = .any := by
                  intro l
                  induction l with
                  | nil => intro n _; rfl
                  | cons x l ih => intro n hn; cases n with | zero => simp at hn | succ n => exact ih n (by simpa using hn)
                exact this fr t (by omega)
              rw [this]
              simp only [VR]
        · rw [if_neg ht]
          simp only [VR]
      -- memory that it looks at
      have hmem : d.lt = none → (d.up ≠ [] ∨ d.rd ≠ []) → hLis (fun k => listed.getD k false) 0 ds h = hN (ds.take i) h := by
        intro hn0 hm
        have := hLis_take i 0 ds h
        rw [← this]
        refine hLis_congr 0 ds h fun k d' hk hu => ?_
        simp only [Nat.zero_add]
        have hkl : k < ops.toList.length := by rw [← hlen]; exact (List.getElem?_eq_some_iff.1 hk).1
        have hko : ops.toList[k]? = some ops.toList[k] := List.getElem?_eq_getElem hkl
        rcases Nat.lt_trichotomy k i with hki | hki | hki
        · rw [hanc k ((hspec i o d hio hdi).2 k _ d' hki hko hk (clash_l (meets_full hu hn0 hm)))]
          simp [hki]
        · subst hki
          rw [hLi]; simp
        · rw [hanc' k ((hspec k _ d' hko hk).2 i o d hki hio hdi (clash_r (meets_full hu hn0 hm)))]
          simp [Nat.lt_asymm hki]
      have hlite : ∀ l, d.lt = some l → ∀ id ∈ l, hget (hN (ds.take i) h) id = hget (hLis (fun k => listed.getD k false) 0 ds h) id := by
        intro l hl id hid
        have := hLis_take i 0 ds h
        rw [← this]
        refine hLis_at id 0 ds h h rfl fun k d' hk hu => ?_
        simp only [Nat.zero_add]
        have hkl : k < ops.toList.length := by rw [← hlen]; exact (List.getElem?_eq_some_iff.1 hk).1
        have hko : ops.toList[k]? = some ops.toList[k] := List.getElem?_eq_getElem hkl
        rcases Nat.lt_trichotomy k i with hki | hki | hki
        · rw [hanc k ((hspec i o d hio hdi).2 k _ d' hki hko hk (clash_l (meets_lite hu hl hid)))]
          simp [hki]
        · subst hki
          rw [hLi]; simp
        · rw [hanc' k ((hspec k _ d' hko hk).2 i o d hki hio hdi (clash_r (meets_lite hu hl hid)))]
          simp [Nat.lt_asymm hki]
      have hdis : ∀ (k : Nat) (d' : DR), ds[k]? = some d' → i < k → listed.getD k false = true → ∀ id ∈ fstN d.up, id ∉ fstN d'.up := by
        intro k d' hk hik hlk id h1 h2
        have hkl : k < ops.toList.length := by rw [← hlen]; exact (List.getElem?_eq_some_iff.1 hk).1
        have hko : ops.toList[k]? = some ops.toList[k] := List.getElem?_eq_getElem hkl
        have := hanc' k ((hspec k _ d' hko hk).2 i o d hik hio hdi (clash_l (meets_ups h1 h2)))
        rw [this] at hlk
        cases hlk
      have hafter : hLis (fun k => (listed.setIfInBounds i true).getD k false) 0 ds h = hsets (hLis (fun k => listed.getD k false) 0 ds h) d.up :=
        hLis_add i 0 ds h d hdi (by rw [Nat.zero_add]; exact hLi) (by rw [Nat.zero_add, hL', if_pos rfl]) (fun k hk => by rw [hL', if_neg (by omega)]) fun k d' hk hik hlk => hdis k d' hk hik (by simpa using hlk)
      have hnew : ∀ id ∈ fstN d.up, (hN (ds.take i) h).length ≤ id → S.σ id = none := by
        intro id hid hn
        obtain ⟨h1, h2⟩ := hN_le _ h id hn
        refine hi.fresh id h1 fun k d' hlk hk => ?_
        rcases Nat.lt_trichotomy k i with hki | hki | hki
        · exact h2 k d' (by rw [List.getElem?_take, if_pos hki]; exact hk)
        · subst hki
          (try simp only at hlk)
          rw [hLi] at hlk; cases hlk
        · exact hdis k d' hk hki hlk id hid
      have hstep1 : ∀ {fr1 : List AV} {r : Res}, step1 G.E (Sx.ev fr1) (hN (ds.take i) h) (hN (ds.take i) h).length o = some r → d.lt = liteOf (Sx.ev fr1) o.op → d.rd = r.rd → step1 G.E (Sx.ev fr1) (hLis (fun k => listed.getD k false) 0 ds h) (hN (ds.take i) h).length o = some r := by
        intro fr1 r hr h1 h2
        cases hlt : liteOf (Sx.ev fr1) o.op with
        | some l => exact (lite_step (E := G.E) hlt (hlite l (by rw [h1, hlt]))).symm.trans hr
        | none =>
          by_cases hrd : r.rd = []
          · exact step1_pop hr hrd
          · rw [hmem (by rw [h1, hlt]) (.inr (by rw [h2]; exact hrd))]
            exact hr
      -- what holds behind it
      have cont : ∀ S' v w', S.le S' → (∀ b, b < G.W.heap.size → S'.F b = S.F b) → (∀ id, id ∉ fstN d.up → S'.σ id = S.σ id) → Rel G.W S' (hsets (hLis (fun k => listed.getD k false) 0 ds h) d.up) w' → VR S' d.v v →
          wpAnyIn G.Fe 0 G.P .any ops Q fuel (listed.setIfInBounds i true) (a.put o.dst v) w' := by
        intro S' v w' hS hold hfresh hrel hv
        refine ih (listed.setIfInBounds i true) S' (a.put o.dst v) w' (by simpa using hls) (fun _ _ => trivial) ?_ ?_
        · have hm : i ∈ (List.range ops.size).filter fun i => !listed.getD i true := by
            simp only [List.mem_filter, List.mem_range]
            exact ⟨hin, by rw [hnl]; rfl⟩
          have hsub : ((List.range ops.size).filter fun i_1 => !(listed.setIfInBounds i true).getD i_1 true) = ((List.range ops.size).filter fun i => !listed.getD i true).filter fun k => !(k == i) := by
            rw [List.filter_filter]
            refine List.filter_congr fun k hk => ?_
            have hkl : k < listed.size := by rw [hls]; simpa using hk
            by_cases e : k = i
            · subst e; simp [Array.getD, hkl]
            · simp [Array.getD, hkl, Array.getElem_setIfInBounds, Ne.symm e, e]
          rw [hsub]
          have hlt : (((List.range ops.size).filter fun i => !listed.getD i true).filter fun k => !(k == i)).length < ((List.range ops.size).filter fun i => !listed.getD i true).length := by
            rw [List.length_filter_lt_length_iff_exists]
            exact ⟨i, hm, by simp⟩
          omega
        · refine ⟨by rw [hafter]; exact hrel, fun b hb => (hold b hb).trans (hi.old b hb), hi.le.trans hS, fun id hid hk => by
            rw [hfresh id (hk i d (by rw [hL', if_pos rfl]) hdi)]
            refine hi.fresh id hid fun k d' hlk hkd => hk k d' ?_ hkd
            rw [hL']
            by_cases e : k = i
            · simp [e]
            · rw [if_neg e]; exact hlk, by rw [Act.put_size]; exact hi.size, ?_, ?_, ?_, ?_⟩
          · intro t j o' d' htl hLj hjo hjd hdst
            (try simp only at hLj)
            rw [hL'] at hLj
            rw [Act.put_get]
            by_cases e : o.dst = some t ∧ t < a.tmps.size
            · rw [if_pos e]
              have := distinct_spec hdist i j o o' t hio hjo e.1 hdst
              subst this
              rw [hdi] at hjd
              cases hjd
              exact hv
            · rw [if_neg e]
              have hji : j ≠ i := by
                rintro rfl
                rw [hio] at hjo
                cases hjo
                exact e ⟨hdst, by rw [hi.size]; exact htl⟩
              rw [if_neg hji] at hLj
              exact VR.mono hS _ _ (hi.done t j o' d' htl hLj hjo hjd hdst)
          · intro t ht
            have hne : o.dst ≠ some t := ht i o (by rw [hL']; simp) hio
            rw [Act.put_get, if_neg (fun e => hne e.1)]
            refine VR.mono hS _ _ (hi.rest t fun k o' hLk hko => ht k o' ?_ hko)
            (try simp only at hLk ⊢)
            rw [hL']
            by_cases e : k = i
            · simp [e]
            · rw [if_neg e]; exact hLk
          · have := hi.defers.mono hS.F
            cases o.dst <;> exact this
          · intro j hLj k hk
            (try simp only at hLj ⊢)
            rw [hL'] at hLj ⊢
            by_cases e : k = i
            · simp [e]
            · rw [if_neg e]
              by_cases e' : j = i
              · subst e'; exact hanc k hk
              · rw [if_neg e'] at hLj
                exact hi.closed j hLj k hk
      -- the operation itself
      have hio' : ops[i]? = some o := by simpa using hio
      simp only [wpOpIn, hio']
      unfold dstepK at hstep
      have eR : ops = ops.toList.toArray := by simp
      have hfresh : d.up = [((hN (ds.take i) h).length, .dead)] → S.σ (hN (ds.take i) h).length = none := fun hu => hnew _ (by rw [hu]; simp [fstN]) (Nat.le_refl _)
      split at hstep
      · rename_i hw
        have hw' := wantedA_yes hkeep hw
        rw [← eR] at hw'
        rw [if_pos hw']
        cases hst : strips (keep (looks ops.toList o) 0 (frN (ops.toList.take i) (ds.take i) fr)) (oprs o.op) with
        | mk fr1 gs =>
          rw [hst] at hstep
          cases hr : stepD G.E ops.toList (Sx.ev fr1) (hN (ds.take i) h) o with
          | none => simp [hr] at hstep
          | some r =>
            simp only [hr, Option.some.injEq, Prod.mk.injEq] at hstep
            obtain ⟨rfl, rfl⟩ := hstep
            rw [allO_append] at hob
            have old : step1 G.E (Sx.ev fr1) (hN (ds.take i) h) (hN (ds.take i) h).length o = some r → o.wpIn G.Fe 0 G.P a w (wpAnyIn G.Fe 0 G.P .any ops Q fuel (listed.setIfInBounds i true)) Q := fun hr =>
              wpIn_of_wp (step1_nodefer hr) (exec_ok hE hi.rel (strips_ok hkeep hst hob.1) (hstep1 hr rfl rfl) hob.2 hnew cont)
            unfold stepD at hr
            split at hr
            · split at hr
              · rename_i r' hr'
                obtain rfl := Option.some.inj hr
                exact wpIn_of_wp (mayB_nodefer hr') (mayB_ok hE hi.rel (strips_ok hkeep hst hob.1) hr' hob.2 (hfresh (mayB_up hr')) cont)
              · exact old hr
            · exact old hr
      · rename_i hw
        have hw' := wantedA_no hkeep hw
        rw [← eR] at hw'
        rw [if_neg (by rw [hw']; simp)]
        refine ⟨fun f _ => G.fe_fn f, ?_⟩
        simp only [Option.some.injEq, Prod.mk.injEq] at hstep
        obtain ⟨rfl, rfl⟩ := hstep
        exact cont S undef w (.refl _) (fun _ _ => rfl) (fun _ _ => rfl) hi.rel (show VR S .und undef by simp only [VR])
      · rename_i g hw
        have hw' := wantedA_may hkeep hw
        rw [← eR] at hw'
        cases hst : strips (keep (looks ops.toList o) 0 (frN (ops.toList.take i) (ds.take i) fr)) (oprs o.op) with
        | mk fr1 gs =>
          rw [hst] at hstep
          cases hr : stepM G.E (Sx.ev fr1) (hN (ds.take i) h) o with
          | none => simp [hr] at hstep
          | some r =>
            simp only [hr, Option.some.injEq, Prod.mk.injEq] at hstep
            obtain ⟨rfl, rfl⟩ := hstep
            unfold stepM at hr
            by_cases hg : g ()
            · rw [if_pos (hw'.2 hg)]
              have ho' := gdObs_ok hg hob
              rw [allO_append] at ho'
              split at hr
              · rename_i v obs' rd hr1
                obtain rfl := Option.some.inj hr
                exact wpIn_of_wp (step1_nodefer hr1) (exec_ok (r := ⟨v, [], obs', rd⟩) hE hi.rel (strips_ok hkeep hst ho'.1) (hstep1 hr1 rfl rfl) ho'.2 (fun id hid _ => by cases hid) fun S' v' w' h1 h2 h3 h4 h5 => cont S' v' w' h1 h2 h3 h4 (by simp only [VR]; exact ⟨fun _ => h5, fun hn => absurd hg hn⟩))
              · exact wpIn_of_wp (mayB_nodefer hr) (mayB_ok hE hi.rel (strips_ok hkeep hst ho'.1) hr ho'.2 (hfresh (mayB_up hr)) fun S' v' w' h1 h2 h3 h4 h5 => cont S' v' w' h1 h2 h3 h4 (by simp only [VR]; exact ⟨fun _ => h5, fun hn => absurd hg hn⟩))
            · rw [if_neg (fun hh => hg (hw'.1 hh))]
              refine ⟨fun f _ => G.fe_fn f, ?_⟩
              have hup : r.up = [] ∨ r.up = [((hN (ds.take i) h).length, .dead)] := by
                split at hr
                · obtain rfl := Option.some.inj hr; exact .inl rfl
                · exact .inr (mayB_up hr)
              refine cont S undef w (.refl _) (fun _ _ => rfl) (fun _ _ => rfl) ?_ (by simp only [VR]; exact ⟨fun hh => absurd hh hg, fun _ => trivial⟩)
              rcases hup with hup | hup
              · rw [hup]; exact hi.rel
              · rw [hup]; exact hi.rel.dead (hfresh hup)
      · cases hstep
  refine wpIn_region_any hE.mixed (main ops.size (Array.replicate ops.size false) S a _ (by simp) (fun _ _ => trivial) (Nat.le_trans (List.length_filter_le _ _) (by simp)) ?_)
  have hL0 : (fun i => (Array.replicate ops.size false).getD i false) = fun _ => false := by
    funext i
    simp only [Array.getD]
    split <;> simp
  rw [hL0]
  have hh0 : hLis (fun _ => false) 0 ds h = h := hLis_none 0 ds h _ fun _ _ => rfl
  refine ⟨by rw [hh0]; exact ⟨hc.rel.below.drew, hc.rel.fv, hc.rel.blk, hc.rel.own, hc.rel.inj⟩, hc.old, hc.le, fun id hid _ => hc.fresh id hid, hc.fr.size, (fun t i o d _ hf => by cases hf), (fun t _ => hc.fr.get t), hc.defers, (fun j hf => by cases hf)⟩

end
end Go.Sx
