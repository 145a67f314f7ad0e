/- Chapter 29: plain laws of tables and turns made of numbers. -/
import Derived.Test.YtaijdhocmjnopaaV9
namespace Go.Sx.Ytaijdhocmjnopaa
open Go Go.Sx Go.Proofs
set_option linter.unusedVariables false
set_option linter.unusedSimpArgs false
set_option maxRecDepth 100000

structure OkT (l : List Call) (T : Int) : Prop where
  ok : ∀ c ∈ l, callErr c = 0
  late : ∀ c ∈ l, c.2.2.2.1 ≤ T
  srt : l.Pairwise (fun a b : Call => a.2.2.2.1 ≤ b.2.2.2.1)
  dif : l.Pairwise (fun a b : Call => sameB a b = false)
  len : l.length ≤ 20
theorem getD_get {l : List Call} {i : Nat} (h : i < l.length) : l.getD i zc = l[i] := by
  rw [List.getD_eq_getElem?_getD, List.getElem?_eq_getElem h]; rfl
theorem getD_mem {l : List Call} {i : Nat} (h : i < l.length) : l.getD i zc ∈ l := by
  rw [getD_get h]; exact List.getElem_mem h
theorem tabFrom_nil {l : List Call} (h : ∀ i, i < l.length → checkAt l i = 0) : ∀ n i, i + n ≤ l.length → tabFrom l n i = (0, 0)
  | 0, _, _ => rfl
  | n + 1, i, hi => by
    rw [tabFrom, if_neg (by rw [h i (by omega)]; decide)]
    exact tabFrom_nil h n (i + 1) (by omega)
theorem OkT.at {l : List Call} {T : Int} (h : OkT l T) (i : Nat) (hi : i < l.length) : checkAt l i = 0 := by
  have h1 := h.ok _ (getD_mem hi)
  have h2 : ¬ (0 < i ∧ (l.getD i zc).2.2.2.1 < (l.getD (i - 1) zc).2.2.2.1) := by
    rintro ⟨h0, h3⟩
    have := List.pairwise_iff_getElem.1 h.srt (i - 1) i (by omega) hi (by omega)
    rw [getD_get hi, getD_get (show i - 1 < l.length by omega)] at h3
    omega
  have h3 : ¬ hasB (l.take i) (l.getD i zc) = true := by
    intro h4
    rw [hasB, List.any_eq_true] at h4
    obtain ⟨x, hx, hs⟩ := h4
    obtain ⟨j, hj, rfl⟩ := List.getElem_of_mem hx
    rw [List.length_take] at hj
    have := List.pairwise_iff_getElem.1 h.dif j i (by omega) hi (by omega)
    rw [List.getElem_take, getD_get hi, this] at hs
    cases hs
  rw [checkAt, if_neg (by rw [h1]; decide), if_neg h2, if_neg h3]
theorem OkT.check {l : List Call} {T : Int} (h : OkT l T) (u : Unit) : tabE (32, l, u) = 0 := by
  have := h.len
  rw [tabE, tabCheck, if_neg (by simp only; omega), if_neg (by simp only; omega)]
  simp only
  rw [tabFrom_nil h.at _ _ (by omega)]
theorem callM_ok {k a : Int} (hk : 0 ≤ k) (h0 : 0 ≤ a) (h1 : a ≤ 1000) : callErr (callM k a) = 0 := by
  rw [callM]
  split
  · rw [callErr]
    simp only
    rw [if_neg (by omega), if_neg (by omega), if_neg (by omega)]
  · rw [callErr]
    simp only
    rw [if_neg (by omega), if_neg (by omega), if_neg (by omega)]
theorem callM_at (k a : Int) : (callM k a).2.2.2.1 = a := by
  rw [callM]; split <;> rfl
theorem OkT.app {l : List Call} {T : Int} (h : OkT l T) {c : Call} (h1 : callErr c = 0) (h2 : T ≤ c.2.2.2.1) (h3 : l.any (sameB c) = false) (h4 : l.length < 20) : OkT (l ++ [c]) c.2.2.2.1 := by
  refine ⟨?_, ?_, ?_, ?_, by simp; omega⟩
  · intro x hx
    rcases List.mem_append.1 hx with hx | hx
    · exact h.ok x hx
    · rw [List.mem_singleton.1 hx]; exact h1
  · intro x hx
    rcases List.mem_append.1 hx with hx | hx
    · have := h.late x hx; omega
    · rw [List.mem_singleton.1 hx]; omega
  · rw [List.pairwise_append]
    refine ⟨h.srt, by simp, fun x hx y hy => ?_⟩
    rw [List.mem_singleton.1 hy]
    have := h.late x hx
    omega
  · rw [List.pairwise_append]
    refine ⟨h.dif, by simp, fun x hx y hy => ?_⟩
    rw [List.mem_singleton.1 hy, sameB_comm]
    have := List.any_eq_false.1 h3 x hx
    simpa using this
theorem made_go : ∀ (ns : List Int) (a : Int) (l : List Call), OkT l a → 0 ≤ a → l.length + ns.length ≤ 20 → a + 6 * ns.length ≤ 1000 →
    OkT (ns.foldl stepM (a, l)).2 (ns.foldl stepM (a, l)).1 ∧ 0 ≤ (ns.foldl stepM (a, l)).1 ∧ (ns.foldl stepM (a, l)).1 ≤ a + 6 * ns.length
  | [], a, l, h, h0, _, _ => ⟨h, h0, by simp⟩
  | n :: ns, a, l, h, h0, hl, ha => by
    have hk := modS_in n (show (0 : Int) < 1048576 by decide)
    obtain ⟨k, hkk⟩ : ∃ k, modS n 1048576 = k := ⟨_, rfl⟩
    rw [hkk] at hk
    simp only [List.length_cons] at hl ha ⊢
    rw [List.foldl_cons]
    have hc := callM_ok (a := a + k % 7) hk.1 (by omega) (by omega)
    have hat := callM_at k (a + k % 7)
    have hstep : stepM (a, l) n = if l.any (sameB (callM k (a + k % 7))) = true then (a + k % 7, l) else (a + k % 7, l ++ [callM k (a + k % 7)]) := by
      rw [stepM]; simp only [hkk]
    rw [hstep]
    by_cases hs : l.any (sameB (callM k (a + k % 7))) = true
    · rw [if_pos hs]
      have := made_go ns (a + k % 7) l ⟨h.ok, fun x hx => by have := h.late x hx; omega, h.srt, h.dif, h.len⟩ (by omega) (by omega) (by omega)
      exact ⟨this.1, this.2.1, by have := this.2.2; omega⟩
    · rw [if_neg hs]
      have hap := h.app hc (by omega) (by simpa using hs) (by omega)
      rw [hat] at hap
      have := made_go ns (a + k % 7) (l ++ [callM k (a + k % 7)]) hap (by omega) (by simp; omega) (by omega)
      exact ⟨this.1, this.2.1, by have := this.2.2; omega⟩
theorem madeM_ok (nums : List Int) : OkT (madeM nums).2 (madeM nums).1 ∧ 0 ≤ (madeM nums).1 ∧ (madeM nums).1 ≤ 120 := by
  have hl : (nums.take 20).length ≤ 20 := by rw [List.length_take]; omega
  have := made_go (nums.take 20) 0 [] ⟨by simp, by simp, by simp, by simp, by simp⟩ (by decide) (by simp; omega) (by omega)
  exact ⟨this.1, this.2.1, by have := this.2.2; rw [← madeM] at this; omega⟩
theorem tabM_ok (nums : List Int) : tabE (tabM nums) = 0 := (madeM_ok nums).1.check ()
/-- A turn whose asks are all valid, whose cars rise, and whose trips, ticks and cycles are the same. -/
structure TurnOk (l : List Ask) : Prop where
  range : ∀ a ∈ l, askRange a
  none : ∀ a ∈ l, askL a = []
  rise : ∀ i, 0 < i → i < l.length → (l.getD (i - 1) zA).1 < (l.getD i zA).1
  same : ∀ i, i < l.length → (l.getD i zA).2.2.1 = (l.getD 0 zA).2.2.1 ∧ (l.getD i zA).2.2.2.1 = (l.getD 0 zA).2.2.2.1 ∧ (l.getD i zA).2.2.2.2.1 = (l.getD 0 zA).2.2.2.2.1
  len : l.length ≤ 8
theorem turnFrom_nil {l : List Ask} (h : ∀ i, i < l.length → turnAt l i = 0) : ∀ n i, i + n ≤ l.length → turnFrom l n i = (0, 0)
  | 0, _, _ => rfl
  | n + 1, i, hi => by
    rw [turnFrom, if_neg (by rw [h i (by omega)]; decide)]
    exact turnFrom_nil h n (i + 1) (by omega)
theorem getA_mem {l : List Ask} {i : Nat} (h : i < l.length) : l.getD i zA ∈ l := by
  rw [List.getD_eq_getElem?_getD, List.getElem?_eq_getElem h]; exact List.getElem_mem h
theorem askErr_ok {a : Ask} (h : askRange a) (h2 : askL a = []) : askErr a = 0 := by
  rw [askErr, if_neg (by exact fun q => q h)]
  have : a.2.2.2.2.2.2.2.2.2.1 = [] := h2
  rw [this]
  rfl
theorem TurnOk.at {l : List Ask} (h : TurnOk l) (i : Nat) (hi : i < l.length) : turnAt l i = 0 := by
  have hm := getA_mem hi
  have h1 := h.same i hi
  rw [turnAt, if_neg (by rw [askErr_ok (h.range _ hm) (h.none _ hm)]; decide), if_neg (by rw [h.none _ hm]; simp), if_neg (by rintro ⟨q1, q2⟩; have := h.rise i q1 hi; omega), if_neg]
  rw [farA, (neI_f _ _).mpr h1.1, (neI_f _ _).mpr h1.2.1, (neI_f _ _).mpr h1.2.2]
  decide
theorem TurnOk.check {l : List Ask} (h : TurnOk l) : turnCheck l = (0, 0) := by
  rw [turnCheck, if_neg (by have := h.len; omega), turnFrom_nil h.at _ _ (by omega)]
theorem TurnOk.take {l : List Ask} (h : TurnOk l) (k : Nat) : TurnOk (l.take k) := by
  have hg : ∀ i, i < (l.take k).length → (l.take k).getD i zA = l.getD i zA := fun i hi => by
    rw [List.length_take] at hi
    rw [List.getD_eq_getElem?_getD, List.getD_eq_getElem?_getD, List.getElem?_take_of_lt (by omega)]
  refine ⟨fun a ha => h.range a (List.mem_of_mem_take ha), fun a ha => h.none a (List.mem_of_mem_take ha), fun i h0 hi => ?_, fun i hi => ?_, by have := h.len; rw [List.length_take]; omega⟩
  · rw [hg i hi, hg (i - 1) (by omega)]
    rw [List.length_take] at hi
    exact h.rise i h0 (by omega)
  · rw [hg i hi, hg 0 (by omega)]
    rw [List.length_take] at hi
    exact h.same i (by omega)
theorem asks_at {K a : Int} {m i : Nat} (h : i < m) : (asksM K a m).getD i zA = askM K a (i + 1) := by
  rw [asksM, List.getD_eq_getElem?_getD]
  simp [h]
theorem askM_ok {K a : Int} {i : Nat} (hK : 0 ≤ K) (h0 : 0 ≤ a) (h1 : a ≤ 120) (hi : i < 4) : askRange (askM K a (i + 1)) := by
  have hp : (0 : Int) < 2 ^ (2 * (i + 1)) := Int.pow_pos (by decide)
  have hI : nI (i + 1) = ((i + 1 : Nat) : Int) := rfl
  simp only [askM, askRange, hI]
  omega
theorem carsM_in {K : Int} (h : 0 ≤ K) : 1 ≤ carsM K ∧ carsM K ≤ 4 := by
  rw [carsM]
  omega
theorem turnM_len (nums : List Int) (n : Int) : (turnM nums n).length = carsM (modS n 1073741824) := asksM_len _ _ _
theorem turnM_ok (nums : List Int) (n : Int) : TurnOk (turnM nums n) ∧ 1 ≤ (turnM nums n).length ∧ (turnM nums n).length ≤ 4 := by
  have hK := modS_in n (show (0 : Int) < 1073741824 by decide)
  have hm := madeM_ok nums
  have hl := carsM_in hK.1
  rw [turnM_len]
  refine ⟨⟨?_, ?_, ?_, ?_, by rw [turnM_len]; omega⟩, hl⟩
  · intro x hx
    rw [turnM, asksM, List.mem_map] at hx
    obtain ⟨i, hi, rfl⟩ := hx
    rw [List.mem_range] at hi
    exact askM_ok hK.1 hm.2.1 hm.2.2 (by omega)
  · intro x hx
    rw [turnM, asksM, List.mem_map] at hx
    obtain ⟨i, hi, rfl⟩ := hx
    rfl
  · intro i h0 hi
    rw [turnM_len] at hi
    rw [turnM, asks_at hi, asks_at (show i - 1 < carsM (modS n 1073741824) by omega)]
    show ((i - 1 + 1 : Nat) : Int) < ((i + 1 : Nat) : Int)
    omega
  · intro i hi
    rw [turnM_len] at hi
    rw [turnM, asks_at hi, asks_at (show 0 < carsM (modS n 1073741824) by omega)]
    exact ⟨rfl, rfl, rfl⟩
theorem allR_ok {t : Table} {l : List Ask} (ht : tabE t = 0) (hl : TurnOk l) : allR t l = (choicesR t l [], 0) := by
  have : wrongE t l = 0 := by rw [wrongE, if_pos ht, hl.check]
  rw [allR, if_neg (by rw [this]; decide)]
theorem uR_ok {t : Table} {now cy : Int} (ht : tabE t = 0) (h0 : 0 ≤ now) (h1 : now ≤ 1099511627776) (h2 : 1 ≤ cy) : uR t now cy = (t.2.1.filter (urgentP now cy), 0) := by
  have : uE t now cy = 0 := by rw [uE, if_neg (by rw [ht]; decide), if_neg (by omega)]
  rw [uR, if_neg (by rw [this]; decide)]
/-- The hall calls among some choices' calls. -/
def takenL (cs : List Choice) : List Call := (cs.map byC).filter hallN
theorem takenL_snoc (cs : List Choice) (c : Choice) : takenL (cs ++ [c]) = nextT (takenL cs) c := by
  rw [takenL, List.map_append, List.filter_append, nextT]
  simp only [List.map_cons, List.map_nil]
  split
  · rename_i h; rw [List.filter_cons_of_pos h]; rfl
  · rename_i h; rw [List.filter_cons_of_neg h, List.filter_nil, List.append_nil]; rfl
theorem choice_at (t : Table) : ∀ (l : List Ask) (cs : List Choice) (i : Nat), i < l.length → (choicesR t l (takenL cs)).getD i zCh = goalC t (l.getD i zA) (takenL (cs ++ (choicesR t l (takenL cs)).take i))
  | [], _, i, h => by simp at h
  | a :: l, cs, 0, h => by simp [choicesR]
  | a :: l, cs, i + 1, h => by
    have ih := choice_at t l (cs ++ [goalC t a (takenL cs)]) i (by simp at h; omega)
    rw [takenL_snoc] at ih
    simp only [choicesR, List.getD_cons_succ, List.take_succ_cons]
    rw [ih, List.append_assoc]
    rfl
theorem firstOf_at {p : Call → Bool} : ∀ {l : List Call}, (firstOf p l).2 = true → ∃ i, i < l.length ∧ l.getD i zc = (firstOf p l).1 ∧ ∀ j, j < i → p (l.getD j zc) = false
  | [], h => by simp [firstOf] at h
  | c :: cs, h => by
    rw [firstOf] at h ⊢
    split
    · exact ⟨0, by simp, by simp, fun j hj => by omega⟩
    · rename_i hp
      rw [if_neg hp] at h
      obtain ⟨i, hi, h1, h2⟩ := firstOf_at h
      refine ⟨i + 1, by simp; omega, by simpa using h1, fun j hj => ?_⟩
      cases j with
      | zero => simpa using hp
      | succ j => simpa using h2 j (by omega)
theorem firstOf_all {p : Call → Bool} : ∀ {l : List Call}, (firstOf p l).2 = false → ∀ x ∈ l, p x = false
  | [], _, x, hx => by simp at hx
  | c :: cs, h, x, hx => by
    rw [firstOf] at h
    split at h
    · cases h
    · rename_i hp
      rcases List.mem_cons.1 hx with rfl | hx
      · simpa using hp
      · exact firstOf_all h x hx
/-- What is known of a choice that has a call. -/
structure Chose (t : Table) (a : Ask) (g : List Call) (c : Choice) : Prop where
  is : c.2.2.1 = true
  floor : c.2.1 = (byC c).2.1
  mem : byC c ∈ t.2.1
  own : hallB (byC c) = false → (byC c).2.2.1 = a.1
  hall : hallB (byC c) = true → urgB a.2.2.2.1 a.2.2.2.2.1 (byC c) = true ∨ ((∀ x ∈ t.2.1, urgB a.2.2.2.1 a.2.2.2.2.1 x = false) ∧ freeB g (byC c) = true ∧ ∃ i, i < t.2.1.length ∧ t.2.1.getD i zc = byC c ∧ ∀ j, j < i → freeB g (t.2.1.getD j zc) = false)
theorem hallA_is {l : List Call} {a : Ask} (h : (hallA l a).2 = true) : hallB (hallA l a).1 = true ∧ (urgB a.2.2.2.1 a.2.2.2.2.1 (hallA l a).1 = true ∨ ((∀ x ∈ l, urgB a.2.2.2.1 a.2.2.2.2.1 x = false) ∧ freeB (askL a) (hallA l a).1 = true ∧ ∃ i, i < l.length ∧ l.getD i zc = (hallA l a).1 ∧ ∀ j, j < i → freeB (askL a) (l.getD j zc) = false)) := by
  rw [hallA, hallS] at h ⊢
  by_cases hu : (firstOf (urgB a.2.2.2.1 a.2.2.2.2.1) l).2 = true
  · rw [if_pos hu]
    have := (firstOf_mem hu).2
    have h2 := this
    rw [urgB, Bool.and_eq_true] at h2
    exact ⟨h2.1, .inl this⟩
  · rw [if_neg hu] at h ⊢
    have := (firstOf_mem h).2
    have h2 := this
    rw [freeB, Bool.and_eq_true] at h2
    exact ⟨h2.1, .inr ⟨firstOf_all (by simpa using hu), this, firstOf_at h⟩⟩
theorem ownS_is {l : List Call} {car : Int} (h : (ownS l car).2 = true) : hallB (ownS l car).1 = false ∧ (ownS l car).1.2.2.1 = car := by
  have := (firstOf_mem h).2
  rw [ownB, Bool.and_eq_true] at this
  have h1 := this.1
  rw [Bool.not_eq_true'] at h1
  refine ⟨h1, ?_⟩
  have h2 := this.2
  rw [eqI_t] at h2
  exact h2
theorem chose {t : Table} {a : Ask} {g : List Call} (h : byC (goalC t a g) ≠ zc) : Chose t a g (goalC t a g) := by
  have hb : byC (goalC t a g) = (goalR t (withT a g)).2.2.1 := rfl
  have key : goalR t (withT a g) = ((byS t.2.1 (withT a g)).1.2.1, (byS t.2.1 (withT a g)).2, (byS t.2.1 (withT a g)).1, 0) := by
    rw [hb] at h
    rw [goalR] at h ⊢
    split
    · rename_i q; rw [if_pos q] at h; exact absurd rfl h
    · rename_i q
      rw [if_neg q] at h
      split
      · rename_i q; rw [if_pos q] at h; exact absurd rfl h
      · rename_i q
        rw [if_neg q] at h
        split
        · rename_i q; rw [if_pos q] at h; exact absurd rfl h
        · rename_i q
          rw [if_neg q] at h
          split
          · rename_i q; rw [if_pos q] at h; exact absurd rfl h
          · rfl
  have hg : goalC t a g = (a.1, (byS t.2.1 (withT a g)).1.2.1, (byS t.2.1 (withT a g)).2, (byS t.2.1 (withT a g)).1, ()) := by
    rw [goalC, key]
  rw [hg] at h ⊢
  have hs : (byS t.2.1 (withT a g)).2 = true := by
    cases q : (byS t.2.1 (withT a g)).2
    · rw [byS_no q] at h; exact absurd rfl h
    · rfl
  have hw : askL (withT a g) = g := rfl
  have hall : (hallA t.2.1 (withT a g)).2 = true → byS t.2.1 (withT a g) = hallA t.2.1 (withT a g) → Chose t a g (a.1, (byS t.2.1 (withT a g)).1.2.1, (byS t.2.1 (withT a g)).2, (byS t.2.1 (withT a g)).1, ()) := fun h1 h2 => by
    have := hallA_is h1
    rw [hw] at this
    refine ⟨hs, rfl, byS_mem hs, fun q => ?_, fun q => ?_⟩
    · rw [show byC (a.1, (byS t.2.1 (withT a g)).1.2.1, (byS t.2.1 (withT a g)).2, (byS t.2.1 (withT a g)).1, ()) = (byS t.2.1 (withT a g)).1 from rfl, h2, this.1] at q
      cases q
    · rw [show byC (a.1, (byS t.2.1 (withT a g)).1.2.1, (byS t.2.1 (withT a g)).2, (byS t.2.1 (withT a g)).1, ()) = (byS t.2.1 (withT a g)).1 from rfl, h2]
      exact this.2
  have own : (ownS t.2.1 a.1).2 = true → (byS t.2.1 (withT a g)).1 = (ownS t.2.1 a.1).1 → Chose t a g (a.1, (byS t.2.1 (withT a g)).1.2.1, (byS t.2.1 (withT a g)).2, (byS t.2.1 (withT a g)).1, ()) := fun h1 h2 => by
    have := ownS_is h1
    refine ⟨hs, rfl, byS_mem hs, fun q => ?_, fun q => ?_⟩
    · rw [show byC (a.1, (byS t.2.1 (withT a g)).1.2.1, (byS t.2.1 (withT a g)).2, (byS t.2.1 (withT a g)).1, ()) = (byS t.2.1 (withT a g)).1 from rfl, h2]
      exact this.2
    · rw [show byC (a.1, (byS t.2.1 (withT a g)).1.2.1, (byS t.2.1 (withT a g)).2, (byS t.2.1 (withT a g)).1, ()) = (byS t.2.1 (withT a g)).1 from rfl, h2, this.1] at q
      cases q
  have h0 := hs
  rw [byS] at h0
  by_cases m1 : (withT a g).2.1 = 1
  · rw [if_pos m1] at h0
    exact own h0 (by rw [byS, if_pos m1]; rfl)
  · rw [if_neg m1] at h0
    by_cases m0 : (withT a g).2.1 ≠ 0
    · rw [if_pos m0] at h0; cases h0
    · rw [if_neg m0] at h0
      by_cases q : (withT a g).2.2.1.tmod 2 = 0 ∧ (hallA t.2.1 (withT a g)).2 = true ∨ (ownS t.2.1 (withT a g).1).2 = false
      · rw [if_pos q] at h0
        exact hall h0 (by rw [byS, if_neg m1, if_neg m0, if_pos q])
      · rw [if_neg q] at h0
        have h5 : (ownS t.2.1 a.1).2 = true := by
          cases hh : (ownS t.2.1 a.1).2
          · exact absurd (.inr hh) q
          · rfl
        exact own h5 (by rw [byS, if_neg m1, if_neg m0, if_neg q]; rfl)
theorem tab_zc {t : Table} (h : tabE t = 0) : zc ∉ t.2.1 := fun hm => by
  have := tab_call h hm
  revert this
  decide
theorem call_at {l : List Call} {i j : Nat} {T : Int} (h : OkT l T) (hi : i < l.length) (hj : j < l.length) (he : l.getD i zc = l.getD j zc) : i = j := by
  rcases Nat.lt_trichotomy i j with q | q | q
  · have := List.pairwise_iff_getElem.1 h.dif i j hi hj q
    rw [← getD_get hi, ← getD_get hj, he] at this
    simp [sameB] at this
  · exact q
  · have := List.pairwise_iff_getElem.1 h.dif j i hj hi q
    rw [← getD_get hi, ← getD_get hj, he] at this
    simp [sameB] at this
theorem same_in {cs : List Call} {T : Int} (h : OkT cs T) {x y : Call} (hx : x ∈ cs) (hy : y ∈ cs) (hs : sameB x y = true) : x = y :=
  tab_dif (t := (32, cs, ())) (h.check ()) hx hy hs
theorem share_before {cs : List Call} {T : Int} (hM : OkT cs T) {chs : List Choice} (hmem : ∀ c ∈ chs, byC c = zc ∨ byC c ∈ cs) {ka : Nat} (hka : ka < cs.length) {b : Call} (hb : cs.getD ka zc = b) (hf : ∃ i, i < cs.length ∧ cs.getD i zc = b ∧ ∀ j, j < i → freeB (takenL chs) (cs.getD j zc) = false) : ∀ j, j < ka → (eqI (cs.getD j zc).1 3 || chs.any fun c => decide (byC c = cs.getD j zc)) = true := by
  obtain ⟨i, hi, h1, h2⟩ := hf
  obtain rfl := call_at hM hi hka (h1.trans hb.symm)
  intro j hj
  have := h2 j hj
  rw [freeB, Bool.and_eq_false_iff] at this
  rcases this with q | q
  · have : (cs.getD j zc).1 = 3 := by
      rw [hallB, decide_eq_false_iff_not] at q
      exact Decidable.not_not.1 q
    rw [this]; rfl
  · rw [Bool.not_eq_false', hasB, List.any_eq_true] at q
    obtain ⟨y, hy, hs⟩ := q
    rw [takenL, List.mem_filter, List.mem_map] at hy
    obtain ⟨⟨c, hc, rfl⟩, hN⟩ := hy
    have hyc : byC c ∈ cs := by
      rcases hmem c hc with e | e
      · rw [e] at hN; cases hN
      · exact e
    have := same_in hM hyc (getD_mem (show j < cs.length by omega)) hs
    rw [Bool.or_eq_true]
    exact .inr (List.any_eq_true.2 ⟨c, hc, decide_eq_true this⟩)
theorem share_dif {chs : List Choice} {b : Call} (hf : freeB (takenL chs) b = true) (hN : hallN b = true) : ∀ c ∈ chs, byC c ≠ b := by
  intro c hc e
  rw [freeB, Bool.and_eq_true, Bool.not_eq_true', hasB, List.any_eq_false] at hf
  have := hf.2 b (by rw [takenL, List.mem_filter, List.mem_map]; exact ⟨⟨c, hc, e⟩, hN⟩)
  simp [sameB] at this
theorem no_urgent {cs : List Call} {now cy : Int} (h : ∀ x ∈ cs, urgB now cy x = false) : cs.filter (urgentP now cy) = [] := by
  rw [List.filter_eq_nil_iff]
  intro x hx hu
  have := h x hx
  rw [urgB, Bool.and_eq_false_iff] at this
  rw [urgentP] at hu
  rcases this with e | e <;> rw [e] at hu <;> simp at hu
theorem any_step {cs : List Choice} (p : Choice → Bool) {i : Nat} (h : i < cs.length) : (cs.take (i + 1)).any p = ((cs.take i).any p || p (cs.getD i zCh)) := by
  rw [List.take_add_one, List.getElem?_eq_getElem h, List.any_append, List.getD_eq_getElem?_getD, List.getElem?_eq_getElem h]
  simp
end Go.Sx.Ytaijdhocmjnopaa
