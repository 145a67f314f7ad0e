/- Chapter 28: plain laws of tables made of numbers, and of what is chosen. -/
import Derived.Test.YteiehkafkcggeaaT17
namespace Go.Sx.Yteiehkafkcggeaa
open Go Go.Sx Go.Proofs
set_option linter.unusedVariables false
set_option linter.unusedSimpArgs false
set_option maxRecDepth 100000

structure OkT (l : List Call) (T : Int) : Prop where
  ok : ∀ c ∈ l, callErr c = 0
  late : ∀ c ∈ l, c.2.2.2.1 ≤ T
  srt : l.Pairwise (fun a b : Call => a.2.2.2.1 ≤ b.2.2.2.1)
  dif : l.Pairwise (fun a b : Call => sameB a b = false)
  len : l.length ≤ 20
theorem getD_get {l : List Call} {i : Nat} (h : i < l.length) : l.getD i zc = l[i] := by
  rw [List.getD_eq_getElem?_getD, List.getElem?_eq_getElem h]; rfl
theorem getD_mem {l : List Call} {i : Nat} (h : i < l.length) : l.getD i zc ∈ l := by
  rw [getD_get h]; exact List.getElem_mem h
theorem tabFrom_nil {l : List Call} (h : ∀ i, i < l.length → checkAt l i = 0) : ∀ n i, i + n ≤ l.length → tabFrom l n i = (0, 0)
  | 0, _, _ => rfl
  | n + 1, i, hi => by
    rw [tabFrom, if_neg (by rw [h i (by omega)]; decide)]
    exact tabFrom_nil h n (i + 1) (by omega)
theorem OkT.at {l : List Call} {T : Int} (h : OkT l T) (i : Nat) (hi : i < l.length) : checkAt l i = 0 := by
  have h1 := h.ok _ (getD_mem hi)
  have h2 : ¬ (0 < i ∧ (l.getD i zc).2.2.2.1 < (l.getD (i - 1) zc).2.2.2.1) := by
    rintro ⟨h0, h3⟩
    have := List.pairwise_iff_getElem.1 h.srt (i - 1) i (by omega) hi (by omega)
    rw [getD_get hi, getD_get (show i - 1 < l.length by omega)] at h3
    omega
  have h3 : ¬ hasB (l.take i) (l.getD i zc) = true := by
    intro h4
    rw [hasB, List.any_eq_true] at h4
    obtain ⟨x, hx, hs⟩ := h4
    obtain ⟨j, hj, rfl⟩ := List.getElem_of_mem hx
    rw [List.length_take] at hj
    have := List.pairwise_iff_getElem.1 h.dif j i (by omega) hi (by omega)
    rw [List.getElem_take, getD_get hi, this] at hs
    cases hs
  rw [checkAt, if_neg (by rw [h1]; decide), if_neg h2, if_neg h3]
theorem OkT.check {l : List Call} {T : Int} (h : OkT l T) (u : Unit) : (tabCheck (20, l, u)).1 = 0 := by
  have := h.len
  rw [tabCheck, if_neg (by simp only; omega), if_neg (by simp only; omega)]
  simp only
  rw [tabFrom_nil h.at _ _ (by omega)]
theorem OkT.filter {l : List Call} {T : Int} (h : OkT l T) (p : Call → Bool) : OkT (l.filter p) T :=
  ⟨fun c hc => h.ok c (List.mem_filter.1 hc).1, fun c hc => h.late c (List.mem_filter.1 hc).1, h.srt.filter p, h.dif.filter p, Nat.le_trans (List.length_filter_le _ _) h.len⟩
theorem callM_ok {k a : Int} (hk : 0 ≤ k) (h0 : 0 ≤ a) (h1 : a ≤ 1000) : callErr (callM k a) = 0 := by
  rw [callM]
  split
  · rw [callErr]
    simp only
    rw [if_neg (by omega), if_neg (by omega), if_neg (by omega)]
  · rw [callErr]
    simp only
    rw [if_neg (by omega), if_neg (by omega), if_neg (by omega)]
theorem callM_at (k a : Int) : (callM k a).2.2.2.1 = a := by
  rw [callM]; split <;> rfl
theorem OkT.app {l : List Call} {T : Int} (h : OkT l T) {c : Call} (h1 : callErr c = 0) (h2 : T ≤ c.2.2.2.1) (h3 : l.any (sameB c) = false) (h4 : l.length < 20) : OkT (l ++ [c]) c.2.2.2.1 := by
  refine ⟨?_, ?_, ?_, ?_, by simp; omega⟩
  · intro x hx
    rcases List.mem_append.1 hx with hx | hx
    · exact h.ok x hx
    · rw [List.mem_singleton.1 hx]; exact h1
  · intro x hx
    rcases List.mem_append.1 hx with hx | hx
    · have := h.late x hx; omega
    · rw [List.mem_singleton.1 hx]; omega
  · rw [List.pairwise_append]
    refine ⟨h.srt, by simp, fun x hx y hy => ?_⟩
    rw [List.mem_singleton.1 hy]
    have := h.late x hx
    omega
  · rw [List.pairwise_append]
    refine ⟨h.dif, by simp, fun x hx y hy => ?_⟩
    rw [List.mem_singleton.1 hy, sameB_comm]
    have := List.any_eq_false.1 h3 x hx
    simpa using this
theorem made_go : ∀ (ns : List Int) (a : Int) (l : List Call), OkT l a → 0 ≤ a → l.length + ns.length ≤ 20 → a + 4 * ns.length ≤ 1000 →
    OkT (ns.foldl stepM (a, l)).2 (ns.foldl stepM (a, l)).1 ∧ 0 ≤ (ns.foldl stepM (a, l)).1 ∧ (ns.foldl stepM (a, l)).1 ≤ a + 4 * ns.length
  | [], a, l, h, h0, _, _ => ⟨h, h0, by simp⟩
  | n :: ns, a, l, h, h0, hl, ha => by
    have hk := modS_in n (show (0 : Int) < 16777216 by decide)
    obtain ⟨k, hkk⟩ : ∃ k, modS n 16777216 = k := ⟨_, rfl⟩
    rw [hkk] at hk
    simp only [List.length_cons] at hl ha ⊢
    rw [List.foldl_cons]
    have hc := callM_ok (a := a + k % 4) hk.1 (by omega) (by omega)
    have hat := callM_at k (a + k % 4)
    have hstep : stepM (a, l) n = if l.any (sameB (callM k (a + k % 4))) = true then (a + k % 4, l) else (a + k % 4, l ++ [callM k (a + k % 4)]) := by
      rw [stepM]; simp only [hkk]
    rw [hstep]
    by_cases hs : l.any (sameB (callM k (a + k % 4))) = true
    · rw [if_pos hs]
      have := made_go ns (a + k % 4) l ⟨h.ok, fun x hx => by have := h.late x hx; omega, h.srt, h.dif, h.len⟩ (by omega) (by omega) (by omega)
      exact ⟨this.1, this.2.1, by have := this.2.2; omega⟩
    · rw [if_neg hs]
      have hap := h.app hc (by omega) (by simpa using hs) (by omega)
      rw [hat] at hap
      have := made_go ns (a + k % 4) (l ++ [callM k (a + k % 4)]) hap (by omega) (by simp; omega) (by omega)
      exact ⟨this.1, this.2.1, by have := this.2.2; omega⟩
theorem madeM_ok (nums : List Int) : OkT (madeM nums).2 (madeM nums).1 ∧ 0 ≤ (madeM nums).1 ∧ (madeM nums).1 ≤ 80 := by
  have hl : (nums.take 20).length ≤ 20 := by rw [List.length_take]; omega
  have := made_go (nums.take 20) 0 [] ⟨by simp, by simp, by simp, by simp, by simp⟩ (by decide) (by simp; omega) (by omega)
  exact ⟨this.1, this.2.1, by have := this.2.2; rw [← madeM] at this; omega⟩
theorem askM_ok {a : Int} (h0 : 0 ≤ a) (h1 : a ≤ 80) (n now : Int) : askRange (askM a n now) := by
  have hk := modS_in n (show (0 : Int) < 1048576 by decide)
  have hn := modS_in now (show (0 : Int) < 40 by decide)
  obtain ⟨k, hkk⟩ : ∃ k, modS n 1048576 = k := ⟨_, rfl⟩
  rw [hkk] at hk
  simp only [askM, askRange, hkk]
  omega
theorem takenGo_ok : ∀ {g : List Call}, (∀ c ∈ g, callErr c = 0 ∧ hallB c = true) → takenGo g = 0
  | [], _ => rfl
  | c :: g, h => by
    have := h c (by simp)
    rw [takenGo, if_neg (by rw [this.1]; decide), if_neg (by rw [this.2]; decide)]
    exact takenGo_ok fun x hx => h x (by simp [hx])
theorem firstOf_all {p : Call → Bool} : ∀ {l : List Call}, (firstOf p l).2 = false → ∀ x ∈ l, p x = false
  | [], _, x, hx => by simp at hx
  | c :: cs, h, x, hx => by
    rw [firstOf] at h
    split at h
    · cases h
    · rename_i hp
      rcases List.mem_cons.1 hx with rfl | hx
      · simpa using hp
      · exact firstOf_all h x hx
theorem firstOf_filter {p q : Call → Bool} (hpq : ∀ x, p x = true → q x = true) : ∀ l : List Call, firstOf p (l.filter q) = firstOf p l
  | [] => rfl
  | c :: cs => by
    by_cases hp : p c = true
    · rw [List.filter_cons_of_pos (hpq c hp), firstOf, firstOf, if_pos hp, if_pos hp]
    · by_cases hq : q c = true
      · rw [List.filter_cons_of_pos hq, firstOf, firstOf, if_neg hp, if_neg hp, firstOf_filter hpq cs]
      · rw [List.filter_cons_of_neg hq, firstOf, if_neg hp, firstOf_filter hpq cs]
theorem byS_no {l : List Call} {a : Ask} (h : (byS l a).2 = false) : byS l a = (zc, false) := by
  rw [byS] at h ⊢
  split
  · rename_i h1; rw [if_pos h1] at h; exact firstOf_no h
  · rename_i h1
    rw [if_neg h1] at h
    split
    · rfl
    · rename_i h2
      rw [if_neg h2] at h
      split
      · rename_i h3; rw [if_pos h3] at h; exact hallS_no h
      · rename_i h3; rw [if_neg h3] at h; cases h
/-- Of which calls a car takes notice. -/
def mineB (car : Int) (x : Call) : Bool := hallB x || eqI x.2.2.1 car
theorem byS_filter (l : List Call) (a : Ask) : byS (l.filter (mineB a.1)) a = byS l a := by
  have h1 : ∀ x, ownB a.1 x = true → mineB a.1 x = true := fun x h => by
    rw [ownB, Bool.and_eq_true] at h
    rw [mineB, h.2, Bool.or_true]
  have h2 : ∀ now cy x, urgB now cy x = true → mineB a.1 x = true := fun now cy x h => by
    rw [urgB, Bool.and_eq_true] at h
    rw [mineB, h.1, Bool.true_or]
  have h3 : ∀ g x, freeB g x = true → mineB a.1 x = true := fun g x h => by
    rw [freeB, Bool.and_eq_true] at h
    rw [mineB, h.1, Bool.true_or]
  have e1 : ownS (l.filter (mineB a.1)) a.1 = ownS l a.1 := firstOf_filter h1 l
  have e2 : hallA (l.filter (mineB a.1)) a = hallA l a := by
    rw [hallA, hallS, hallA, hallS, firstOf_filter (h2 _ _) l, firstOf_filter (h3 _) l]
  rw [byS, byS, e1, e2]
/-- Which calls are chosen sooner or later. -/
def wantB (a : Ask) (c : Call) : Bool := (eqI a.2.1 0 && (urgB a.2.2.2.1 a.2.2.2.2.1 c || freeB (askL a) c)) || (leI a.2.1 1 && ownB a.1 c)
theorem byS_want {l : List Call} {a : Ask} (hm : 0 ≤ a.2.1) (h : (byS l a).2 = true) : wantB a (byS l a).1 = true := by
  have own : (ownS l a.1).2 = true → ownB a.1 (ownS l a.1).1 = true := fun h => (firstOf_mem h).2
  have hall : (hallA l a).2 = true → (urgB a.2.2.2.1 a.2.2.2.2.1 (hallA l a).1 || freeB (askL a) (hallA l a).1) = true := by
    intro h
    rw [hallA, hallS] at h ⊢
    by_cases hh : (firstOf (urgB a.2.2.2.1 a.2.2.2.2.1) l).2 = true
    · rw [if_pos hh] at h ⊢
      have := (firstOf_mem h).2
      rw [this, Bool.true_or]
    · rw [if_neg hh] at h ⊢
      have := (firstOf_mem h).2
      rw [this, Bool.or_true]
  rw [byS] at h ⊢
  split
  · rename_i h1
    rw [if_pos h1] at h
    rw [wantB, own h, show leI a.2.1 1 = true by rw [leI_t]; omega]
    simp
  · rename_i h1
    rw [if_neg h1] at h
    split
    · rename_i h2; rw [if_pos h2] at h; cases h
    · rename_i h2
      rw [if_neg h2] at h
      have e0 : a.2.1 = 0 := by simpa using h2
      split
      · rename_i h3
        rw [if_pos h3] at h
        rw [wantB, hall h, e0]
        rfl
      · rename_i h3
        have h4 : (ownS l a.1).2 = true := by
          cases hh : (ownS l a.1).2
          · exact absurd (.inr hh) h3
          · rfl
        rw [wantB, own h4, e0]
        simp [leI]
theorem byS_none {l : List Call} {a : Ask} (hm : 0 ≤ a.2.1) (h : (byS l a).2 = false) : ∀ x ∈ l, wantB a x = false := by
  intro x hx
  rw [byS] at h
  by_cases h1 : a.2.1 = 1
  · rw [if_pos h1] at h
    have := firstOf_all h x hx
    rw [wantB, this, h1]
    simp [eqI]
  · rw [if_neg h1] at h
    by_cases h2 : a.2.1 = 0
    · rw [if_neg (by simpa using h2)] at h
      by_cases h3 : a.2.2.1.tmod 2 = 0 ∧ (hallA l a).2 = true ∨ (ownS l a.1).2 = false
      · rw [if_pos h3] at h
        have h4 : (ownS l a.1).2 = false := by
          rcases h3 with h3 | h3
          · rw [h] at h3; cases h3.2
          · exact h3
        rw [hallA, hallS] at h
        by_cases h5 : (firstOf (urgB a.2.2.2.1 a.2.2.2.2.1) l).2 = true
        · rw [if_pos h5, h5] at h; cases h
        · rw [if_neg h5] at h
          have q1 := firstOf_all h4 x hx
          have q2 := firstOf_all h x hx
          have q3 := firstOf_all (p := urgB a.2.2.2.1 a.2.2.2.2.1) (l := l) (by simpa using h5) x hx
          rw [wantB, q1, q2, q3]
          simp
      · rw [if_neg h3] at h; cases h
    · rw [wantB]
      have e1 : eqI a.2.1 0 = false := by rw [eqI_f]; exact h2
      have e2 : leI a.2.1 1 = false := by rw [leI_f]; omega
      rw [e1, e2]; rfl
theorem perm_out {c : Call} : ∀ {l : List Call}, l.Pairwise (fun a b : Call => sameB a b = false) → c ∈ l → l.Perm (c :: l.filter fun x => !sameB x c)
  | [], _, h => by simp at h
  | x :: l, hp, h => by
    rw [List.pairwise_cons] at hp
    by_cases hx : sameB x c = true
    · have hxc : x = c := by
        rcases List.mem_cons.1 h with h | h
        · exact h.symm
        · have := hp.1 c h
          rw [this] at hx; cases hx
      subst hxc
      have : l.filter (fun y => !sameB y x) = l := by
        rw [List.filter_eq_self]
        intro y hy
        rw [sameB_comm, hp.1 y hy]; rfl
      rw [List.filter_cons_of_neg (by rw [hx]; decide), this]
    · have hc : c ∈ l := by
        rcases List.mem_cons.1 h with h | h
        · exact absurd (by rw [h]; simp [sameB]) hx
        · exact h
      rw [List.filter_cons_of_pos (by simpa using hx)]
      exact ((perm_out hp.2 hc).cons x).trans (List.Perm.swap _ _ _)
theorem order_perm {a : Ask} (hm : 0 ≤ a.2.1) : ∀ (n : Nat) (l : List Call), l.length ≤ n → l.Pairwise (fun a b : Call => sameB a b = false) → (orderGo a n l).Perm (l.filter (wantB a))
  | 0, l, hl, _ => by
    obtain rfl : l = [] := List.length_eq_zero_iff.1 (by omega)
    exact List.Perm.refl _
  | n + 1, l, hl, hd => by
    rw [orderGo]
    by_cases h : (byS l a).2 = true
    · rw [if_pos h]
      have hm2 := byS_mem h
      have hlt := filter_less hm2
      have ih := order_perm hm n (l.filter fun x => !sameB x (byS l a).1) (by omega) (hd.filter _)
      have hp := (perm_out hd hm2).filter (wantB a)
      rw [List.filter_cons_of_pos (byS_want hm h)] at hp
      exact (ih.cons _).trans hp.symm
    · rw [if_neg h]
      have : l.filter (wantB a) = [] := by
        rw [List.filter_eq_nil_iff]
        intro x hx
        rw [byS_none hm (by simpa using h) x hx]
        decide
      rw [this]
end Go.Sx.Yteiehkafkcggeaa
