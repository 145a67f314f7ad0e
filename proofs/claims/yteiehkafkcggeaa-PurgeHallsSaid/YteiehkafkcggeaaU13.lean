/- Chapter 30: plain laws of handovers made of numbers. -/
import Derived.Test.YteiehkafkcggeaaU12
namespace Go.Sx.Yteiehkafkcggeaa
open Go Go.Sx Go.Proofs
set_option linter.unusedVariables false
set_option linter.unusedSimpArgs false
set_option maxRecDepth 100000

structure OkT (l : List Call) (m : Nat) : Prop where
  ok : ∀ c ∈ l, callErr c = 0
  srt : l.Pairwise (fun a b : Call => a.2.2.2.1 ≤ b.2.2.2.1)
  dif : l.Pairwise (fun a b : Call => sameB a b = false)
  len : l.length ≤ m
theorem getD_get {l : List Call} {i : Nat} (h : i < l.length) : l.getD i zc = l[i] := by
  rw [List.getD_eq_getElem?_getD, List.getElem?_eq_getElem h]; rfl
theorem getD_mem {l : List Call} {i : Nat} (h : i < l.length) : l.getD i zc ∈ l := by
  rw [getD_get h]; exact List.getElem_mem h
theorem tabFrom_nil {l : List Call} (h : ∀ i, i < l.length → checkAt l i = 0) : ∀ n i, i + n ≤ l.length → tabFrom l n i = (0, 0)
  | 0, _, _ => rfl
  | n + 1, i, hi => by
    rw [tabFrom, if_neg (by rw [h i (by omega)]; decide)]
    exact tabFrom_nil h n (i + 1) (by omega)
theorem OkT.at {l : List Call} {m : Nat} (h : OkT l m) (i : Nat) (hi : i < l.length) : checkAt l i = 0 := by
  have h1 := h.ok _ (getD_mem hi)
  have h2 : ¬ (0 < i ∧ (l.getD i zc).2.2.2.1 < (l.getD (i - 1) zc).2.2.2.1) := by
    rintro ⟨h0, h3⟩
    have := List.pairwise_iff_getElem.1 h.srt (i - 1) i (by omega) hi (by omega)
    rw [getD_get hi, getD_get (show i - 1 < l.length by omega)] at h3
    omega
  have h3 : ¬ hasB (l.take i) (l.getD i zc) = true := by
    intro h4
    rw [hasB, List.any_eq_true] at h4
    obtain ⟨x, hx, hs⟩ := h4
    obtain ⟨j, hj, rfl⟩ := List.getElem_of_mem hx
    rw [List.length_take] at hj
    have := List.pairwise_iff_getElem.1 h.dif j i (by omega) hi (by omega)
    rw [List.getElem_take, getD_get hi, this] at hs
    cases hs
  rw [checkAt, if_neg (by rw [h1]; decide), if_neg h2, if_neg h3]
theorem OkT.check {l : List Call} {m : Nat} (h : OkT l m) (h1 : 1 ≤ m) (h2 : m ≤ 32) (u : Unit) : tabE ((m : Int), l, u) = 0 := by
  have := h.len
  rw [tabE, tabCheck, if_neg (by simp only; omega), if_neg (by simp only; omega)]
  simp only
  rw [tabFrom_nil h.at _ _ (by omega)]
theorem OkT.filter {l : List Call} {m : Nat} (h : OkT l m) (p : Call → Bool) : OkT (l.filter p) m :=
  ⟨fun c hc => h.ok c (List.mem_filter.1 hc).1, h.srt.filter p, h.dif.filter p, Nat.le_trans (List.length_filter_le _ _) h.len⟩
theorem carsN_in (nums : List Int) : 1 ≤ carsN nums ∧ carsN nums ≤ 8 := by
  have := modS_in (atR nums 0) (show (0 : Int) < 8 by decide)
  rw [carsN]
  omega
theorem callsN_in (nums : List Int) (d : Nat) : callsN nums d ≤ 8 := by
  have := modS_in (atR nums (nI (9 + d))) (show (0 : Int) < 9 by decide)
  rw [callsN]
  omega
theorem callH_ok (nums : List Int) (d i : Nat) (hi : i < 8) : callErr (callH nums d i) = 0 := by
  have h0 := modS_in (atR nums (nI (12 + 8 * d + i))) (show (0 : Int) < 1048576 by decide)
  obtain ⟨k, hk⟩ : ∃ k, callV nums d i = k := ⟨_, rfl⟩
  rw [show modS (atR nums (nI (12 + 8 * d + i))) 1048576 = k from hk] at h0
  have hn := carsN_in nums
  have hm0 := Int.emod_nonneg (k / 6) (show ((carsN nums : Nat) : Int) ≠ 0 by omega)
  have hm1 := Int.emod_lt_of_pos (k / 6) (show (0 : Int) < ((carsN nums : Nat) : Int) by omega)
  have hI : nI i = ((i : Nat) : Int) := rfl
  have hN : nI (carsN nums) = ((carsN nums : Nat) : Int) := rfl
  rw [callH, hk, hI, hN]
  split
  · rw [callErr]
    simp only
    rw [if_neg (by omega), if_neg (by omega), if_neg (by omega)]
  · rw [callErr]
    simp only
    rw [if_neg (by omega), if_neg (by omega), if_neg (by omega)]
theorem callH_dif (nums : List Int) (d i j : Nat) (hij : i < j) (hj : j < 8) : sameB (callH nums d i) (callH nums d j) = false := by
  have hI : nI i = ((i : Nat) : Int) := rfl
  have hJ : nI j = ((j : Nat) : Int) := rfl
  rw [sameB, decide_eq_false_iff_not]
  rintro ⟨h1, h2, h3⟩
  rw [callH, callH, hI, hJ] at h2
  simp only at h2
  omega
theorem callsH_ok (nums : List Int) (d n : Nat) (hn : n ≤ 8) : OkT (callsH nums d n) 8 := by
  refine ⟨?_, ?_, ?_, by rw [callsH_len]; exact hn⟩
  · intro c hc
    rw [callsH, List.mem_map] at hc
    obtain ⟨i, hi, rfl⟩ := hc
    rw [List.mem_range] at hi
    exact callH_ok nums d i (by omega)
  · rw [callsH, List.pairwise_map]
    refine List.pairwise_lt_range.imp fun {a b} hab => ?_
    show 10 * ((a : Nat) : Int) ≤ 10 * ((b : Nat) : Int)
    omega
  · rw [callsH, List.pairwise_map]
    refine List.Pairwise.imp_of_mem (fun {a b} ha hb hab => ?_) (List.pairwise_lt_range (n := n))
    rw [List.mem_range] at hb
    exact callH_dif nums d a b hab (by omega)
theorem loadsE_ok : ∀ {l : List Int}, (∀ x ∈ l, 0 ≤ x ∧ x ≤ 10000) → loadsE l = 0
  | [], _ => rfl
  | x :: l, h => by
    have := h x (by simp)
    rw [loadsE, if_neg (by omega)]
    exact loadsE_ok fun y hy => h y (by simp [hy])
theorem tabsE_ok : ∀ {l : List Table}, (∀ x ∈ l, tabE x = 0) → tabsE l = 0
  | [], _ => rfl
  | x :: l, h => by
    have := h x (by simp)
    rw [tabsE, if_neg (by omega)]
    exact tabsE_ok fun y hy => h y (by simp [hy])
theorem loads_in (nums : List Int) (n : Nat) : ∀ x ∈ loadsL nums n, 0 ≤ x ∧ x ≤ 10000 := by
  intro x hx
  rw [loadsL, List.mem_map] at hx
  obtain ⟨i, hi, rfl⟩ := hx
  have := modS_in (atR nums (nI (i + 1))) (show (0 : Int) < 1048576 by decide)
  rw [carV]
  omega
/-- Which tables are made. -/
def TabsOk (ts : List Table) : Prop := ts.length = 3 ∧ ∀ t ∈ ts, t.1 = 8 ∧ OkT t.2.1 8
theorem tabs_made (nums : List Int) : TabsOk (tabsH nums 3) := by
  refine ⟨tabsH_len _ _, fun t ht => ?_⟩
  rw [tabsH, List.mem_map] at ht
  obtain ⟨d, _, rfl⟩ := ht
  exact ⟨rfl, callsH_ok nums d _ (callsN_in nums d)⟩
theorem tabs_halls {ts : List Table} (h : TabsOk ts) : TabsOk (ts.map hallsR) := by
  refine ⟨by rw [List.length_map]; exact h.1, fun t ht => ?_⟩
  rw [List.mem_map] at ht
  obtain ⟨x, hx, rfl⟩ := ht
  exact ⟨(h.2 x hx).1, (h.2 x hx).2.filter _⟩
theorem hand_made {ld : List Int} {fl inn : List Bool} {ts : List Table} (h1 : 1 ≤ ld.length) (h2 : ld.length ≤ 8) (h3 : fl.length = ld.length) (h4 : inn.length = ld.length) (h5 : TabsOk ts) (h6 : ∀ x ∈ ld, 0 ≤ x ∧ x ≤ 10000) : handE (ld, fl, inn, ts, ()) = 0 := by
  have ht : tabsE ts = 0 := tabsE_ok fun t ht => by
    obtain ⟨cap, l, u⟩ := t
    have := h5.2 _ ht
    simp only at this
    obtain ⟨rfl, h⟩ := this
    exact h.check (by decide) (by decide) u
  rw [handE]
  simp only
  rw [if_neg (by have := h5.1; omega), if_neg (by rw [loadsE_ok h6]; decide)]
  exact ht
theorem hand_L {ld : List Int} {fl inn : List Bool} {ts : List Table} (h2 : ld.length ≤ 8) (h3 : fl.length = ld.length) (h4 : inn.length = ld.length) (h5 : TabsOk ts) : handL (ld, fl, inn, ts, ()) := by
  refine ⟨by simp only; omega, by simp only; omega, by simp only; omega, by simp only; rw [h5.1]; decide, fun i => ?_⟩
  simp only
  by_cases q : i < ts.length
  · have := (h5.2 (ts.getD i zT) (by rw [List.getD_eq_getElem?_getD, List.getElem?_eq_getElem q]; exact List.getElem_mem q)).2.len
    omega
  · rw [List.getD_eq_getElem?_getD, List.getElem?_eq_none (by omega)]
    simp [zT, Kd.z, Kds.z]
theorem ask_made {h : Hand} {e : Int} (hh : handE h = 0) (h0 : 0 ≤ e) (h1 : e ≤ 10000) : askE h e = 0 := by
  rw [askE, if_neg (by rw [hh]; decide), if_neg (by omega)]
/-- A word's bits. -/
theorem wordN_bit (ld : List Int) (fl : List Bool) (e : Int) (i : Nat) : ∀ n, i < n → wordN ld fl e n / 2 ^ i % 2 = if bitB ld fl e i = true then 1 else 0
  | 0, h => by omega
  | n + 1, h => by
    have hw := wordN_in ld fl e n
    have hp : (0 : Int) < 2 ^ i := Int.pow_pos (by decide)
    rw [wordN]
    by_cases hi : i = n
    · subst hi
      split
      · rw [Int.add_ediv_of_dvd_right (Int.dvd_refl _), Int.ediv_self (by omega), Int.ediv_eq_zero_of_lt hw.1 hw.2]
        rfl
      · rw [Int.add_zero, Int.ediv_eq_zero_of_lt hw.1 hw.2]
        rfl
    · have ih := wordN_bit ld fl e i n (by omega)
      split
      · have e1 : (2 : Int) ^ n = 2 ^ i * (2 * 2 ^ (n - i - 1)) := by
          obtain ⟨k, rfl⟩ : ∃ k, n = i + k + 1 := ⟨n - i - 1, by omega⟩
          rw [show i + k + 1 - i - 1 = k by omega, Int.pow_succ, Int.pow_add, Int.mul_comm 2, Int.mul_assoc]
        rw [e1, Int.add_mul_ediv_left _ _ (by omega), Int.add_mul_emod_self_left]
        exact ih
      · rw [Int.add_zero]
        exact ih
theorem range_getD {α : Type} (f : Nat → α) (d : α) {n k : Nat} (h : k < n) : ((List.range n).map f).getD k d = f k := by
  simp [List.getD_eq_getElem?_getD, h]
theorem halls_all {ts : List Table} : ∀ c ∈ callsOf (ts.map hallsR), hallB c = true := by
  intro c hc
  rw [callsOf, List.mem_flatMap] at hc
  obtain ⟨t, ht, hc⟩ := hc
  rw [List.mem_map] at ht
  obtain ⟨x, _, rfl⟩ := ht
  exact (List.mem_filter.1 hc).2
theorem noC_halls (ts : List Table) (i : Nat) : noC (callsOf (ts.map hallsR)) i = true := by
  rw [noC, List.all_eq_true]
  intro c hc
  rw [halls_all c hc, Bool.true_or]
theorem inL_at {w : Int} {n k : Nat} (h : k < n) : (inL w n).getD k false = decide (w / 2 ^ k % 2 = 0) := range_getD _ _ h
theorem bitL_at {w : Int} {n k : Nat} (h : k < n) : (bitL w n).getD k false = decide (w / 2 ^ k % 2 = 1) := range_getD _ _ h
theorem clean_at {h : Hand} {e : Int} {k : Nat} (hk : k < h.1.length) : (cleanL h.1 (inL (wordR h e) h.1.length) e (callsOf (h.2.2.2.1.map hallsR)) h.1.length).getD k false = true := by
  rw [cleanL, range_getD _ _ hk, noC_halls, Bool.and_true, aB, inL_at hk, wordR, wordN_bit _ _ _ _ _ hk]
  by_cases hb : bitB h.1 h.2.1 e k = true
  · rw [if_pos hb]; rfl
  · rw [if_neg hb]
    rw [bitB] at hb
    split at hb
    · exact absurd rfl hb
    · rw [Bool.not_eq_true, ltI_f] at hb
      rw [show leI (h.1.getD k 0) e = true by rw [leI_t]; omega]
      rfl
theorem in_bit {w : Int} {n k : Nat} (h : k < n) : ((inL w n).getD k false == (bitL w n).getD k false) = false := by
  rw [inL_at h, bitL_at h]
  rcases (show w / 2 ^ k % 2 = 0 ∨ w / 2 ^ k % 2 = 1 by omega) with e | e <;> rw [e] <;> rfl
theorem bits_ok {w : Int} {n : Nat} (h1 : 1 ≤ n) (h8 : n ≤ 8) (hw : 0 ≤ w ∧ w < 2 ^ n) : bitsR w (nI n) = (bitL w n, 0) := by
  have : bitsE w (nI n) = 0 := by
    have hn : nI n = ((n : Nat) : Int) := rfl
    rw [bitsE, hn, if_neg]
    rintro (q | q | q | q)
    · omega
    · omega
    · omega
    · rw [Int.toNat_natCast] at q; omega
  rw [bitsR, if_neg (by rw [this]; decide)]
  rfl
theorem bitB_no (ld : List Int) (n : Nat) (e : Int) (k : Nat) : bitB ld (List.replicate n false) e k = ltI e (ld.getD k 0) := by
  rw [bitB, if_neg]
  rw [List.getD_eq_getElem?_getD, List.getElem?_replicate]
  split <;> decide
theorem load_bit {h : Hand} {e : Int} {k : Nat} (hk : k < h.1.length) : (bitL (wordR (overR h e) e) h.1.length).getD k false = ltI e (h.1.getD k 0) := by
  rw [bitL_at hk, wordR, overR]
  simp only
  rw [wordN_bit _ _ _ _ _ hk, bitB_no]
  cases ltI e (h.1.getD k 0) <;> rfl
theorem wordR_in (h : Hand) (e : Int) : 0 ≤ wordR h e ∧ wordR h e < 2 ^ h.1.length := wordN_in _ _ _ _
theorem wordN_sub {ld : List Int} {fl : List Bool} {e g : Int} (h : e ≤ g) (n i : Nat) (hb : wordN ld fl g n / 2 ^ i % 2 = 1) : wordN ld fl e n / 2 ^ i % 2 = 1 := by
  by_cases hi : i < n
  · rw [wordN_bit _ _ _ _ _ hi] at hb ⊢
    split at hb
    · rename_i q
      rw [if_pos]
      rw [bitB] at q ⊢
      split
      · rfl
      · rename_i q2
        rw [if_neg q2, ltI_t] at q
        rw [ltI_t]
        omega
    · omega
  · have hw := wordN_in ld fl g n
    have : (2 : Int) ^ n ≤ 2 ^ i := by
      have q1 : (2 : Nat) ^ n ≤ 2 ^ i := Nat.pow_le_pow_right (by decide) (by omega)
      have e0 : ∀ j : Nat, ((2 : Int)) ^ j = (((2 : Nat) ^ j : Nat) : Int) := fun j => by simp
      rw [e0, e0]
      omega
    rw [Int.ediv_eq_zero_of_lt hw.1 (by omega)] at hb
    omega
theorem andNot_sub {d a : Int} (hd : 0 ≤ d) (ha : 0 ≤ a) (h : ∀ i : Nat, d / 2 ^ i % 2 = 1 → a / 2 ^ i % 2 = 1) : bitsI .andNot .i64 d a = 0 := by
  obtain ⟨D, rfl⟩ := Int.eq_ofNat_of_zero_le hd
  obtain ⟨A, rfl⟩ := Int.eq_ofNat_of_zero_le ha
  show IntKind.i64.wrap (((BitVec.ofInt 64 (D : Int) &&& ~~~ BitVec.ofInt 64 (A : Int)).toNat : Nat) : Int) = 0
  have : BitVec.ofInt 64 (D : Int) &&& ~~~ BitVec.ofInt 64 (A : Int) = 0#64 := by
    rw [BitVec.ofInt_natCast, BitVec.ofInt_natCast]
    apply BitVec.eq_of_getLsbD_eq
    intro i hi
    rw [BitVec.getLsbD_and, BitVec.getLsbD_not, BitVec.getLsbD_ofNat, BitVec.getLsbD_ofNat, BitVec.getLsbD_zero, Nat.testBit_eq_decide_div_mod_eq, Nat.testBit_eq_decide_div_mod_eq]
    have hq := h i
    have e0 : ((2 : Int)) ^ i = (((2 : Nat) ^ i : Nat) : Int) := by simp
    rw [e0, ← Int.natCast_ediv, ← Int.natCast_ediv] at hq
    by_cases q : D / 2 ^ i % 2 = 1
    · have : A / 2 ^ i % 2 = 1 := by omega
      simp [hi, q, this]
    · simp [hi, q]
  rw [this]
  rfl
end Go.Sx.Yteiehkafkcggeaa
