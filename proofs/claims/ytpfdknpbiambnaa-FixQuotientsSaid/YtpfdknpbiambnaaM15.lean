/- The law FixList, plain part. -/
import Derived.Test.YtpfdknpbiambnaaM14
namespace Go.Sx.Ytpfdknpbiambnaa
open Go Go.Sx Go.Proofs
set_option linter.unusedVariables false
set_option linter.unusedSimpArgs false
set_option maxRecDepth 100000

theorem sumL_app : ∀ (a b : List Int), sumL (a ++ b) = sumL a + sumL b
  | [], b => by simp [sumL]
  | x :: a, b => by
    rw [List.cons_append, sumL, sumL, sumL_app a b]
    omega
theorem sumL_rev : ∀ (a : List Int), sumL a.reverse = sumL a
  | [] => rfl
  | x :: a => by
    rw [List.reverse_cons, sumL_app, sumL_rev a, sumL, sumL, sumL]
    omega
theorem sumListR_rev (lo hi : Int) (l : List Int) : sumListR lo hi l.reverse = sumListR lo hi l := by
  simp only [sumListR, List.length_reverse, sumL_rev]
theorem splitL_succ (n p : Int) (m : Nat) : splitL n p (m + 1) = splitL n p m ++ [partS n p m] := by
  simp [splitL, List.range_succ]
theorem splitL_sum (n p : Int) (hr : 0 ≤ n.tmod p) : ∀ m : Nat, sumL (splitL n p m) = m * n.tdiv p + min (m : Int) (n.tmod p)
  | 0 => by simp [splitL, sumL]; omega
  | m + 1 => by
    rw [splitL_succ, sumL_app, splitL_sum n p hr m, sumL, sumL, partS]
    obtain ⟨q, hq⟩ : ∃ q, q = n.tdiv p := ⟨_, rfl⟩
    rw [← hq]
    have e : ((m + 1 : Nat) : Int) * q = m * q + q := by rw [Int.natCast_add, Int.add_mul]; simp
    rw [e]
    split <;> omega
theorem splitL_get (n p : Int) {m i : Nat} (h : i < m) : (splitL n p m).getD i 0 = partS n p i := by
  rw [List.getD_eq_getElem?_getD, splitL, List.getElem?_map, List.getElem?_range h]
  rfl
theorem splitL_len (n p : Int) (m : Nat) : (splitL n p m).length = m := by simp [splitL]
theorem split_facts {n p : Int} (h0 : 0 ≤ n) (hn : inI n) (hp : 1 ≤ p ∧ p ≤ 50) : splitS n p = (splitL n p p.toNat, 0) ∧ sumL (splitL n p p.toNat) = n ∧ (∀ x ∈ splitL n p p.toNat, inI x) ∧
    (∀ i j : Nat, i ≤ j → partS n p j ≤ partS n p i) ∧ (∀ i j : Nat, partS n p i - partS n p j ≤ 1) ∧ (∀ i : Nat, i < p.toNat → 0 ≤ partS n p i ∧ partS n p i ≤ 9223372036854775807) := by
  have e1 : n.tdiv p = n / p := Int.tdiv_eq_ediv_of_nonneg h0
  have e2 : n.tmod p = n % p := Int.tmod_eq_emod_of_nonneg h0
  have h1 := Int.ediv_mul_add_emod n p
  have h2 := Int.emod_nonneg n (show p ≠ 0 by omega)
  have h3 := Int.emod_lt_of_pos n (show 0 < p by omega)
  have h4 : 0 ≤ n / p := Int.ediv_nonneg h0 (by omega)
  have h5 : n / p ≤ n / p * p := by
    have := Int.mul_le_mul_of_nonneg_left hp.1 h4
    omega
  unfold inI at hn
  have hb : ∀ i : Nat, 0 ≤ partS n p i ∧ partS n p i ≤ 9223372036854775807 := fun i => by
    unfold partS
    rw [e1, e2]
    split <;> omega
  refine ⟨?_, ?_, ?_, ?_, ?_, fun i _ => hb i⟩
  · rw [splitS, if_neg (by omega)]
  · rw [splitL_sum n p (by omega), e1, e2, Int.toNat_of_nonneg (by omega), Int.mul_comm]
    omega
  · intro x hx
    simp only [splitL, List.mem_map] at hx
    obtain ⟨i, _, rfl⟩ := hx
    have := hb i
    unfold inI
    omega
  · intro i j h
    unfold partS
    split <;> split <;> omega
  · intro i j
    unfold partS
    split <;> split <;> omega
theorem modS_50 (x : Int) : 0 ≤ modS x 50 ∧ modS x 50 < 50 := by
  rw [modS, if_neg (by decide)]
  omega
theorem clampS_twice {lo hi n : Int} (h : ¬ hi < lo) : clampS lo hi n = (max lo (min hi n), 0) ∧ clampS lo hi (max lo (min hi n)) = (max lo (min hi n), 0) := by
  rw [clampS, if_neg h, clampS, if_neg h]
  refine ⟨rfl, ?_⟩
  rw [show max lo (min hi (max lo (min hi n))) = max lo (min hi n) by omega]
theorem rev_step {l : List Int} {k : Nat} (h : k < l.length) : l.reverse.take (k + 1) = l.reverse.take k ++ [l.getD (l.length - 1 - k) 0] := by
  have e : l.reverse.getD k 0 = l.getD (l.length - 1 - k) 0 := by
    rw [List.getD_eq_getElem?_getD, List.getD_eq_getElem?_getD, List.getElem?_reverse h]
  rw [← e, List.getD_eq_getElem?_getD, List.take_add_one]
  have h2 : k < l.reverse.length := by simpa using h
  rw [List.getElem?_eq_getElem h2]
  rfl
end Go.Sx.Ytpfdknpbiambnaa
