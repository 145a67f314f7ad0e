/- M25 M26 M27 M28, joined. -/
import Derived.Test.YtpfdknpbiambnaaM24
namespace Go.Sx.Ytpfdknpbiambnaa
open Go Go.Sx Go.Proofs
set_option linter.unusedVariables false
set_option linter.unusedSimpArgs false
set_option maxRecDepth 100000

theorem dval_digit : ∀ {x : List Int} (j : Nat), drng x → dval x / 65536 ^ j % 65536 = x.getD j 0
  | x, 0, h => by
    have := drng_get h 0
    rw [Int.pow_zero, Int.ediv_one, dval_hd]
    omega
  | x, j + 1, h => by
    have h0 := drng_get h 0
    have h1 := dval_digit (x := x.tail) j (drng_tl h)
    rw [getD_tl] at h1
    have e : dval x / 65536 = dval x.tail := by rw [dval_hd]; omega
    rw [Int.pow_succ, Int.mul_comm, ← Int.ediv_ediv_of_nonneg (by decide), e]
    exact h1
theorem low_bit (V : Int) {m : Nat} (hm : m < 16) : V % 65536 / 2 ^ m % 2 = V / 2 ^ m % 2 := by
  have : m = 0 ∨ m = 1 ∨ m = 2 ∨ m = 3 ∨ m = 4 ∨ m = 5 ∨ m = 6 ∨ m = 7 ∨ m = 8 ∨ m = 9 ∨ m = 10 ∨ m = 11 ∨ m = 12 ∨ m = 13 ∨ m = 14 ∨ m = 15 := by omega
  rcases this with rfl | rfl | rfl | rfl | rfl | rfl | rfl | rfl | rfl | rfl | rfl | rfl | rfl | rfl | rfl | rfl <;> simp only [Int.reducePow] <;> omega
theorem pow_split (i : Nat) : (2 : Int) ^ i = 65536 ^ (i / 16) * 2 ^ (i % 16) := by
  have e : (65536 : Int) = 2 ^ 16 := rfl
  rw [e, ← Int.pow_mul, ← Int.pow_add]
  congr 1
  omega
/-- Bit i of a number, read off its digits. -/
theorem dval_bit {x : List Int} (h : drng x) (i : Nat) : x.getD (i / 16) 0 / 2 ^ (i % 16) % 2 = dval x / 2 ^ i % 2 := by
  rw [← dval_digit (i / 16) h, low_bit _ (Nat.mod_lt _ (by decide)), pow_split i, Int.ediv_ediv_of_nonneg (Int.le_of_lt (Int.pow_pos (by decide)))]
/-- One step of the division bit by bit. -/
theorem bit_step {A D : Int} (hA : 0 ≤ A) (hD : 0 < D) (k : Nat) : ∃ t q r : Int, t = A / 2 ^ (k + 1) ∧ A / 2 ^ k = 2 * t + A / 2 ^ k % 2 ∧ q = t / D ∧ r = t % D ∧
    (if D ≤ 2 * r + A / 2 ^ k % 2 then (A / 2 ^ k) / D = 2 * q + 1 ∧ (A / 2 ^ k) % D = 2 * r + A / 2 ^ k % 2 - D else (A / 2 ^ k) / D = 2 * q ∧ (A / 2 ^ k) % D = 2 * r + A / 2 ^ k % 2) := by
  have e : A / 2 ^ (k + 1) = A / 2 ^ k / 2 := by rw [Int.pow_succ, Int.ediv_ediv_of_nonneg (Int.le_of_lt (Int.pow_pos (by decide)))]
  obtain ⟨T, hT⟩ : ∃ T, T = A / 2 ^ k := ⟨_, rfl⟩
  have hT0 : 0 ≤ T := by rw [hT]; exact Int.ediv_nonneg hA (Int.le_of_lt (Int.pow_pos (by decide)))
  rw [← hT] at e ⊢
  refine ⟨T / 2, T / 2 / D, T / 2 % D, e.symm, by omega, rfl, rfl, ?_⟩
  have h1 := Int.ediv_mul_add_emod (T / 2) D
  have h2 := Int.emod_nonneg (T / 2) (Int.ne_of_gt hD)
  have h3 := Int.emod_lt_of_pos (T / 2) hD
  obtain ⟨q, hq⟩ : ∃ q, q = T / 2 / D := ⟨_, rfl⟩
  obtain ⟨r, hr⟩ : ∃ r, r = T / 2 % D := ⟨_, rfl⟩
  obtain ⟨z, hz⟩ : ∃ z, z = q * D := ⟨_, rfl⟩
  rw [← hq, ← hr, ← hz] at h1
  rw [← hr] at h2 h3
  rw [← hq, ← hr]
  split
  · rename_i c
    have hTe : T = (2 * r + T % 2 - D) + (2 * q + 1) * D := by
      rw [Int.add_mul, Int.one_mul, Int.mul_assoc, ← hz]; omega
    constructor
    · rw [hTe, Int.add_mul_ediv_right _ _ (Int.ne_of_gt hD), Int.ediv_eq_zero_of_lt (by omega) (by omega), Int.zero_add]
    · rw [hTe, Int.add_mul_emod_self_right, Int.emod_eq_of_lt (by omega) (by omega), ← hTe]
  · rename_i c
    have hTe : T = (2 * r + T % 2) + (2 * q) * D := by
      rw [Int.mul_assoc, ← hz]; omega
    constructor
    · rw [hTe, Int.add_mul_ediv_right _ _ (Int.ne_of_gt hD), Int.ediv_eq_zero_of_lt (by omega) (by omega), Int.zero_add]
    · rw [hTe, Int.add_mul_emod_self_right, Int.emod_eq_of_lt (by omega) (by omega), ← hTe]
theorem digit_low {R : List Int} (h : drng R) {i : Nat} {c : Int} (hv : dval R = c * 2 ^ (i + 1)) : ∃ a : Int, R.getD (i / 16) 0 = a * 2 ^ (i % 16 + 1) ∧ 0 ≤ a := by
  have hd := dval_digit (i / 16) h
  have hr := drng_get h (i / 16)
  have hp : (0 : Int) < 65536 ^ (i / 16) := Int.pow_pos (by decide)
  have e : dval R / 65536 ^ (i / 16) = c * 2 ^ (i % 16 + 1) := by
    rw [hv, Int.pow_succ, pow_split i, Int.mul_assoc (65536 ^ (i / 16)), ← Int.pow_succ, Int.mul_left_comm, Int.mul_ediv_cancel_left _ (Int.ne_of_gt hp)]
  rw [e] at hd
  obtain ⟨m, hm⟩ : ∃ m, m = i % 16 := ⟨_, rfl⟩
  have hm16 : m < 16 := by omega
  rw [← hm] at hd ⊢
  rw [← hd] at hr ⊢
  refine ⟨c * 2 ^ (m + 1) % 65536 / 2 ^ (m + 1), ?_, ?_⟩
  · have : m = 0 ∨ m = 1 ∨ m = 2 ∨ m = 3 ∨ m = 4 ∨ m = 5 ∨ m = 6 ∨ m = 7 ∨ m = 8 ∨ m = 9 ∨ m = 10 ∨ m = 11 ∨ m = 12 ∨ m = 13 ∨ m = 14 ∨ m = 15 := by omega
    clear hm hd e hr hp
    rcases this with rfl | rfl | rfl | rfl | rfl | rfl | rfl | rfl | rfl | rfl | rfl | rfl | rfl | rfl | rfl | rfl <;> simp only [Nat.reduceAdd, Int.reducePow] <;> omega
  · exact Int.ediv_nonneg hr.1 (Int.le_of_lt (Int.pow_pos (by decide)))
theorem td16 (m : Nat) : (m : Int).tdiv 16 = ((m / 16 : Nat) : Int) := rfl
theorem tm16 (m : Nat) : (m : Int).tmod 16 = ((m % 16 : Nat) : Int) := rfl
theorem and_one {z : Int} (h : 0 ≤ z ∧ z < 18446744073709551616) : bitsI .and .u64 z 1 = z % 2 := by
  obtain ⟨Z, rfl⟩ := Int.eq_ofNat_of_zero_le h.1
  show IntKind.u64.wrap (((BitVec.ofInt 64 (Z : Int) &&& BitVec.ofInt 64 1).toNat : Nat) : Int) = _
  have e1 : ((Z : Int) % ((2 ^ 64 : Nat) : Int)).toNat = Z := by omega
  have e2 : ((1 : Int) % ((2 ^ 64 : Nat) : Int)).toNat = 1 := rfl
  rw [BitVec.toNat_and, BitVec.toNat_ofInt, BitVec.toNat_ofInt, e1, e2, Nat.and_one_is_mod, uw]
  omega
theorem pow_lt16 {s : Nat} (h : s < 16) : (0 : Int) < 2 ^ s ∧ (2 : Int) ^ s ≤ 32768 := by
  have : s = 0 ∨ s = 1 ∨ s = 2 ∨ s = 3 ∨ s = 4 ∨ s = 5 ∨ s = 6 ∨ s = 7 ∨ s = 8 ∨ s = 9 ∨ s = 10 ∨ s = 11 ∨ s = 12 ∨ s = 13 ∨ s = 14 ∨ s = 15 := by omega
  rcases this with rfl | rfl | rfl | rfl | rfl | rfl | rfl | rfl | rfl | rfl | rfl | rfl | rfl | rfl | rfl | rfl <;> decide
/-- The bit that is looked at. -/
theorem bit_at {x : List Int} (h : drng x) (m : Nat) : bitsI .and .u64 ((x.getD (m / 16) 0).fdiv (2 ^ (m % 16))) 1 = dval x / 2 ^ m % 2 := by
  have hp := pow_lt16 (Nat.mod_lt m (show 0 < 16 by decide))
  have hd := drng_get h (m / 16)
  rw [Int.fdiv_eq_ediv_of_nonneg _ (Int.le_of_lt hp.1)]
  have h0 := Int.ediv_nonneg hd.1 (Int.le_of_lt hp.1)
  have h1 := Int.ediv_le_self (2 ^ (m % 16)) hd.1
  rw [and_one ⟨h0, by omega⟩, dval_bit h]
/-- A bit is set. -/
theorem bit_set {R : List Int} (h : drng R) {m : Nat} {c : Int} (hv : dval R = c * 2 ^ (m + 1)) : bitsI .or .u64 (R.getD (m / 16) 0) (2 ^ (m % 16)) = R.getD (m / 16) 0 + 2 ^ (m % 16) ∧ R.getD (m / 16) 0 + 2 ^ (m % 16) < 65536 := by
  obtain ⟨a, ha, ha0⟩ := digit_low h hv
  have hd := drng_get h (m / 16)
  have hs : m % 16 < 16 := Nat.mod_lt m (by decide)
  have hp := pow_lt16 hs
  obtain ⟨s, hs'⟩ : ∃ s, m % 16 = s := ⟨_, rfl⟩
  obtain ⟨d, hd'⟩ : ∃ d, R.getD (m / 16) 0 = d := ⟨_, rfl⟩
  rw [hs', hd'] at ha
  rw [hd'] at hd
  rw [hs'] at hs hp
  rw [hs', hd']
  have hlt : d + 2 ^ s < 65536 := by
    have : s = 0 ∨ s = 1 ∨ s = 2 ∨ s = 3 ∨ s = 4 ∨ s = 5 ∨ s = 6 ∨ s = 7 ∨ s = 8 ∨ s = 9 ∨ s = 10 ∨ s = 11 ∨ s = 12 ∨ s = 13 ∨ s = 14 ∨ s = 15 := by omega
    clear hs' hd' hv
    rcases this with rfl | rfl | rfl | rfl | rfl | rfl | rfl | rfl | rfl | rfl | rfl | rfl | rfl | rfl | rfl | rfl <;> simp only [Nat.reduceAdd, Int.reducePow] at ha ⊢ <;> omega
  refine ⟨?_, hlt⟩
  have hps : (2 : Int) ^ (s + 1) = 2 ^ s * 2 := Int.pow_succ ..
  have := or_int (x := d) (y := 2 ^ s) (s := s + 1) a ha ⟨hd.1, by omega⟩ ha0 ⟨Int.le_of_lt hp.1, by omega⟩ (by omega) (by omega)
  show IntKind.u64.wrap (((BitVec.ofInt 64 d ||| BitVec.ofInt 64 (2 ^ s)).toNat : Nat) : Int) = _
  rw [this, wz ⟨by omega, by omega⟩]
theorem canon_len100 {n : Int} {y : List Int} (hy : drng y) (hl : y.length ≤ 100) (h : 0 ≤ n ∧ n ≤ 4 * dval y) : (canonN n).2.1.length ≤ 101 := by
  refine digs_len 101 n.natAbs ?_
  have h1 := dval_lt_pow hy hl
  have e : (65536 : Nat) ^ 101 = 65536 ^ 100 * 65536 := Nat.pow_succ ..
  have e2 : ((65536 ^ 100 : Nat) : Int) = (65536 : Int) ^ 100 := by simp
  obtain ⟨Z, hZ⟩ : ∃ Z, (65536 : Nat) ^ 100 = Z := ⟨_, rfl⟩
  rw [hZ] at e e2
  rw [e]
  rw [← e2] at h1
  omega

def S63 : List AV → Option FOut := sigSpec [NumK, NumK] [NumK, NumK] (fun x : Num × Num × Unit => (canonN (dval x.1.2.1 / dval x.2.1.2.1), canonN (dval x.1.2.1 % dval x.2.1.2.1), ())) (fun x : Num × Num × Unit => okN x.1 ∧ okN x.2.1 ∧ valN x.2.1 ≠ 0 ∧ x.1.2.1.length ≤ 100 ∧ x.2.1.2.1.length ≤ 100)
set_option maxHeartbeats 8000000 in
theorem fn63 : FnOk Try.prog 63 S63 := by
  refine fn_ofB (rs := [.cell 4 53, .cell 5 53]) (env [(47, S47), (40, S40), (59, S59), (48, S48), (56, S56)] ⟨fn47, fn40, fn59, fn48, fn56, trivial⟩) Try.func63 (by kernel_rfl) rfl rfl Try.ntmps63 ?_
  rintro ⟨⟨(s : Int), (x : List Int), u⟩, ⟨(s2 : Int), (y : List Int), u2⟩, u3⟩ ⟨hx, hy, hy0, hxl, hyl⟩ G hG hB hQ
  have hB := GB.of hB
  simp only at hx hy hxl hyl
  obtain ⟨f1, f2, f3, f4⟩ := okN_facts hx
  obtain ⟨g1, g2, g3, g4⟩ := okN_facts hy
  simp only at f1 f3 f4 g1 g3 g4 hy0
  obtain ⟨A, hA⟩ : ∃ A, dval x = A := ⟨_, rfl⟩
  obtain ⟨D, hD⟩ : ∃ D, dval y = D := ⟨_, rfl⟩
  have hA0 : 0 ≤ A := by rw [← hA]; exact dval_nonneg f1
  have hD0 : 0 < D := by rw [← hD, g3]; omega
  have hyc : ((1 : Int), y, PUnit.unit) = canonN D := by
    have e1 : y = digs (valN (s2, y, u2)).natAbs := congrArg (fun z : Num => z.2.1) hy
    have e2 : D.natAbs = (valN (s2, y, u2)).natAbs := by rw [← hD, g3]; omega
    unfold canonN
    rw [e2, ← e1, sgnI, if_neg (by omega), if_neg (by omega)]
  refine AM.run2 hG 100 (by cbv) ?_ ?_
  · (simp only [sxs, sxb, and_self, and_true, true_and, implies_true, imp_self, bne_eq_false_iff_eq, Nat.zero_add, Nat.le_refl, Int.toNat_natCast, Int.ofNat_lt, Int.natCast_nonneg, decide_eq_true_eq, decide_eq_false_iff_not, bne_iff_ne, ne_eq]; try dsimp only [Kd.T, Kds.T, AK.T, AKs.T])
    omega
  refine AM.loopI (fun z : Nat × List Int => (frame 73 [(2, .ptr 0 0), (3, .ptr 1 0), (4, .ptr 2 0), (5, .ptr 3 0), (6, .ptr 5 0), (7, .ptr 6 0), (8, .ptr 7 0), (9, .int .i64 (.t fun _ => (z.1 : Int) - 1))], [.box 53 [.int .i64 (.t fun _ => s), .ro U64 fun _ => x], .box 53 [.int .i64 (.t fun _ => s2), .ro U64 fun _ => y], .box 53 [.int .i64 (.l 0), .nils], .box 53 [.int .i64 (.l 0), .nils], .row 55 U64 (fun _ => z.2), .box 53 [.int .i64 (.l 1), .sl 4 1 (.l 0) (.t fun _ => x.length)], .box 53 [.int .i64 (.t fun _ => (canonN (A / 2 ^ z.1 % D)).1), .ro U64 fun _ => (canonN (A / 2 ^ z.1 % D)).2.1], .box 53 [.int .i64 (.l 1), .ro U64 fun _ => y]]))
    (fun z => z.1 ≤ 16 * x.length ∧ z.2.length = x.length ∧ drng z.2 ∧ dval z.2 = A / 2 ^ z.1 / D * 2 ^ z.1) (fun z => z.1) (16 * x.length, List.replicate x.length 0) ⟨by omega, by simp, ?_, ?_⟩ ?_ ?_ ?_
  · intro d hd
    rw [List.eq_of_mem_replicate hd]
    decide
  · have e0 : A / 2 ^ (16 * x.length) = 0 := by
      refine Int.ediv_eq_zero_of_lt hA0 ?_
      have := dval_lt_pow f1 (Nat.le_refl x.length)
      rw [hA] at this
      rw [Int.pow_mul]
      exact this
    simp only
    rw [e0, Int.zero_ediv, Int.zero_mul]
    exact dval_zeros _ fun j => by
      rw [List.getD_eq_getElem?_getD, List.getElem?_replicate]
      split <;> rfl
  · cbv; (simp only [sxs, sxb, and_self, and_true, true_and, implies_true, imp_self, bne_eq_false_iff_eq, Nat.zero_add, Nat.le_refl, Int.toNat_natCast, Int.ofNat_lt, Int.natCast_nonneg, decide_eq_true_eq, decide_eq_false_iff_not, bne_iff_ne, ne_eq]; try dsimp only [Kd.T, Kds.T, AK.T, AKs.T])
    rw [w64 (n := 16 * (x.length : Int)) (by omega) (by omega), w64 (by omega) (by omega)]
    omega
  · cbv; (simp only [sxs, sxb, and_self, and_true, true_and, implies_true, imp_self, bne_eq_false_iff_eq, Nat.zero_add, Nat.le_refl, Int.toNat_natCast, Int.ofNat_lt, Int.natCast_nonneg, decide_eq_true_eq, decide_eq_false_iff_not, bne_iff_ne, ne_eq]; try dsimp only [Kd.T, Kds.T, AK.T, AKs.T])
    have e0 : A / 2 ^ (16 * x.length) = 0 := by
      refine Int.ediv_eq_zero_of_lt hA0 ?_
      have := dval_lt_pow f1 (Nat.le_refl x.length)
      rw [hA] at this
      rw [Int.pow_mul]
      exact this
    rw [e0, Int.zero_emod]
    exact ⟨rfl, digs_zero⟩
  rintro ⟨k, R⟩ ⟨k1, k2, k3, k4⟩ ih
  simp only at k1 k2 k3 k4 ih
  refine AM.run2 hG 100 (by cbv) ?_ ?_
  · (simp only [sxs, sxb, and_self, and_true, true_and, implies_true, imp_self, bne_eq_false_iff_eq, Nat.zero_add, Nat.le_refl, Int.toNat_natCast, Int.ofNat_lt, Int.natCast_nonneg, decide_eq_true_eq, decide_eq_false_iff_not, bne_iff_ne, ne_eq]; try dsimp only [Kd.T, Kds.T, AK.T, AKs.T])
  refine AM.case 25 rfl (fun h => ?_) (fun h => ?_) <;> (simp only [sxs, sxb, and_self, and_true, true_and, implies_true, imp_self, bne_eq_false_iff_eq, Nat.zero_add, Nat.le_refl, Int.toNat_natCast, Int.ofNat_lt, Int.natCast_nonneg, decide_eq_true_eq, decide_eq_false_iff_not, bne_iff_ne, ne_eq] at h; try dsimp only [Kd.T, Kds.T, AK.T, AKs.T] at h)
  · obtain ⟨m, rfl⟩ : ∃ m, k = m + 1 := ⟨k - 1, by omega⟩
    obtain ⟨t, q, r, ht, hT, hq, hr, hstep⟩ := bit_step hA0 hD0 m
    rw [← ht, ← hq] at k4
    obtain ⟨b, hb⟩ : ∃ b, A / 2 ^ m % 2 = b := ⟨_, rfl⟩
    rw [hb] at hT hstep
    have hb01 : b = 0 ∨ b = 1 := by omega
    have hr0 : 0 ≤ r := by rw [hr]; exact Int.emod_nonneg _ (Int.ne_of_gt hD0)
    have hrD : r < D := by rw [hr]; exact Int.emod_lt_of_pos _ hD0
    have hbit := bit_at f1 m
    rw [hA, hb] at hbit
    have hrl : (canonN r).2.1.length ≤ 1000 := Nat.le_trans (canon_len100 (n := r) g1 hyl ⟨hr0, by omega⟩) (by decide)
    have e16 : (m / 16 : Nat) < x.length := by omega
    refine AM.imp2 (fr' := frame 73 [(2, .ptr 0 0), (3, .ptr 1 0), (4, .ptr 2 0), (5, .ptr 3 0), (6, .ptr 5 0), (7, .ptr 6 0), (8, .ptr 7 0), (9, .int .i64 (.t fun _ => (m : Int))), (25, .bool (.l true))])
      (h' := [.box 53 [.int .i64 (.t fun _ => s), .ro U64 fun _ => x], .box 53 [.int .i64 (.t fun _ => s2), .ro U64 fun _ => y], .box 53 [.int .i64 (.l 0), .nils], .box 53 [.int .i64 (.l 0), .nils], .row 55 U64 (fun _ => R), .box 53 [.int .i64 (.l 1), .sl 4 1 (.l 0) (.t fun _ => x.length)], .box 53 [.int .i64 (.t fun _ => (canonN r).1), .ro U64 fun _ => (canonN r).2.1], .box 53 [.int .i64 (.l 1), .ro U64 fun _ => y]]) (by cbv) (by cbv) ?_ ?_ ?_
    · (simp only [sxs, sxb, and_self, and_true, true_and, implies_true, imp_self, bne_eq_false_iff_eq, Nat.zero_add, Nat.le_refl, Int.toNat_natCast, Int.ofNat_lt, Int.natCast_nonneg, decide_eq_true_eq, decide_eq_false_iff_not, bne_iff_ne, ne_eq]; try dsimp only [Kd.T, Kds.T, AK.T, AKs.T])
      omega
    · (simp only [sxs, sxb, and_self, and_true, true_and, implies_true, imp_self, bne_eq_false_iff_eq, Nat.zero_add, Nat.le_refl, Int.toNat_natCast, Int.ofNat_lt, Int.natCast_nonneg, decide_eq_true_eq, decide_eq_false_iff_not, bne_iff_ne, ne_eq]; try dsimp only [Kd.T, Kds.T, AK.T, AKs.T])
      rw [← ht, ← hr]
      exact ⟨rfl, rfl⟩
    have w1 : IntKind.i64.wrap ((m / 16 : Nat) : Int) = ((m / 16 : Nat) : Int) := w64 (by omega) (by omega)
    have w2 : min (IntKind.u64.wrap ((m % 16 : Nat) : Int)).toNat IntKind.u64.bits = m % 16 := ws (by omega)
    have v1 : valN ((canonN r).1, (canonN r).2.1, PUnit.unit) = r := valN_canon r
    have hbw : bitsI .and .u64 ((x.getD (IntKind.i64.wrap ((m : Int).tdiv 16)).toNat 0).fdiv (2 ^ min (IntKind.u64.wrap ((m : Int).tmod 16)).toNat IntKind.u64.bits)) 1 = b := by
      rw [td16, tm16, w1, w2, Int.toNat_natCast, hbit]
    refine AM.run2 hG 200 (by cbv) ?_ ?_
    · (simp only [sxs, sxb, and_self, and_true, true_and, implies_true, imp_self, bne_eq_false_iff_eq, Nat.zero_add, Nat.le_refl, Int.toNat_natCast, Int.ofNat_lt, Int.natCast_nonneg, decide_eq_true_eq, decide_eq_false_iff_not, bne_iff_ne, ne_eq]; try dsimp only [Kd.T, Kds.T, AK.T, AKs.T])
      rw [td16, tm16, w1, Int.toNat_natCast]
      have e3 : IntKind.u64.wrap ((m % 16 : Nat) : Int) = ((m % 16 : Nat) : Int) := wz ⟨by omega, by omega⟩
      rw [e3]
      refine ⟨by omega, by decide, e16, ⟨by omega, by omega⟩, by decide, okN_canon r, okN_canon r, hrl⟩
    refine' AM.meet (fun e : Unit => (frame 73 [(2, .ptr 0 0), (3, .ptr 1 0), (4, .ptr 2 0), (5, .ptr 3 0), (6, .ptr 5 0), (7, .ptr 6 0), (8, .ptr 7 0), (9, .int .i64 (.t fun _ => (m : Int)))],
      [.box 53 [.int .i64 (.t fun _ => s), .ro U64 fun _ => x], .box 53 [.int .i64 (.t fun _ => s2), .ro U64 fun _ => y], .box 53 [.int .i64 (.l 0), .nils], .box 53 [.int .i64 (.l 0), .nils], .row 55 U64 (fun _ => R), .box 53 [.int .i64 (.l 1), .sl 4 1 (.l 0) (.t fun _ => x.length)], .box 53 [.int .i64 (.t fun _ => (canonN (2 * r + b)).1), .ro U64 fun _ => (canonN (2 * r + b)).2.1], .box 53 [.int .i64 (.l 1), .ro U64 fun _ => y]])) (fun _ => True) ?_ ?_
    rotate_left 1
    · intro after
      have e2r : r + r = 2 * r := by omega
      rcases hb01 with hb1 | hb1
      · refine AM.sure 42 false rfl ?_ ?_
        · (simp only [sxs, sxb, and_self, and_true, true_and, implies_true, imp_self, bne_eq_false_iff_eq, Nat.zero_add, Nat.le_refl, Int.toNat_natCast, Int.ofNat_lt, Int.natCast_nonneg, decide_eq_true_eq, decide_eq_false_iff_not, bne_iff_ne, ne_eq]; try dsimp only [Kd.T, Kds.T, AK.T, AKs.T])
          rw [hbw, hb1]
          decide
        refine AM.runTo2 hG 46 100 (by cbv) (by (simp only [sxs, sxb, and_self, and_true, true_and, implies_true, imp_self, bne_eq_false_iff_eq, Nat.zero_add, Nat.le_refl, Int.toNat_natCast, Int.ofNat_lt, Int.natCast_nonneg, decide_eq_true_eq, decide_eq_false_iff_not, bne_iff_ne, ne_eq]; try dsimp only [Kd.T, Kds.T, AK.T, AKs.T])) ?_
        refine AM.imp2 (by cbv) (by cbv) ?_ ?_ (after () trivial)
        · (simp only [sxs, sxb, and_self, and_true, true_and, implies_true, imp_self, bne_eq_false_iff_eq, Nat.zero_add, Nat.le_refl, Int.toNat_natCast, Int.ofNat_lt, Int.natCast_nonneg, decide_eq_true_eq, decide_eq_false_iff_not, bne_iff_ne, ne_eq]; try dsimp only [Kd.T, Kds.T, AK.T, AKs.T])
        · (simp only [sxs, sxb, and_self, and_true, true_and, implies_true, imp_self, bne_eq_false_iff_eq, Nat.zero_add, Nat.le_refl, Int.toNat_natCast, Int.ofNat_lt, Int.natCast_nonneg, decide_eq_true_eq, decide_eq_false_iff_not, bne_iff_ne, ne_eq]; try dsimp only [Kd.T, Kds.T, AK.T, AKs.T])
          rw [v1, e2r, hb1, Int.add_zero]
          exact ⟨rfl, rfl⟩
      · refine AM.sure 42 true rfl ?_ ?_
        · (simp only [sxs, sxb, and_self, and_true, true_and, implies_true, imp_self, bne_eq_false_iff_eq, Nat.zero_add, Nat.le_refl, Int.toNat_natCast, Int.ofNat_lt, Int.natCast_nonneg, decide_eq_true_eq, decide_eq_false_iff_not, bne_iff_ne, ne_eq]; try dsimp only [Kd.T, Kds.T, AK.T, AKs.T])
          rw [hbw, hb1]
        have v2 : valN ((canonN (2 * r)).1, (canonN (2 * r)).2.1, PUnit.unit) = 2 * r := valN_canon _
        have v3 : valN ((canonN 1).1, (canonN 1).2.1, PUnit.unit) = 1 := valN_canon 1
        refine AM.runTo2 hG 46 100 (by cbv) ?_ ?_
        · (simp only [sxs, sxb, and_self, and_true, true_and, implies_true, imp_self, bne_eq_false_iff_eq, Nat.zero_add, Nat.le_refl, Int.toNat_natCast, Int.ofNat_lt, Int.natCast_nonneg, decide_eq_true_eq, decide_eq_false_iff_not, bne_iff_ne, ne_eq]; try dsimp only [Kd.T, Kds.T, AK.T, AKs.T])
          rw [v1, e2r]
          refine ⟨by unfold inI; decide, okN_canon (2 * r), okN_canon 1, Nat.le_trans (canon_len100 (n := 2 * r) g1 hyl ⟨by omega, by omega⟩) (by decide), Nat.le_trans (canon_len (n := 1) ⟨by decide, by decide⟩) (by decide)⟩
        refine AM.imp2 (by cbv) (by cbv) ?_ ?_ (after () trivial)
        · (simp only [sxs, sxb, and_self, and_true, true_and, implies_true, imp_self, bne_eq_false_iff_eq, Nat.zero_add, Nat.le_refl, Int.toNat_natCast, Int.ofNat_lt, Int.natCast_nonneg, decide_eq_true_eq, decide_eq_false_iff_not, bne_iff_ne, ne_eq]; try dsimp only [Kd.T, Kds.T, AK.T, AKs.T])
        · (simp only [sxs, sxb, and_self, and_true, true_and, implies_true, imp_self, bne_eq_false_iff_eq, Nat.zero_add, Nat.le_refl, Int.toNat_natCast, Int.ofNat_lt, Int.natCast_nonneg, decide_eq_true_eq, decide_eq_false_iff_not, bne_iff_ne, ne_eq]; try dsimp only [Kd.T, Kds.T, AK.T, AKs.T])
          rw [v1, e2r, v2, v3, hb1]
          exact ⟨rfl, rfl⟩
    rintro ⟨⟩ _
    obtain ⟨z, hz⟩ : ∃ z, 2 * r + b = z := ⟨_, rfl⟩
    rw [hz] at hstep ⊢
    have hz0 : 0 ≤ z := by omega
    have hz4 : z < 2 * D := by omega
    have hzl := canon_len100 (n := z) g1 hyl ⟨hz0, by omega⟩
    have hzd : dval (canonN z).2.1 = z := by
      show dval (digs z.natAbs) = z
      rw [digs_val]
      omega
    refine AM.run2 hG 200 (by cbv) ?_ ?_
    · (simp only [sxs, sxb, and_self, and_true, true_and, implies_true, imp_self, bne_eq_false_iff_eq, Nat.zero_add, Nat.le_refl, Int.toNat_natCast, Int.ofNat_lt, Int.natCast_nonneg, decide_eq_true_eq, decide_eq_false_iff_not, bne_iff_ne, ne_eq]; try dsimp only [Kd.T, Kds.T, AK.T, AKs.T])
      exact ⟨digs_rng _, g1, by omega, by omega⟩
    refine AM.case 49 rfl (fun h2 => ?_) (fun h2 => ?_) <;> (simp only [sxs, sxb, and_self, and_true, true_and, implies_true, imp_self, bne_eq_false_iff_eq, Nat.zero_add, Nat.le_refl, Int.toNat_natCast, Int.ofNat_lt, Int.natCast_nonneg, decide_eq_true_eq, decide_eq_false_iff_not, bne_iff_ne, ne_eq] at h2; try dsimp only [Kd.T, Kds.T, AK.T, AKs.T] at h2)
    · have h2' : D ≤ z := by
        unfold sizeR at h2
        rw [hzd, hD] at h2
        split at h2
        · omega
        · omega
      rw [if_pos h2'] at hstep
      have vz : valN ((canonN z).1, (canonN z).2.1, PUnit.unit) = z := valN_canon _
      have hym : ((-1 : Int), y, PUnit.unit) = canonN (-D) := by
        rw [← natAbs_neg_digs, ← hyc]
      have vy : valN ((-1 : Int), y, PUnit.unit) = -D := by rw [hym]; exact valN_canon _
      have hp := pow_lt16 (Nat.mod_lt m (show 0 < 16 by decide))
      have hset := bit_set k3 k4
      have hdg := drng_get k3 (m / 16)
      have w3 : IntKind.u64.wrap (1 * 2 ^ (m % 16)) = 2 ^ (m % 16) := by rw [Int.one_mul]; exact wz ⟨by omega, by omega⟩
      refine AM.run2 hG 300 (by cbv) ?_ ?_
      · (simp only [sxs, sxb, and_self, and_true, true_and, implies_true, imp_self, bne_eq_false_iff_eq, Nat.zero_add, Nat.le_refl, Int.toNat_natCast, Int.ofNat_lt, Int.natCast_nonneg, decide_eq_true_eq, decide_eq_false_iff_not, bne_iff_ne, ne_eq]; try dsimp only [Kd.T, Kds.T, AK.T, AKs.T])
        rw [td16, tm16, w1, Int.toNat_natCast]
        have e3 : IntKind.u64.wrap ((m % 16 : Nat) : Int) = ((m % 16 : Nat) : Int) := wz ⟨by omega, by omega⟩
        rw [e3, hym, k2]
        exact ⟨by decide, by decide, ⟨by omega, by omega⟩, e16, by decide, by omega, ⟨by omega, by omega⟩, e16, by decide, okN_canon z, okN_canon (-D), by omega, by omega⟩
      refine AM.imp2 (by cbv) (by cbv) ?_ ?_ (ih (m, R.set (m / 16) (R.getD (m / 16) 0 + 2 ^ (m % 16))) ⟨by simp only; omega, by simp only; rw [List.length_set]; exact k2, drng_set k3 ⟨by omega, hset.2⟩, ?_⟩ (by simp only; omega))
      · (simp only [sxs, sxb, and_self, and_true, true_and, implies_true, imp_self, bne_eq_false_iff_eq, Nat.zero_add, Nat.le_refl, Int.toNat_natCast, Int.ofNat_lt, Int.natCast_nonneg, decide_eq_true_eq, decide_eq_false_iff_not, bne_iff_ne, ne_eq]; try dsimp only [Kd.T, Kds.T, AK.T, AKs.T])
        rw [w64 (by omega) (by omega)]
      · (simp only [sxs, sxb, and_self, and_true, true_and, implies_true, imp_self, bne_eq_false_iff_eq, Nat.zero_add, Nat.le_refl, Int.toNat_natCast, Int.ofNat_lt, Int.natCast_nonneg, decide_eq_true_eq, decide_eq_false_iff_not, bne_iff_ne, ne_eq]; try dsimp only [Kd.T, Kds.T, AK.T, AKs.T])
        rw [td16, tm16, w1, w2, w3, Int.toNat_natCast, hset.1, vz, vy, hstep.2]
        exact ⟨rfl, rfl, rfl⟩
      · simp only
        rw [dval_set _ (by omega), hstep.1, k4, show R.getD (m / 16) 0 + 2 ^ (m % 16) - R.getD (m / 16) 0 = 2 ^ (m % 16) by omega, ← pow_split, Int.pow_succ]
        rw [Int.add_mul, Int.one_mul, Int.mul_comm (2 ^ m) 2, ← Int.mul_assoc, Int.mul_comm q 2]
    · have h2' : ¬ D ≤ z := by
        unfold sizeR at h2
        rw [hzd, hD] at h2
        split at h2
        · omega
        · split at h2 <;> omega
      rw [if_neg h2'] at hstep
      refine AM.run2 hG 300 (by cbv) ?_ ?_
      · (simp only [sxs, sxb, and_self, and_true, true_and, implies_true, imp_self, bne_eq_false_iff_eq, Nat.zero_add, Nat.le_refl, Int.toNat_natCast, Int.ofNat_lt, Int.natCast_nonneg, decide_eq_true_eq, decide_eq_false_iff_not, bne_iff_ne, ne_eq]; try dsimp only [Kd.T, Kds.T, AK.T, AKs.T])
      refine AM.imp2 (by cbv) (by cbv) ?_ ?_ (ih (m, R) ⟨by simp only; omega, k2, k3, ?_⟩ (by simp only; omega))
      · (simp only [sxs, sxb, and_self, and_true, true_and, implies_true, imp_self, bne_eq_false_iff_eq, Nat.zero_add, Nat.le_refl, Int.toNat_natCast, Int.ofNat_lt, Int.natCast_nonneg, decide_eq_true_eq, decide_eq_false_iff_not, bne_iff_ne, ne_eq]; try dsimp only [Kd.T, Kds.T, AK.T, AKs.T])
        rw [w64 (by omega) (by omega)]
      · (simp only [sxs, sxb, and_self, and_true, true_and, implies_true, imp_self, bne_eq_false_iff_eq, Nat.zero_add, Nat.le_refl, Int.toNat_natCast, Int.ofNat_lt, Int.natCast_nonneg, decide_eq_true_eq, decide_eq_false_iff_not, bne_iff_ne, ne_eq]; try dsimp only [Kd.T, Kds.T, AK.T, AKs.T])
        rw [hstep.2]
        exact ⟨rfl, rfl⟩
      · simp only
        rw [hstep.1, k4, Int.pow_succ, Int.mul_comm (2 ^ m) 2, ← Int.mul_assoc, Int.mul_comm q 2]
  · have hk0 : k = 0 := by omega
    subst hk0
    rw [Int.pow_zero, Int.ediv_one, Int.mul_one] at k4
    refine AM.runTo2 hG 70 100 (by cbv) (by (simp only [sxs, sxb, and_self, and_true, true_and, implies_true, imp_self, bne_eq_false_iff_eq, Nat.zero_add, Nat.le_refl, Int.toNat_natCast, Int.ofNat_lt, Int.natCast_nonneg, decide_eq_true_eq, decide_eq_false_iff_not, bne_iff_ne, ne_eq]; try dsimp only [Kd.T, Kds.T, AK.T, AKs.T])) ?_
    refine AM.frz [4] (by cbv) ?_ ?_
    · (simp only [sxs, sxb, and_self, and_true, true_and, implies_true, imp_self, bne_eq_false_iff_eq, Nat.zero_add, Nat.le_refl, Int.toNat_natCast, Int.ofNat_lt, Int.natCast_nonneg, decide_eq_true_eq, decide_eq_false_iff_not, bne_iff_ne, ne_eq]; try dsimp only [Kd.T, Kds.T, AK.T, AKs.T])
      omega
    have eR : R.take x.length = R := List.take_of_length_le (by omega)
    have vR : valN ((1 : Int), R, PUnit.unit) = A / D := by
      unfold valN
      simp only
      rw [k4, Int.one_mul]
    refine AM.run2 hG 100 (by cbv) ?_ ?_
    · (simp only [sxs, sxb, and_self, and_true, true_and, implies_true, imp_self, bne_eq_false_iff_eq, Nat.zero_add, Nat.le_refl, Int.toNat_natCast, Int.ofNat_lt, Int.natCast_nonneg, decide_eq_true_eq, decide_eq_false_iff_not, bne_iff_ne, ne_eq]; try dsimp only [Kd.T, Kds.T, AK.T, AKs.T])
      rw [eR]
      exact ⟨.inr (.inr trivial), k3, by omega⟩
    refine AM.ret2 hG (by cbv) (by (simp only [sxs, sxb, and_self, and_true, true_and, implies_true, imp_self, bne_eq_false_iff_eq, Nat.zero_add, Nat.le_refl, Int.toNat_natCast, Int.ofNat_lt, Int.natCast_nonneg, decide_eq_true_eq, decide_eq_false_iff_not, bne_iff_ne, ne_eq]; try dsimp only [Kd.T, Kds.T, AK.T, AKs.T])) (hQ _ _ (FinRo.of (by cbv) (by cbv) ?_ ?_))
    · (simp only [sxs, sxb, and_self, and_true, true_and, implies_true, imp_self, bne_eq_false_iff_eq, Nat.zero_add, Nat.le_refl, Int.toNat_natCast, Int.ofNat_lt, Int.natCast_nonneg, decide_eq_true_eq, decide_eq_false_iff_not, bne_iff_ne, ne_eq]; try dsimp only [Kd.T, Kds.T, AK.T, AKs.T])
    try (simp only [sxs, sxb, and_self, and_true, true_and, implies_true, imp_self, bne_eq_false_iff_eq, Nat.zero_add, Nat.le_refl, Int.toNat_natCast, Int.ofNat_lt, Int.natCast_nonneg, decide_eq_true_eq, decide_eq_false_iff_not, bne_iff_ne, ne_eq]; try dsimp only [Kd.T, Kds.T, AK.T, AKs.T])
    rw [eR, vR, hA, hD, Int.pow_zero, Int.ediv_one]
    exact ⟨⟨rfl, rfl⟩, rfl, rfl⟩
def upR (below : Bool) (q r m how : Int) : Bool := if r = 0 then false else if how = 1 then below else if how = 2 then !below else decide (m < 2 * r ∨ 2 * r = m ∧ q % 2 = 1)
def roundD (s A s2 D how : Int) : Int := (if s * s2 < 0 then -1 else 1) * (A / D + bI (upR (decide (s * s2 < 0)) (A / D) (A % D) D how))
theorem sgnI_nat {r : Int} (h : 0 ≤ r) : sgnI r = 0 ↔ r = 0 := by
  unfold sgnI
  split <;> (try split) <;> omega
def S51 : List AV → Option FOut := sigSpec [NumK, NumK, I64] [NumK] (fun x : Num × Num × Int × Unit => (canonN (roundD x.1.1 (dval x.1.2.1) x.2.1.1 (dval x.2.1.2.1) x.2.2.1), ())) (fun x : Num × Num × Int × Unit => okN x.1 ∧ okN x.2.1 ∧ valN x.2.1 ≠ 0 ∧ x.1.2.1.length ≤ 100 ∧ x.2.1.2.1.length ≤ 100 ∧ 1 ≤ x.2.2.1 ∧ x.2.2.1 ≤ 3)
set_option maxHeartbeats 8000000 in
theorem fn51 : FnOk Try.prog 51 S51 := by
  refine fn_ofB (rs := [.cell 6 53]) (env [(63, S63), (47, S47), (40, S40), (59, S59), (48, S48), (55, S55)] ⟨fn63, fn47, fn40, fn59, fn48, fn55, trivial⟩) Try.func51 (by kernel_rfl) rfl rfl Try.ntmps51 ?_
  rintro ⟨⟨(s : Int), (x : List Int), u⟩, ⟨(s2 : Int), (y : List Int), u2⟩, (how : Int), u3⟩ ⟨hx, hy, hy0, hxl, hyl, hw1, hw3⟩ G hG hB hQ
  have hB := GB.of hB
  simp only at hx hy hxl hyl hw1 hw3
  obtain ⟨f1, f2, f3, f4⟩ := okN_facts hx
  obtain ⟨g1, g2, g3, g4⟩ := okN_facts hy
  simp only at f1 f3 f4 g1 g3 g4 hy0
  obtain ⟨A, hA⟩ : ∃ A, dval x = A := ⟨_, rfl⟩
  obtain ⟨D, hD⟩ : ∃ D, dval y = D := ⟨_, rfl⟩
  have hA0 : 0 ≤ A := by rw [← hA]; exact dval_nonneg f1
  have hD0 : 0 < D := by rw [← hD, g3]; omega
  obtain ⟨q, hq⟩ : ∃ q, A / D = q := ⟨_, rfl⟩
  obtain ⟨r, hr⟩ : ∃ r, A % D = r := ⟨_, rfl⟩
  have hr0 : 0 ≤ r := by rw [← hr]; exact Int.emod_nonneg _ (Int.ne_of_gt hD0)
  have hrD : r < D := by rw [← hr]; exact Int.emod_lt_of_pos _ hD0
  have hq0 : 0 ≤ q := by rw [← hq]; exact Int.ediv_nonneg hA0 (Int.le_of_lt hD0)
  have hqA : q ≤ A := by rw [← hq]; exact Int.ediv_le_self _ hA0
  have hss : -1 ≤ s * s2 ∧ s * s2 ≤ 1 := by
    have h1 := sgn_in (valN (s, x, u))
    have h2 := sgn_in (valN (s2, y, u2))
    have e1 : s = (canonN (valN (s, x, u))).1 := f4
    have e2 : s2 = (canonN (valN (s2, y, u2))).1 := g4
    rw [← e1] at h1
    rw [← e2] at h2
    have : s = -1 ∨ s = 0 ∨ s = 1 := by omega
    rcases this with rfl | rfl | rfl <;> omega
  obtain ⟨bl, hbl⟩ : ∃ bl, decide (s * s2 < 0) = bl := ⟨_, rfl⟩
  have hql : (canonN q).2.1.length ≤ 101 := canon_len100 f1 hxl ⟨hq0, by omega⟩
  have hrl : (canonN r).2.1.length ≤ 101 := canon_len100 g1 hyl ⟨hr0, by omega⟩
  have vq : valN ((canonN q).1, (canonN q).2.1, PUnit.unit) = q := valN_canon q
  have vr : valN ((canonN r).1, (canonN r).2.1, PUnit.unit) = r := valN_canon r
  have v1 : valN ((canonN 1).1, (canonN 1).2.1, PUnit.unit) = 1 := valN_canon 1
  have hres : roundD s A s2 D how = (if s * s2 < 0 then -1 else 1) * (q + bI (upR bl q r D how)) := by
    unfold roundD
    rw [hq, hr, hbl]
  refine AM.runTo2 hG 45 200 (by cbv) ?_ ?_
  · (simp only [sxs, sxb, and_self, and_true, true_and, implies_true, imp_self, bne_eq_false_iff_eq, Nat.zero_add, Nat.le_refl, Int.toNat_natCast, Int.ofNat_lt, Int.natCast_nonneg, decide_eq_true_eq, decide_eq_false_iff_not, bne_iff_ne, ne_eq]; try dsimp only [Kd.T, Kds.T, AK.T, AKs.T])
    exact ⟨hx, hy, hy0, by omega, by omega⟩
  refine AM.imp2 (fr' := frame 65 [(2, .int .i64 (.t fun _ => how)), (3, .ptr 0 0), (4, .ptr 1 0), (6, .ptr 2 0), (7, .ptr 3 0), (8, .ptr 4 0), (9, .bool (.t fun _ => bl)), (10, .bool (.l false))])
    (h' := [.box 53 [.int .i64 (.t fun _ => s), .ro U64 fun _ => x], .box 53 [.int .i64 (.t fun _ => s2), .ro U64 fun _ => y], .box 53 [.int .i64 (.l 0), .nils], .box 53 [.int .i64 (.t fun _ => (canonN q).1), .ro U64 fun _ => (canonN q).2.1], .box 53 [.int .i64 (.t fun _ => (canonN r).1), .ro U64 fun _ => (canonN r).2.1]]) (by cbv) (by cbv) ?_ ?_ ?_
  · (simp only [sxs, sxb, and_self, and_true, true_and, implies_true, imp_self, bne_eq_false_iff_eq, Nat.zero_add, Nat.le_refl, Int.toNat_natCast, Int.ofNat_lt, Int.natCast_nonneg, decide_eq_true_eq, decide_eq_false_iff_not, bne_iff_ne, ne_eq]; try dsimp only [Kd.T, Kds.T, AK.T, AKs.T])
    rw [w64 (by omega) (by omega), ← hbl]
    rfl
  · (simp only [sxs, sxb, and_self, and_true, true_and, implies_true, imp_self, bne_eq_false_iff_eq, Nat.zero_add, Nat.le_refl, Int.toNat_natCast, Int.ofNat_lt, Int.natCast_nonneg, decide_eq_true_eq, decide_eq_false_iff_not, bne_iff_ne, ne_eq]; try dsimp only [Kd.T, Kds.T, AK.T, AKs.T])
    rw [hA, hD, hq, hr]
    exact ⟨⟨rfl, rfl⟩, rfl, rfl⟩
  refine' AM.meet (fun up : Bool => (frame 65 [(3, .ptr 0 0), (4, .ptr 1 0), (6, .ptr 2 0), (7, .ptr 3 0), (8, .ptr 4 0), (9, .bool (.t fun _ => bl)), (10, .bool (.t fun _ => up))],
    [.box 53 [.int .i64 (.t fun _ => s), .ro U64 fun _ => x], .box 53 [.int .i64 (.t fun _ => s2), .ro U64 fun _ => y], .box 53 [.int .i64 (.l 0), .nils], .box 53 [.int .i64 (.t fun _ => (canonN q).1), .ro U64 fun _ => (canonN q).2.1], .box 53 [.int .i64 (.t fun _ => (canonN r).1), .ro U64 fun _ => (canonN r).2.1]])) (fun up => up = upR bl q r D how) ?_ ?_
  rotate_left 1
  · intro after
    refine AM.run2 hG 100 (by cbv) ?_ ?_
    · (simp only [sxs, sxb, and_self, and_true, true_and, implies_true, imp_self, bne_eq_false_iff_eq, Nat.zero_add, Nat.le_refl, Int.toNat_natCast, Int.ofNat_lt, Int.natCast_nonneg, decide_eq_true_eq, decide_eq_false_iff_not, bne_iff_ne, ne_eq]; try dsimp only [Kd.T, Kds.T, AK.T, AKs.T])
    have hrz : ((canonN r).1 = 0) ↔ r = 0 := sgnI_nat hr0
    refine AM.case 44 rfl (fun c => ?_) (fun c => ?_) <;> (simp only [sxs, sxb, and_self, and_true, true_and, implies_true, imp_self, bne_eq_false_iff_eq, Nat.zero_add, Nat.le_refl, Int.toNat_natCast, Int.ofNat_lt, Int.natCast_nonneg, decide_eq_true_eq, decide_eq_false_iff_not, bne_iff_ne, ne_eq] at c; try dsimp only [Kd.T, Kds.T, AK.T, AKs.T] at c)
    · rw [hrz] at c
      refine AM.runTo2 hG 57 100 (by cbv) (by (simp only [sxs, sxb, and_self, and_true, true_and, implies_true, imp_self, bne_eq_false_iff_eq, Nat.zero_add, Nat.le_refl, Int.toNat_natCast, Int.ofNat_lt, Int.natCast_nonneg, decide_eq_true_eq, decide_eq_false_iff_not, bne_iff_ne, ne_eq]; try dsimp only [Kd.T, Kds.T, AK.T, AKs.T])) ?_
      refine AM.imp2 (by cbv) (by cbv) ?_ ?_ (after false (by rw [upR, if_pos c])) <;> (simp only [sxs, sxb, and_self, and_true, true_and, implies_true, imp_self, bne_eq_false_iff_eq, Nat.zero_add, Nat.le_refl, Int.toNat_natCast, Int.ofNat_lt, Int.natCast_nonneg, decide_eq_true_eq, decide_eq_false_iff_not, bne_iff_ne, ne_eq]; try dsimp only [Kd.T, Kds.T, AK.T, AKs.T])
    rw [hrz] at c
    refine AM.run2 hG 100 (by cbv) ?_ ?_
    · (simp only [sxs, sxb, and_self, and_true, true_and, implies_true, imp_self, bne_eq_false_iff_eq, Nat.zero_add, Nat.le_refl, Int.toNat_natCast, Int.ofNat_lt, Int.natCast_nonneg, decide_eq_true_eq, decide_eq_false_iff_not, bne_iff_ne, ne_eq]; try dsimp only [Kd.T, Kds.T, AK.T, AKs.T])
    refine AM.case 48 rfl (fun c1 => ?_) (fun c1 => ?_) <;> (simp only [sxs, sxb, and_self, and_true, true_and, implies_true, imp_self, bne_eq_false_iff_eq, Nat.zero_add, Nat.le_refl, Int.toNat_natCast, Int.ofNat_lt, Int.natCast_nonneg, decide_eq_true_eq, decide_eq_false_iff_not, bne_iff_ne, ne_eq] at c1; try dsimp only [Kd.T, Kds.T, AK.T, AKs.T] at c1)
    · refine AM.runTo2 hG 57 100 (by cbv) (by (simp only [sxs, sxb, and_self, and_true, true_and, implies_true, imp_self, bne_eq_false_iff_eq, Nat.zero_add, Nat.le_refl, Int.toNat_natCast, Int.ofNat_lt, Int.natCast_nonneg, decide_eq_true_eq, decide_eq_false_iff_not, bne_iff_ne, ne_eq]; try dsimp only [Kd.T, Kds.T, AK.T, AKs.T])) ?_
      refine AM.imp2 (by cbv) (by cbv) ?_ ?_ (after bl (by rw [upR, if_neg c, if_pos c1])) <;> (simp only [sxs, sxb, and_self, and_true, true_and, implies_true, imp_self, bne_eq_false_iff_eq, Nat.zero_add, Nat.le_refl, Int.toNat_natCast, Int.ofNat_lt, Int.natCast_nonneg, decide_eq_true_eq, decide_eq_false_iff_not, bne_iff_ne, ne_eq]; try dsimp only [Kd.T, Kds.T, AK.T, AKs.T])
    refine AM.run2 hG 100 (by cbv) ?_ ?_
    · (simp only [sxs, sxb, and_self, and_true, true_and, implies_true, imp_self, bne_eq_false_iff_eq, Nat.zero_add, Nat.le_refl, Int.toNat_natCast, Int.ofNat_lt, Int.natCast_nonneg, decide_eq_true_eq, decide_eq_false_iff_not, bne_iff_ne, ne_eq]; try dsimp only [Kd.T, Kds.T, AK.T, AKs.T])
    refine AM.case 52 rfl (fun c2 => ?_) (fun c2 => ?_) <;> (simp only [sxs, sxb, and_self, and_true, true_and, implies_true, imp_self, bne_eq_false_iff_eq, Nat.zero_add, Nat.le_refl, Int.toNat_natCast, Int.ofNat_lt, Int.natCast_nonneg, decide_eq_true_eq, decide_eq_false_iff_not, bne_iff_ne, ne_eq] at c2; try dsimp only [Kd.T, Kds.T, AK.T, AKs.T] at c2)
    · refine AM.runTo2 hG 57 100 (by cbv) (by (simp only [sxs, sxb, and_self, and_true, true_and, implies_true, imp_self, bne_eq_false_iff_eq, Nat.zero_add, Nat.le_refl, Int.toNat_natCast, Int.ofNat_lt, Int.natCast_nonneg, decide_eq_true_eq, decide_eq_false_iff_not, bne_iff_ne, ne_eq]; try dsimp only [Kd.T, Kds.T, AK.T, AKs.T])) ?_
      refine AM.imp2 (by cbv) (by cbv) ?_ ?_ (after (!bl) (by rw [upR, if_neg c, if_neg c1, if_pos c2])) <;> (simp only [sxs, sxb, and_self, and_true, true_and, implies_true, imp_self, bne_eq_false_iff_eq, Nat.zero_add, Nat.le_refl, Int.toNat_natCast, Int.ofNat_lt, Int.natCast_nonneg, decide_eq_true_eq, decide_eq_false_iff_not, bne_iff_ne, ne_eq]; try dsimp only [Kd.T, Kds.T, AK.T, AKs.T])
    have hdr : dval (canonN (2 * r)).2.1 = 2 * r := by
      show dval (digs (2 * r).natAbs) = 2 * r
      rw [digs_val]
      omega
    have e2r : r + r = 2 * r := by omega
    have hl2 := canon_len100 (n := 2 * r) g1 hyl ⟨by omega, by omega⟩
    refine AM.runTo2 hG 57 200 (by cbv) ?_ ?_
    · (simp only [sxs, sxb, and_self, and_true, true_and, implies_true, imp_self, bne_eq_false_iff_eq, Nat.zero_add, Nat.le_refl, Int.toNat_natCast, Int.ofNat_lt, Int.natCast_nonneg, decide_eq_true_eq, decide_eq_false_iff_not, bne_iff_ne, ne_eq]; try dsimp only [Kd.T, Kds.T, AK.T, AKs.T])
      rw [vr, e2r]
      exact ⟨fun a b => ⟨a, b⟩, fun _ => by decide, fun _ => by decide, ⟨digs_rng _, g1, by omega, by omega⟩, okN_canon r, okN_canon r, by omega⟩
    refine AM.ren hB [0, 1, 2, 3, 4] (by cbv) (by cbv) (by cbv) ?_ ?_ (after (upR bl q r D how) rfl)
    · (simp only [sxs, sxb, and_self, and_true, true_and, implies_true, imp_self, bne_eq_false_iff_eq, Nat.zero_add, Nat.le_refl, Int.toNat_natCast, Int.ofNat_lt, Int.natCast_nonneg, decide_eq_true_eq, decide_eq_false_iff_not, bne_iff_ne, ne_eq]; try dsimp only [Kd.T, Kds.T, AK.T, AKs.T])
      have hd0 : (canonN q).2.1.getD (Int.toNat 0) 0 = q % 65536 := by
        have h1 := dval_digit (x := (canonN q).2.1) 0 (digs_rng _)
        have h2 : dval (canonN q).2.1 = q := by
          show dval (digs q.natAbs) = q
          rw [digs_val]
          omega
        rw [h2, Int.pow_zero, Int.ediv_one] at h1
        exact h1.symm
      rw [vr, e2r, hd0, Int.tmod_eq_emod_of_nonneg (by omega), upR, if_neg c, if_neg c1, if_neg c2, sizeR, hdr, hD]
      by_cases e1 : 2 * r < D
      · rw [if_pos e1]
        have e2 : ¬ (D < 2 * r ∨ 2 * r = D ∧ q % 2 = 1) := by omega
        simp [e2]
      · rw [if_neg e1]
        by_cases e2 : D < 2 * r
        · rw [if_pos e2]
          simp [e2]
        · rw [if_neg e2]
          have e3 : 2 * r = D := by omega
          have e4 : q % 65536 % 2 = q % 2 := by omega
          rw [e4]
          by_cases e5 : q % 2 = 1 <;> simp [e2, e3, e5, eqI]
    · (simp only [sxs, sxb, and_self, and_true, true_and, implies_true, imp_self, bne_eq_false_iff_eq, Nat.zero_add, Nat.le_refl, Int.toNat_natCast, Int.ofNat_lt, Int.natCast_nonneg, decide_eq_true_eq, decide_eq_false_iff_not, bne_iff_ne, ne_eq]; try dsimp only [Kd.T, Kds.T, AK.T, AKs.T])
  rintro up rfl
  simp only
  obtain ⟨up, hup⟩ : ∃ up, upR bl q r D how = up := ⟨_, rfl⟩
  rw [hup] at hres ⊢
  obtain ⟨z, hz⟩ : ∃ z, q + bI up = z := ⟨_, rfl⟩
  rw [hz] at hres
  have hz0 : 0 ≤ z := by have := bI_le up; omega
  have hz4 : z ≤ 4 * dval x ∨ A = 0 := by have := bI_le up; omega
  have vz : valN ((canonN z).1, (canonN z).2.1, PUnit.unit) = z := valN_canon z
  refine' AM.meet (fun _ : Unit => (frame 65 [(6, .ptr 2 0), (7, .ptr 3 0), (9, .bool (.t fun _ => bl))],
    [.box 53 [.int .i64 (.t fun _ => s), .ro U64 fun _ => x], .box 53 [.int .i64 (.t fun _ => s2), .ro U64 fun _ => y], .box 53 [.int .i64 (.l 0), .nils], .box 53 [.int .i64 (.t fun _ => (canonN z).1), .ro U64 fun _ => (canonN z).2.1], .box 53 [.int .i64 (.t fun _ => (canonN r).1), .ro U64 fun _ => (canonN r).2.1]])) (fun _ => True) ?_ ?_
  rotate_left 1
  · intro after
    refine AM.run2 hG 100 (by cbv) ?_ ?_
    · (simp only [sxs, sxb, and_self, and_true, true_and, implies_true, imp_self, bne_eq_false_iff_eq, Nat.zero_add, Nat.le_refl, Int.toNat_natCast, Int.ofNat_lt, Int.natCast_nonneg, decide_eq_true_eq, decide_eq_false_iff_not, bne_iff_ne, ne_eq]; try dsimp only [Kd.T, Kds.T, AK.T, AKs.T])
    refine AM.case 57 rfl (fun (c : up = true) => ?_) (fun (c : up = false) => ?_)
    · rw [c] at hz
      have hz1 : q + 1 = z := hz
      refine AM.runTo2 hG 61 100 (by cbv) ?_ ?_
      · (simp only [sxs, sxb, and_self, and_true, true_and, implies_true, imp_self, bne_eq_false_iff_eq, Nat.zero_add, Nat.le_refl, Int.toNat_natCast, Int.ofNat_lt, Int.natCast_nonneg, decide_eq_true_eq, decide_eq_false_iff_not, bne_iff_ne, ne_eq]; try dsimp only [Kd.T, Kds.T, AK.T, AKs.T])
        exact ⟨by unfold inI; decide, okN_canon q, okN_canon 1, by omega, Nat.le_trans (canon_len (n := 1) ⟨by decide, by decide⟩) (by decide)⟩
      refine AM.imp2 (by cbv) (by cbv) ?_ ?_ (after () trivial)
      · (simp only [sxs, sxb, and_self, and_true, true_and, implies_true, imp_self, bne_eq_false_iff_eq, Nat.zero_add, Nat.le_refl, Int.toNat_natCast, Int.ofNat_lt, Int.natCast_nonneg, decide_eq_true_eq, decide_eq_false_iff_not, bne_iff_ne, ne_eq]; try dsimp only [Kd.T, Kds.T, AK.T, AKs.T])
      · (simp only [sxs, sxb, and_self, and_true, true_and, implies_true, imp_self, bne_eq_false_iff_eq, Nat.zero_add, Nat.le_refl, Int.toNat_natCast, Int.ofNat_lt, Int.natCast_nonneg, decide_eq_true_eq, decide_eq_false_iff_not, bne_iff_ne, ne_eq]; try dsimp only [Kd.T, Kds.T, AK.T, AKs.T])
        rw [vq, v1, hz1]
        exact ⟨rfl, rfl⟩
    · rw [c] at hz
      have hz1 : q = z := by rw [← hz]; simp [bI]
      refine AM.runTo2 hG 61 100 (by cbv) (by (simp only [sxs, sxb, and_self, and_true, true_and, implies_true, imp_self, bne_eq_false_iff_eq, Nat.zero_add, Nat.le_refl, Int.toNat_natCast, Int.ofNat_lt, Int.natCast_nonneg, decide_eq_true_eq, decide_eq_false_iff_not, bne_iff_ne, ne_eq]; try dsimp only [Kd.T, Kds.T, AK.T, AKs.T])) ?_
      refine AM.imp2 (by cbv) (by cbv) ?_ ?_ (after () trivial)
      · (simp only [sxs, sxb, and_self, and_true, true_and, implies_true, imp_self, bne_eq_false_iff_eq, Nat.zero_add, Nat.le_refl, Int.toNat_natCast, Int.ofNat_lt, Int.natCast_nonneg, decide_eq_true_eq, decide_eq_false_iff_not, bne_iff_ne, ne_eq]; try dsimp only [Kd.T, Kds.T, AK.T, AKs.T])
      · (simp only [sxs, sxb, and_self, and_true, true_and, implies_true, imp_self, bne_eq_false_iff_eq, Nat.zero_add, Nat.le_refl, Int.toNat_natCast, Int.ofNat_lt, Int.natCast_nonneg, decide_eq_true_eq, decide_eq_false_iff_not, bne_iff_ne, ne_eq]; try dsimp only [Kd.T, Kds.T, AK.T, AKs.T])
        rw [hz1]
        exact ⟨rfl, rfl⟩
  rintro ⟨⟩ _
  refine AM.run2 hG 100 (by cbv) ?_ ?_
  · (simp only [sxs, sxb, and_self, and_true, true_and, implies_true, imp_self, bne_eq_false_iff_eq, Nat.zero_add, Nat.le_refl, Int.toNat_natCast, Int.ofNat_lt, Int.natCast_nonneg, decide_eq_true_eq, decide_eq_false_iff_not, bne_iff_ne, ne_eq]; try dsimp only [Kd.T, Kds.T, AK.T, AKs.T])
  refine AM.case 61 rfl (fun (c : bl = true) => ?_) (fun (c : bl = false) => ?_)
  · have hneg : s * s2 < 0 := by rw [← hbl] at c; simpa using c
    rw [if_pos hneg] at hres
    refine AM.run2 hG 100 (by cbv) ?_ ?_
    · (simp only [sxs, sxb, and_self, and_true, true_and, implies_true, imp_self, bne_eq_false_iff_eq, Nat.zero_add, Nat.le_refl, Int.toNat_natCast, Int.ofNat_lt, Int.natCast_nonneg, decide_eq_true_eq, decide_eq_false_iff_not, bne_iff_ne, ne_eq]; try dsimp only [Kd.T, Kds.T, AK.T, AKs.T])
      exact sgn_in z
    refine AM.ret2 hG (by cbv) (by (simp only [sxs, sxb, and_self, and_true, true_and, implies_true, imp_self, bne_eq_false_iff_eq, Nat.zero_add, Nat.le_refl, Int.toNat_natCast, Int.ofNat_lt, Int.natCast_nonneg, decide_eq_true_eq, decide_eq_false_iff_not, bne_iff_ne, ne_eq]; try dsimp only [Kd.T, Kds.T, AK.T, AKs.T])) (hQ _ _ (FinRo.of (by cbv) (by cbv) ?_ ?_))
    · (simp only [sxs, sxb, and_self, and_true, true_and, implies_true, imp_self, bne_eq_false_iff_eq, Nat.zero_add, Nat.le_refl, Int.toNat_natCast, Int.ofNat_lt, Int.natCast_nonneg, decide_eq_true_eq, decide_eq_false_iff_not, bne_iff_ne, ne_eq]; try dsimp only [Kd.T, Kds.T, AK.T, AKs.T])
    try (simp only [sxs, sxb, and_self, and_true, true_and, implies_true, imp_self, bne_eq_false_iff_eq, Nat.zero_add, Nat.le_refl, Int.toNat_natCast, Int.ofNat_lt, Int.natCast_nonneg, decide_eq_true_eq, decide_eq_false_iff_not, bne_iff_ne, ne_eq]; try dsimp only [Kd.T, Kds.T, AK.T, AKs.T])
    rw [hA, hD, hres]
    have e1 : (-(canonN z).1, (canonN z).2.1, ()) = canonN (-z) := natAbs_neg_digs z
    have e2 : -1 * z = -z := by omega
    rw [e2, ← e1]
    exact ⟨rfl, rfl⟩
  · have hneg : ¬ s * s2 < 0 := by rw [← hbl] at c; simpa using c
    rw [if_neg hneg, Int.one_mul] at hres
    refine AM.run2 hG 100 (by cbv) ?_ ?_
    · (simp only [sxs, sxb, and_self, and_true, true_and, implies_true, imp_self, bne_eq_false_iff_eq, Nat.zero_add, Nat.le_refl, Int.toNat_natCast, Int.ofNat_lt, Int.natCast_nonneg, decide_eq_true_eq, decide_eq_false_iff_not, bne_iff_ne, ne_eq]; try dsimp only [Kd.T, Kds.T, AK.T, AKs.T])
    refine AM.ret2 hG (by cbv) (by (simp only [sxs, sxb, and_self, and_true, true_and, implies_true, imp_self, bne_eq_false_iff_eq, Nat.zero_add, Nat.le_refl, Int.toNat_natCast, Int.ofNat_lt, Int.natCast_nonneg, decide_eq_true_eq, decide_eq_false_iff_not, bne_iff_ne, ne_eq]; try dsimp only [Kd.T, Kds.T, AK.T, AKs.T])) (hQ _ _ (FinRo.of (by cbv) (by cbv) ?_ ?_))
    · (simp only [sxs, sxb, and_self, and_true, true_and, implies_true, imp_self, bne_eq_false_iff_eq, Nat.zero_add, Nat.le_refl, Int.toNat_natCast, Int.ofNat_lt, Int.natCast_nonneg, decide_eq_true_eq, decide_eq_false_iff_not, bne_iff_ne, ne_eq]; try dsimp only [Kd.T, Kds.T, AK.T, AKs.T])
    try (simp only [sxs, sxb, and_self, and_true, true_and, implies_true, imp_self, bne_eq_false_iff_eq, Nat.zero_add, Nat.le_refl, Int.toNat_natCast, Int.ofNat_lt, Int.natCast_nonneg, decide_eq_true_eq, decide_eq_false_iff_not, bne_iff_ne, ne_eq]; try dsimp only [Kd.T, Kds.T, AK.T, AKs.T])
    rw [hA, hD, hres]
    exact ⟨rfl, rfl⟩
theorem upB_upR {neg : Bool} {q r m how : Int} (hr : 0 ≤ r) (hm : 0 < m) (hw : 1 ≤ how ∧ how ≤ 3) : upB neg q r m how = upR neg q r m how := by
  unfold upB upR
  have h : how = 1 ∨ how = 2 ∨ how = 3 := by omega
  by_cases e : r = 0
  · subst e
    have e1 : ¬ (m < 0 ∨ 0 = m ∧ q % 2 = 1) := by omega
    rcases h with rfl | rfl | rfl <;> simp [e1]
  · have e1 : 0 < r := by omega
    rcases h with rfl | rfl | rfl <;> simp [e, e1]
theorem mag_nat (n : Int) : magI n = (n.natAbs : Int) := by
  unfold magI
  split <;> omega
/-- The reference's way of rounding gives the program's. -/
theorem round_scale {a b d how : Int} (hd0 : d ≠ 0) (hw : 1 ≤ how ∧ how ≤ 3) : roundD (sgnI (a * b)) ((a * b).natAbs : Int) (sgnI d) (d.natAbs : Int) how = scaleV a b d how := by
  have hm : magI a * magI b = ((a * b).natAbs : Int) := by rw [mag_nat, mag_nat, Int.natAbs_mul, Int.natCast_mul]
  have hD : 0 < (d.natAbs : Int) := by omega
  unfold roundD scaleV overV
  rw [hm, mag_nat d]
  have hr0 := Int.emod_nonneg ((a * b).natAbs : Int) (Int.ne_of_gt hD)
  by_cases hX : a * b = 0
  · have e0 : ((a * b).natAbs : Int) = 0 := by rw [hX]; rfl
    rw [e0, Int.zero_ediv, Int.zero_emod, upB_upR (Int.le_refl 0) hD hw]
    simp [upR, bI]
  · have hs : decide (sgnI (a * b) * sgnI d < 0) = ((!eqBo (decide (a < 0)) (decide (b < 0))) != decide (d < 0)) := by
      have ha : a ≠ 0 := by rintro rfl; simp at hX
      have hb : b ≠ 0 := by rintro rfl; simp at hX
      have hab : (a * b < 0) ↔ ¬ (a < 0 ↔ b < 0) := by
        rcases Int.lt_or_gt_of_ne ha with h1 | h1 <;> rcases Int.lt_or_gt_of_ne hb with h2 | h2
        · have := Int.mul_pos_of_neg_of_neg h1 h2; constructor <;> omega
        · have := Int.mul_neg_of_neg_of_pos h1 h2; constructor <;> omega
        · have := Int.mul_neg_of_pos_of_neg h1 h2; constructor <;> omega
        · have := Int.mul_pos h1 h2; constructor <;> omega
      have sX : sgnI (a * b) = if (a < 0 ↔ b < 0) then 1 else -1 := by
        unfold sgnI
        by_cases h1 : a * b < 0
        · rw [if_pos h1, if_neg (hab.1 h1)]
        · have h2 : a < 0 ↔ b < 0 := by
            by_cases h : (a < 0 ↔ b < 0)
            · exact h
            · exact absurd (hab.2 h) h1
          rw [if_neg h1, if_neg hX, if_pos h2]
      have sD : sgnI d = if d < 0 then -1 else 1 := by
        unfold sgnI
        split
        · rfl
        · simp [hd0]
      rw [sX, sD]
      unfold eqBo
      clear sX sD hab hm hr0 hX hw hD
      by_cases h2 : a < 0 <;> by_cases h3 : b < 0 <;> by_cases h4 : d < 0 <;> simp [h2, h3, h4]
    have hs2 : (sgnI (a * b) * sgnI d < 0) ↔ ((!eqBo (decide (a < 0)) (decide (b < 0))) != decide (d < 0)) = true := by rw [← hs]; simp
    rw [hs, upB_upR hr0 hD hw]
    by_cases h : sgnI (a * b) * sgnI d < 0
    · rw [if_pos h, if_pos (hs2.1 h)]
    · rw [if_neg h, if_neg (fun h' => h (hs2.2 h'))]
theorem round_le {s A s2 D how : Int} (hA : 0 ≤ A) (hD : 0 < D) : -(A + 1) ≤ roundD s A s2 D how ∧ roundD s A s2 D how ≤ A + 1 := by
  have h1 := Int.ediv_le_self D hA
  have h2 := Int.ediv_nonneg hA (Int.le_of_lt hD)
  have h3 := bI_le (upR (decide (s * s2 < 0)) (A / D) (A % D) D how)
  unfold roundD
  split <;> omega
def quotR (lo hi : Int) (a : Num) (b how : Int) : Int × Int := if hi < lo then (0, 2) else if how < 1 ∨ 3 < how then (0, 11) else if b = 0 then (0, 2) else outS lo hi (roundD a.1 (dval a.2.1) (sgnI b) (b.natAbs : Int) how)
def S39 : List AV → Option FOut := sigSpec [WithinK, NumK, I64, I64] [I64, I64] (fun x : (Int × Int × Unit) × Num × Int × Int × Unit => ((quotR x.1.1 x.1.2.1 x.2.1 x.2.2.1 x.2.2.2.1).1, (quotR x.1.1 x.1.2.1 x.2.1 x.2.2.1 x.2.2.2.1).2, ())) (fun x : (Int × Int × Unit) × Num × Int × Int × Unit => inI x.1.1 ∧ inI x.1.2.1 ∧ okN x.2.1 ∧ x.2.1.2.1.length ≤ 100 ∧ inI x.2.2.1)
set_option maxHeartbeats 4000000 in
theorem fn39 : FnOk Try.prog 39 S39 := by
  refine fn_of (rs := [.tmp 8, .tmp 9]) (env [(18, S18), (40, S40), (51, S51), (46, S46)] ⟨fn18, fn40, fn51, fn46, trivial⟩) Try.func39 (by kernel_rfl) rfl rfl Try.ntmps39 ?_
  rintro ⟨⟨(lo : Int), (hi : Int), u⟩, ⟨(s : Int), (x : List Int), u0⟩, (b : Int), (how : Int), u2⟩ ⟨hlo, hhi, hx, hxl, hb⟩ G hG hQ
  simp only at hlo hhi hx hxl hb
  obtain ⟨f1, f2, f3, f4⟩ := okN_facts hx
  simp only at f1 f3 f4
  have hb' := hb
  unfold inI at hb'
  refine AM.run2 hG 100 (by cbv) ?_ ?_
  · (simp only [sxs, sxb, and_self, and_true, true_and, implies_true, imp_self, bne_eq_false_iff_eq, Nat.zero_add, Nat.le_refl, Int.toNat_natCast, Int.ofNat_lt, Int.natCast_nonneg, decide_eq_true_eq, decide_eq_false_iff_not, bne_iff_ne, ne_eq]; try dsimp only [Kd.T, Kds.T, AK.T, AKs.T])
  refine AM.case 10 rfl (fun e => ?_) (fun e => ?_) <;> (simp only [sxs, sxb, and_self, and_true, true_and, implies_true, imp_self, bne_eq_false_iff_eq, Nat.zero_add, Nat.le_refl, Int.toNat_natCast, Int.ofNat_lt, Int.natCast_nonneg, decide_eq_true_eq, decide_eq_false_iff_not, bne_iff_ne, ne_eq] at e; try dsimp only [Kd.T, Kds.T, AK.T, AKs.T] at e)
  · have e : hi < lo := by
      rcases Decidable.em (hi < lo) with h | h
      · exact h
      · rw [if_neg h] at e; exact absurd rfl e
    refine AM.run2 hG 100 (by cbv) ?_ ?_
    · (simp only [sxs, sxb, and_self, and_true, true_and, implies_true, imp_self, bne_eq_false_iff_eq, Nat.zero_add, Nat.le_refl, Int.toNat_natCast, Int.ofNat_lt, Int.natCast_nonneg, decide_eq_true_eq, decide_eq_false_iff_not, bne_iff_ne, ne_eq]; try dsimp only [Kd.T, Kds.T, AK.T, AKs.T])
    refine AM.ret2 hG (by cbv) (by (simp only [sxs, sxb, and_self, and_true, true_and, implies_true, imp_self, bne_eq_false_iff_eq, Nat.zero_add, Nat.le_refl, Int.toNat_natCast, Int.ofNat_lt, Int.natCast_nonneg, decide_eq_true_eq, decide_eq_false_iff_not, bne_iff_ne, ne_eq]; try dsimp only [Kd.T, Kds.T, AK.T, AKs.T])) (hQ _ _ (FinRo.of (by cbv) (by cbv) ?_ ?_))
    · (simp only [sxs, sxb, and_self, and_true, true_and, implies_true, imp_self, bne_eq_false_iff_eq, Nat.zero_add, Nat.le_refl, Int.toNat_natCast, Int.ofNat_lt, Int.natCast_nonneg, decide_eq_true_eq, decide_eq_false_iff_not, bne_iff_ne, ne_eq]; try dsimp only [Kd.T, Kds.T, AK.T, AKs.T])
    try (simp only [sxs, sxb, and_self, and_true, true_and, implies_true, imp_self, bne_eq_false_iff_eq, Nat.zero_add, Nat.le_refl, Int.toNat_natCast, Int.ofNat_lt, Int.natCast_nonneg, decide_eq_true_eq, decide_eq_false_iff_not, bne_iff_ne, ne_eq]; try dsimp only [Kd.T, Kds.T, AK.T, AKs.T])
    simp only [quotR, if_pos e]
    all_goals ((repeat' apply And.intro) <;> first | rfl | assumption | exact trivial)
  have e : ¬ hi < lo := by
    intro h
    rw [if_pos h] at e
    exact absurd e (by decide)
  refine AM.run2 hG 100 (by cbv) ?_ ?_
  · (simp only [sxs, sxb, and_self, and_true, true_and, implies_true, imp_self, bne_eq_false_iff_eq, Nat.zero_add, Nat.le_refl, Int.toNat_natCast, Int.ofNat_lt, Int.natCast_nonneg, decide_eq_true_eq, decide_eq_false_iff_not, bne_iff_ne, ne_eq]; try dsimp only [Kd.T, Kds.T, AK.T, AKs.T])
    try exact fun a b => ⟨a, b⟩
  refine AM.case 14 rfl (fun e1 => ?_) (fun e1 => ?_) <;> (simp only [sxs, sxb, and_self, and_true, true_and, implies_true, imp_self, bne_eq_false_iff_eq, Nat.zero_add, Nat.le_refl, Int.toNat_natCast, Int.ofNat_lt, Int.natCast_nonneg, decide_eq_true_eq, decide_eq_false_iff_not, bne_iff_ne, ne_eq] at e1; try dsimp only [Kd.T, Kds.T, AK.T, AKs.T] at e1)
  · refine AM.run2 hG 100 (by cbv) ?_ ?_
    · (simp only [sxs, sxb, and_self, and_true, true_and, implies_true, imp_self, bne_eq_false_iff_eq, Nat.zero_add, Nat.le_refl, Int.toNat_natCast, Int.ofNat_lt, Int.natCast_nonneg, decide_eq_true_eq, decide_eq_false_iff_not, bne_iff_ne, ne_eq]; try dsimp only [Kd.T, Kds.T, AK.T, AKs.T])
    refine AM.ret2 hG (by cbv) (by (simp only [sxs, sxb, and_self, and_true, true_and, implies_true, imp_self, bne_eq_false_iff_eq, Nat.zero_add, Nat.le_refl, Int.toNat_natCast, Int.ofNat_lt, Int.natCast_nonneg, decide_eq_true_eq, decide_eq_false_iff_not, bne_iff_ne, ne_eq]; try dsimp only [Kd.T, Kds.T, AK.T, AKs.T])) (hQ _ _ (FinRo.of (by cbv) (by cbv) ?_ ?_))
    · (simp only [sxs, sxb, and_self, and_true, true_and, implies_true, imp_self, bne_eq_false_iff_eq, Nat.zero_add, Nat.le_refl, Int.toNat_natCast, Int.ofNat_lt, Int.natCast_nonneg, decide_eq_true_eq, decide_eq_false_iff_not, bne_iff_ne, ne_eq]; try dsimp only [Kd.T, Kds.T, AK.T, AKs.T])
    try (simp only [sxs, sxb, and_self, and_true, true_and, implies_true, imp_self, bne_eq_false_iff_eq, Nat.zero_add, Nat.le_refl, Int.toNat_natCast, Int.ofNat_lt, Int.natCast_nonneg, decide_eq_true_eq, decide_eq_false_iff_not, bne_iff_ne, ne_eq]; try dsimp only [Kd.T, Kds.T, AK.T, AKs.T])
    simp only [quotR, if_neg e, if_pos e1]
    all_goals ((repeat' apply And.intro) <;> first | rfl | assumption | exact trivial)
  have e1' : ¬ (how < 1 ∨ 3 < how) := by omega
  refine AM.run2 hG 100 (by cbv) ?_ ?_
  · (simp only [sxs, sxb, and_self, and_true, true_and, implies_true, imp_self, bne_eq_false_iff_eq, Nat.zero_add, Nat.le_refl, Int.toNat_natCast, Int.ofNat_lt, Int.natCast_nonneg, decide_eq_true_eq, decide_eq_false_iff_not, bne_iff_ne, ne_eq]; try dsimp only [Kd.T, Kds.T, AK.T, AKs.T])
  refine AM.case 21 rfl (fun e2 => ?_) (fun e2 => ?_) <;> (simp only [sxs, sxb, and_self, and_true, true_and, implies_true, imp_self, bne_eq_false_iff_eq, Nat.zero_add, Nat.le_refl, Int.toNat_natCast, Int.ofNat_lt, Int.natCast_nonneg, decide_eq_true_eq, decide_eq_false_iff_not, bne_iff_ne, ne_eq] at e2; try dsimp only [Kd.T, Kds.T, AK.T, AKs.T] at e2)
  · refine AM.run2 hG 100 (by cbv) ?_ ?_
    · (simp only [sxs, sxb, and_self, and_true, true_and, implies_true, imp_self, bne_eq_false_iff_eq, Nat.zero_add, Nat.le_refl, Int.toNat_natCast, Int.ofNat_lt, Int.natCast_nonneg, decide_eq_true_eq, decide_eq_false_iff_not, bne_iff_ne, ne_eq]; try dsimp only [Kd.T, Kds.T, AK.T, AKs.T])
    refine AM.ret2 hG (by cbv) (by (simp only [sxs, sxb, and_self, and_true, true_and, implies_true, imp_self, bne_eq_false_iff_eq, Nat.zero_add, Nat.le_refl, Int.toNat_natCast, Int.ofNat_lt, Int.natCast_nonneg, decide_eq_true_eq, decide_eq_false_iff_not, bne_iff_ne, ne_eq]; try dsimp only [Kd.T, Kds.T, AK.T, AKs.T])) (hQ _ _ (FinRo.of (by cbv) (by cbv) ?_ ?_))
    · (simp only [sxs, sxb, and_self, and_true, true_and, implies_true, imp_self, bne_eq_false_iff_eq, Nat.zero_add, Nat.le_refl, Int.toNat_natCast, Int.ofNat_lt, Int.natCast_nonneg, decide_eq_true_eq, decide_eq_false_iff_not, bne_iff_ne, ne_eq]; try dsimp only [Kd.T, Kds.T, AK.T, AKs.T])
    try (simp only [sxs, sxb, and_self, and_true, true_and, implies_true, imp_self, bne_eq_false_iff_eq, Nat.zero_add, Nat.le_refl, Int.toNat_natCast, Int.ofNat_lt, Int.natCast_nonneg, decide_eq_true_eq, decide_eq_false_iff_not, bne_iff_ne, ne_eq]; try dsimp only [Kd.T, Kds.T, AK.T, AKs.T])
    simp only [quotR, if_neg e, if_neg e1', if_pos e2]
    all_goals ((repeat' apply And.intro) <;> first | rfl | assumption | exact trivial)
  have vb : valN ((canonN b).1, (canonN b).2.1, PUnit.unit) = b := valN_canon b
  have db : dval (canonN b).2.1 = (b.natAbs : Int) := digs_val _
  have lb : (canonN b).2.1.length ≤ 100 := Nat.le_trans (canon_len (n := b) ⟨by omega, by omega⟩) (by decide)
  have hA0 := dval_nonneg f1
  have hbd := round_le (s := s) (A := dval x) (s2 := sgnI b) (D := (b.natAbs : Int)) (how := how) hA0 (by omega)
  obtain ⟨z, hz⟩ : ∃ z, roundD s (dval x) (sgnI b) (b.natAbs : Int) how = z := ⟨_, rfl⟩
  rw [hz] at hbd
  have hlt := dval_lt_pow f1 hxl
  have lz : (canonN z).2.1.length ≤ 101 := by
    refine digs_len 101 z.natAbs ?_
    have e3 : (65536 : Nat) ^ 101 = 65536 ^ 100 * 65536 := Nat.pow_succ ..
    have e4 : ((65536 ^ 100 : Nat) : Int) = (65536 : Int) ^ 100 := by simp
    obtain ⟨Z, hZ⟩ : ∃ Z, (65536 : Nat) ^ 100 = Z := ⟨_, rfl⟩
    rw [hZ] at e3 e4
    rw [e3]
    rw [← e4] at hlt
    omega
  have vz : valN ((canonN z).1, (canonN z).2.1, PUnit.unit) = z := valN_canon z
  have hz2 : roundD s (dval x) (canonN b).1 (dval (canonN b).2.1) how = z := by rw [db]; exact hz
  refine AM.run2 hG 100 (by cbv) ?_ ?_
  · (simp only [sxs, sxb, and_self, and_true, true_and, implies_true, imp_self, bne_eq_false_iff_eq, Nat.zero_add, Nat.le_refl, Int.toNat_natCast, Int.ofNat_lt, Int.natCast_nonneg, decide_eq_true_eq, decide_eq_false_iff_not, bne_iff_ne, ne_eq]; try dsimp only [Kd.T, Kds.T, AK.T, AKs.T])
    rw [hz2, vb]
    exact ⟨hb, ⟨hx, okN_canon b, e2, hxl, lb, by omega, by omega⟩, hlo, hhi, okN_canon z, by omega⟩
  refine AM.ret2 hG (by cbv) (by (simp only [sxs, sxb, and_self, and_true, true_and, implies_true, imp_self, bne_eq_false_iff_eq, Nat.zero_add, Nat.le_refl, Int.toNat_natCast, Int.ofNat_lt, Int.natCast_nonneg, decide_eq_true_eq, decide_eq_false_iff_not, bne_iff_ne, ne_eq]; try dsimp only [Kd.T, Kds.T, AK.T, AKs.T])) (hQ _ _ (FinRo.of (by cbv) (by cbv) ?_ ?_))
  · (simp only [sxs, sxb, and_self, and_true, true_and, implies_true, imp_self, bne_eq_false_iff_eq, Nat.zero_add, Nat.le_refl, Int.toNat_natCast, Int.ofNat_lt, Int.natCast_nonneg, decide_eq_true_eq, decide_eq_false_iff_not, bne_iff_ne, ne_eq]; try dsimp only [Kd.T, Kds.T, AK.T, AKs.T])
  try (simp only [sxs, sxb, and_self, and_true, true_and, implies_true, imp_self, bne_eq_false_iff_eq, Nat.zero_add, Nat.le_refl, Int.toNat_natCast, Int.ofNat_lt, Int.natCast_nonneg, decide_eq_true_eq, decide_eq_false_iff_not, bne_iff_ne, ne_eq]; try dsimp only [Kd.T, Kds.T, AK.T, AKs.T])
  rw [hz2, vz]
  simp only [quotR, if_neg e, if_neg e1', if_neg e2, hz]
  all_goals ((repeat' apply And.intro) <;> first | rfl | assumption | exact trivial)
def S11 : List AV → Option FOut := sigSpec [WithinK, I64, I64, I64] [I64, I64] (fun x : (Int × Int × Unit) × Int × Int × Int × Unit => ((scaleR x.1.1 x.1.2.1 x.2.1 1 x.2.2.1 x.2.2.2.1).1, (scaleR x.1.1 x.1.2.1 x.2.1 1 x.2.2.1 x.2.2.2.1).2, ())) (fun x : (Int × Int × Unit) × Int × Int × Int × Unit => inI x.1.1 ∧ inI x.1.2.1 ∧ inI x.2.1 ∧ inI x.2.2.1)
theorem quot_scale {lo hi a b d how x : Int} (hx : a * b = x) : quotR lo hi ((canonN x).1, (canonN x).2.1, PUnit.unit) d how = scaleR lo hi a b d how := by
  unfold quotR scaleR
  split
  · rfl
  · split
    · rfl
    · split
      · rfl
      · rename_i h1 h2 h3
        have := round_scale (a := a) (b := b) (d := d) (how := how) h3 (by omega)
        rw [hx] at this
        rw [← this]
        have e : dval (canonN x).2.1 = (x.natAbs : Int) := digs_val _
        simp only [e]
        rfl
theorem fn11 : FnOk Try.prog 11 S11 := by
  refine fn_of (rs := [.tmp 8, .tmp 9]) (env [(40, S40), (39, S39)] ⟨fn40, fn39, trivial⟩) Try.func11 (by kernel_rfl) rfl rfl Try.ntmps11 ?_
  rintro ⟨⟨(lo : Int), (hi : Int), u⟩, (a : Int), (d : Int), (how : Int), u2⟩ ⟨hlo, hhi, ha, hd⟩ G hG hQ
  simp only at hlo hhi ha hd
  have ha' := ha
  unfold inI at ha'
  refine AM.run2 hG 100 (by cbv) ?_ ?_
  · (simp only [sxs, sxb, and_self, and_true, true_and, implies_true, imp_self, bne_eq_false_iff_eq, Nat.zero_add, Nat.le_refl, Int.toNat_natCast, Int.ofNat_lt, Int.natCast_nonneg, decide_eq_true_eq, decide_eq_false_iff_not, bne_iff_ne, ne_eq]; try dsimp only [Kd.T, Kds.T, AK.T, AKs.T])
    exact ⟨ha, hlo, hhi, okN_canon a, Nat.le_trans (canon_len (n := a) ⟨by omega, by omega⟩) (by decide), hd⟩
  refine AM.ret2 hG (by cbv) (by (simp only [sxs, sxb, and_self, and_true, true_and, implies_true, imp_self, bne_eq_false_iff_eq, Nat.zero_add, Nat.le_refl, Int.toNat_natCast, Int.ofNat_lt, Int.natCast_nonneg, decide_eq_true_eq, decide_eq_false_iff_not, bne_iff_ne, ne_eq]; try dsimp only [Kd.T, Kds.T, AK.T, AKs.T])) (hQ _ _ (FinRo.of (by cbv) (by cbv) ?_ ?_))
  · (simp only [sxs, sxb, and_self, and_true, true_and, implies_true, imp_self, bne_eq_false_iff_eq, Nat.zero_add, Nat.le_refl, Int.toNat_natCast, Int.ofNat_lt, Int.natCast_nonneg, decide_eq_true_eq, decide_eq_false_iff_not, bne_iff_ne, ne_eq]; try dsimp only [Kd.T, Kds.T, AK.T, AKs.T])
  try (simp only [sxs, sxb, and_self, and_true, true_and, implies_true, imp_self, bne_eq_false_iff_eq, Nat.zero_add, Nat.le_refl, Int.toNat_natCast, Int.ofNat_lt, Int.natCast_nonneg, decide_eq_true_eq, decide_eq_false_iff_not, bne_iff_ne, ne_eq]; try dsimp only [Kd.T, Kds.T, AK.T, AKs.T])
  rw [quot_scale (a := a) (b := 1) (Int.mul_one a)]
  exact ⟨rfl, rfl⟩
def S13 : List AV → Option FOut := sigSpec [WithinK, I64, I64, I64, I64] [I64, I64] (fun x : (Int × Int × Unit) × Int × Int × Int × Int × Unit => ((scaleR x.1.1 x.1.2.1 x.2.1 x.2.2.1 x.2.2.2.1 x.2.2.2.2.1).1, (scaleR x.1.1 x.1.2.1 x.2.1 x.2.2.1 x.2.2.2.1 x.2.2.2.2.1).2, ())) (fun x : (Int × Int × Unit) × Int × Int × Int × Int × Unit => inI x.1.1 ∧ inI x.1.2.1 ∧ inI x.2.1 ∧ inI x.2.2.1 ∧ inI x.2.2.2.1)
theorem fn13 : FnOk Try.prog 13 S13 := by
  refine fn_of (rs := [.tmp 10, .tmp 11]) (env [(40, S40), (43, S43), (39, S39)] ⟨fn40, fn43, fn39, trivial⟩) Try.func13 (by kernel_rfl) rfl rfl Try.ntmps13 ?_
  rintro ⟨⟨(lo : Int), (hi : Int), u⟩, (a : Int), (b : Int), (d : Int), (how : Int), u2⟩ ⟨hlo, hhi, ha, hb, hd⟩ G hG hQ
  simp only at hlo hhi ha hb hd
  have ha' := ha
  have hb' := hb
  unfold inI at ha' hb'
  have va : valN ((canonN a).1, (canonN a).2.1, PUnit.unit) = a := valN_canon a
  have vb : valN ((canonN b).1, (canonN b).2.1, PUnit.unit) = b := valN_canon b
  have lab := canon_len8 (mul_bound ha hb)
  refine AM.run2 hG 100 (by cbv) ?_ ?_
  · (simp only [sxs, sxb, and_self, and_true, true_and, implies_true, imp_self, bne_eq_false_iff_eq, Nat.zero_add, Nat.le_refl, Int.toNat_natCast, Int.ofNat_lt, Int.natCast_nonneg, decide_eq_true_eq, decide_eq_false_iff_not, bne_iff_ne, ne_eq]; try dsimp only [Kd.T, Kds.T, AK.T, AKs.T])
    rw [va, vb]
    exact ⟨ha, hb, ⟨okN_canon a, okN_canon b, Nat.le_trans (canon_len (n := a) ⟨by omega, by omega⟩) (by decide), Nat.le_trans (canon_len (n := b) ⟨by omega, by omega⟩) (by decide)⟩, hlo, hhi, okN_canon (a * b), by omega, hd⟩
  refine AM.ret2 hG (by cbv) (by (simp only [sxs, sxb, and_self, and_true, true_and, implies_true, imp_self, bne_eq_false_iff_eq, Nat.zero_add, Nat.le_refl, Int.toNat_natCast, Int.ofNat_lt, Int.natCast_nonneg, decide_eq_true_eq, decide_eq_false_iff_not, bne_iff_ne, ne_eq]; try dsimp only [Kd.T, Kds.T, AK.T, AKs.T])) (hQ _ _ (FinRo.of (by cbv) (by cbv) ?_ ?_))
  · (simp only [sxs, sxb, and_self, and_true, true_and, implies_true, imp_self, bne_eq_false_iff_eq, Nat.zero_add, Nat.le_refl, Int.toNat_natCast, Int.ofNat_lt, Int.natCast_nonneg, decide_eq_true_eq, decide_eq_false_iff_not, bne_iff_ne, ne_eq]; try dsimp only [Kd.T, Kds.T, AK.T, AKs.T])
  try (simp only [sxs, sxb, and_self, and_true, true_and, implies_true, imp_self, bne_eq_false_iff_eq, Nat.zero_add, Nat.le_refl, Int.toNat_natCast, Int.ofNat_lt, Int.natCast_nonneg, decide_eq_true_eq, decide_eq_false_iff_not, bne_iff_ne, ne_eq]; try dsimp only [Kd.T, Kds.T, AK.T, AKs.T])
  rw [va, vb, quot_scale rfl]
  exact ⟨rfl, rfl⟩
theorem law3 : FnOk Try.prog 3 (sigSpec [WithinK, I64, I64, I64, I64] [.bool] (fun _ => (true, ())) (Kds.wf [WithinK, I64, I64, I64, I64])) := by
  refine fn_of (rs := [.tmp 10]) (env [(14, S14), (10, S10), (11, S11), (12, S12), (13, S13)] ⟨fn14, fn10, fn11, fn12, fn13, trivial⟩) Try.func3 (by kernel_rfl) rfl rfl Try.ntmps3 ?_
  rintro ⟨⟨(lo : Int), (hi : Int), u1⟩, (a : Int), (b : Int), (c : Int), (how : Int), u⟩ ⟨⟨hlo, hhi, _⟩, ha, hb, hc, hw, _⟩ G hG hQ
  replace ha : inI a := wfI ha
  replace hb : inI b := wfI hb
  replace hc : inI c := wfI hc
  replace hlo : inI lo := wfI hlo
  replace hhi : inI hi := wfI hhi
  refine AM.run2 hG 300 (by cbv) ?_ ?_
  · (simp only [sxs, sxb, and_self, and_true, true_and, implies_true, imp_self, bne_eq_false_iff_eq, Nat.zero_add, Nat.le_refl, Int.toNat_natCast, Int.ofNat_lt, Int.natCast_nonneg, decide_eq_true_eq, decide_eq_false_iff_not, bne_iff_ne, ne_eq]; try dsimp only [Kd.T, Kds.T, AK.T, AKs.T])
    exact ⟨⟨hlo, hhi, ha, hb, hc⟩, ⟨ha, hb, hc⟩, ⟨hlo, hhi, ha, hb⟩, ha, hb⟩
  refine AM.ret2 hG (by cbv) (by (simp only [sxs, sxb, and_self, and_true, true_and, implies_true, imp_self, bne_eq_false_iff_eq, Nat.zero_add, Nat.le_refl, Int.toNat_natCast, Int.ofNat_lt, Int.natCast_nonneg, decide_eq_true_eq, decide_eq_false_iff_not, bne_iff_ne, ne_eq]; try dsimp only [Kd.T, Kds.T, AK.T, AKs.T])) (hQ _ _ (FinRo.of (by cbv) (by cbv) ?_ ?_))
  · (simp only [sxs, sxb, and_self, and_true, true_and, implies_true, imp_self, bne_eq_false_iff_eq, Nat.zero_add, Nat.le_refl, Int.toNat_natCast, Int.ofNat_lt, Int.natCast_nonneg, decide_eq_true_eq, decide_eq_false_iff_not, bne_iff_ne, ne_eq]; try dsimp only [Kd.T, Kds.T, AK.T, AKs.T])
  try (simp only [sxs, sxb, and_self, and_true, true_and, implies_true, imp_self, bne_eq_false_iff_eq, Nat.zero_add, Nat.le_refl, Int.toNat_natCast, Int.ofNat_lt, Int.natCast_nonneg, decide_eq_true_eq, decide_eq_false_iff_not, bne_iff_ne, ne_eq]; try dsimp only [Kd.T, Kds.T, AK.T, AKs.T])
end Go.Sx.Ytpfdknpbiambnaa
