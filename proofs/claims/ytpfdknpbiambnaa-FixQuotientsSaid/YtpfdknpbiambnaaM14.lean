/- The laws FixOrder and FixRounds. -/
import Derived.Test.YtpfdknpbiambnaaM13
import Derived.Test.YtpfdknpbiambnaaSx22
namespace Go.Sx.Ytpfdknpbiambnaa
open Go Go.Sx Go.Proofs
set_option linter.unusedVariables false
set_option linter.unusedSimpArgs false
set_option maxRecDepth 100000

theorem wfI {n : Int} (h : (Lit.int .i64 n).wf = true) : inI n := by
  have e : (Lit.int .i64 n).wf = (decide (-9223372036854775808 ≤ n) && decide (n ≤ 9223372036854775807)) := rfl
  rw [e] at h
  simp only [Bool.and_eq_true, decide_eq_true_eq] at h
  unfold inI
  omega
def loI : Int := -9223372036854775808
def hiI : Int := 9223372036854775807
theorem outS_in (lo hi x : Int) : inI (outS lo hi x).1 := by
  unfold outS inI
  split <;> simp only <;> omega
theorem sumR_in (lo hi x : Int) : inI (sumR lo hi x).1 := by
  unfold sumR
  split
  · exact (by decide : inI 0)
  · exact outS_in _ _ _
theorem sumR_all {x : Int} (h : inI x) : sumR (-9223372036854775808) 9223372036854775807 x = (x, 0) := by
  unfold inI at h
  rw [sumR, if_neg (by decide), outS, if_neg (by omega)]
theorem sumR_ok {x : Int} (h : (sumR (-9223372036854775808) 9223372036854775807 x).2 = 0) : inI x ∧ (sumR (-9223372036854775808) 9223372036854775807 x).1 = x := by
  rw [sumR, if_neg (by decide)] at h ⊢
  unfold outS at h ⊢
  split at h
  · cases h
  · rename_i hc
    rw [if_neg hc]
    exact ⟨by unfold inI; omega, rfl⟩
theorem magI_pos {n : Int} (h : n ≠ 0) : 0 < magI n := by unfold magI; split <;> omega
theorem scale_back {a b : Int} (hb : b ≠ 0) : scaleV a b b 3 = a := by
  have hm := magI_pos hb
  have h1 : magI a * magI b / magI b = magI a := Int.mul_ediv_cancel _ (Int.ne_of_gt hm)
  have h2 : magI a * magI b % magI b = 0 := Int.mul_emod_left _ _
  have h3 : upB ((!eqBo (decide (a < 0)) (decide (b < 0))) != decide (b < 0)) (magI a) 0 (magI b) 3 = false := by
    rw [upB, if_pos rfl, decide_eq_false_iff_not]
    omega
  rw [scaleV, overV, h1, h2, h3]
  unfold magI
  by_cases e1 : a < 0 <;> by_cases e2 : b < 0 <;> simp [e1, e2, eqBo, bI]
theorem scaleR_back {a b : Int} (ha : inI a) (hb : b ≠ 0) : scaleR (-9223372036854775808) 9223372036854775807 a b b 3 = (a, 0) := by
  unfold inI at ha
  rw [scaleR, if_neg (by decide), if_neg (by decide), if_neg hb, scale_back hb, outS, if_neg (by omega)]
set_option maxHeartbeats 4000000 in
theorem law7 : FnOk Try.prog 7 (sigSpec [I64, I64] [.bool] (fun _ => (true, ())) (Kds.wf [I64, I64])) := by
  refine fn_of (rs := [.tmp 4]) (env [(6, sigSpec [] [.bool] (fun _ => (true, ())) (Kds.wf [])), (31, S31), (15, S15), (21, S21), (19, S19), (33, S33), (12, S12)]
    ⟨law6, fn31, fn15, fn21, fn19, fn33, fn12, trivial⟩) Try.func7 (by kernel_rfl) rfl rfl Try.ntmps7 ?_
  rintro ⟨(a : Int), (b : Int), u⟩ ⟨ha, hb, _⟩ G hG hQ
  replace ha := wfI ha
  replace hb := wfI hb
  refine AM.run2 hG 400 (by cbv) ?_ ?_
  · (simp only [sxs, sxb, and_self, and_true, true_and, implies_true, imp_self, bne_eq_false_iff_eq, Nat.zero_add, Nat.le_refl, Int.toNat_natCast, Int.ofNat_lt, Int.natCast_nonneg, decide_eq_true_eq, decide_eq_false_iff_not, bne_iff_ne, ne_eq]; try dsimp only [Kd.T, Kds.T, AK.T, AKs.T])
    exact ⟨⟨hb, ha⟩, ⟨ha, hb⟩, ⟨hb, ha⟩, ⟨ha, hb⟩, trivial⟩
  refine AM.case 66 rfl (fun h => ?_) (fun h => ?_) <;> (simp only [sxs, sxb, and_self, and_true, true_and, implies_true, imp_self, bne_eq_false_iff_eq, Nat.zero_add, Nat.le_refl, Int.toNat_natCast, Int.ofNat_lt, Int.natCast_nonneg, decide_eq_true_eq, decide_eq_false_iff_not, bne_iff_ne, ne_eq] at h; try dsimp only [Kd.T, Kds.T, AK.T, AKs.T] at h)
  · exfalso
    rw [Int.add_comm b a, Int.mul_comm b a] at h
    simp at h
  refine AM.run2 hG 400 (by cbv) ?_ ?_
  · (simp only [sxs, sxb, and_self, and_true, true_and, implies_true, imp_self, bne_eq_false_iff_eq, Nat.zero_add, Nat.le_refl, Int.toNat_natCast, Int.ofNat_lt, Int.natCast_nonneg, decide_eq_true_eq, decide_eq_false_iff_not, bne_iff_ne, ne_eq]; try dsimp only [Kd.T, Kds.T, AK.T, AKs.T])
    exact ⟨ha, hb⟩
  refine AM.case 75 rfl (fun h2 => ?_) (fun h2 => ?_) <;> (simp only [sxs, sxb, and_self, and_true, true_and, implies_true, imp_self, bne_eq_false_iff_eq, Nat.zero_add, Nat.le_refl, Int.toNat_natCast, Int.ofNat_lt, Int.natCast_nonneg, decide_eq_true_eq, decide_eq_false_iff_not, bne_iff_ne, ne_eq] at h2; try dsimp only [Kd.T, Kds.T, AK.T, AKs.T] at h2)
  · obtain ⟨hab, he⟩ := sumR_ok h2
    refine AM.run2 hG 400 (by cbv) ?_ ?_
    · (simp only [sxs, sxb, and_self, and_true, true_and, implies_true, imp_self, bne_eq_false_iff_eq, Nat.zero_add, Nat.le_refl, Int.toNat_natCast, Int.ofNat_lt, Int.natCast_nonneg, decide_eq_true_eq, decide_eq_false_iff_not, bne_iff_ne, ne_eq]; try dsimp only [Kd.T, Kds.T, AK.T, AKs.T])
      exact ⟨sumR_in _ _ _, hb⟩
    refine AM.case 87 rfl (fun h3 => ?_) (fun h3 => ?_) <;> (simp only [sxs, sxb, and_self, and_true, true_and, implies_true, imp_self, bne_eq_false_iff_eq, Nat.zero_add, Nat.le_refl, Int.toNat_natCast, Int.ofNat_lt, Int.natCast_nonneg, decide_eq_true_eq, decide_eq_false_iff_not, bne_iff_ne, ne_eq] at h3; try dsimp only [Kd.T, Kds.T, AK.T, AKs.T] at h3)
    · exfalso
      rw [he, show a - b + b = a by omega, sumR_all ha] at h3
      simp at h3
    refine AM.run2 hG 400 (by cbv) ?_ ?_
    · (simp only [sxs, sxb, and_self, and_true, true_and, implies_true, imp_self, bne_eq_false_iff_eq, Nat.zero_add, Nat.le_refl, Int.toNat_natCast, Int.ofNat_lt, Int.natCast_nonneg, decide_eq_true_eq, decide_eq_false_iff_not, bne_iff_ne, ne_eq]; try dsimp only [Kd.T, Kds.T, AK.T, AKs.T])
      exact ⟨ha, hb⟩
    refine AM.case 97 rfl (fun h4 => ?_) (fun h4 => ?_) <;> (simp only [sxs, sxb, and_self, and_true, true_and, implies_true, imp_self, bne_eq_false_iff_eq, Nat.zero_add, Nat.le_refl, Int.toNat_natCast, Int.ofNat_lt, Int.natCast_nonneg, decide_eq_true_eq, decide_eq_false_iff_not, bne_iff_ne, ne_eq] at h4; try dsimp only [Kd.T, Kds.T, AK.T, AKs.T] at h4)
    · refine AM.run2 hG 400 (by cbv) ?_ ?_
      · (simp only [sxs, sxb, and_self, and_true, true_and, implies_true, imp_self, bne_eq_false_iff_eq, Nat.zero_add, Nat.le_refl, Int.toNat_natCast, Int.ofNat_lt, Int.natCast_nonneg, decide_eq_true_eq, decide_eq_false_iff_not, bne_iff_ne, ne_eq]; try dsimp only [Kd.T, Kds.T, AK.T, AKs.T])
      refine AM.ret2 hG (by cbv) (by (simp only [sxs, sxb, and_self, and_true, true_and, implies_true, imp_self, bne_eq_false_iff_eq, Nat.zero_add, Nat.le_refl, Int.toNat_natCast, Int.ofNat_lt, Int.natCast_nonneg, decide_eq_true_eq, decide_eq_false_iff_not, bne_iff_ne, ne_eq]; try dsimp only [Kd.T, Kds.T, AK.T, AKs.T])) (hQ _ _ (FinRo.of (by cbv) (by cbv) ?_ ?_))
      · (simp only [sxs, sxb, and_self, and_true, true_and, implies_true, imp_self, bne_eq_false_iff_eq, Nat.zero_add, Nat.le_refl, Int.toNat_natCast, Int.ofNat_lt, Int.natCast_nonneg, decide_eq_true_eq, decide_eq_false_iff_not, bne_iff_ne, ne_eq]; try dsimp only [Kd.T, Kds.T, AK.T, AKs.T])
      try (simp only [sxs, sxb, and_self, and_true, true_and, implies_true, imp_self, bne_eq_false_iff_eq, Nat.zero_add, Nat.le_refl, Int.toNat_natCast, Int.ofNat_lt, Int.natCast_nonneg, decide_eq_true_eq, decide_eq_false_iff_not, bne_iff_ne, ne_eq]; try dsimp only [Kd.T, Kds.T, AK.T, AKs.T])
      rw [scaleR, if_neg (by decide), if_neg (by decide), if_pos h4]
    · refine AM.run2 hG 400 (by cbv) ?_ ?_
      · (simp only [sxs, sxb, and_self, and_true, true_and, implies_true, imp_self, bne_eq_false_iff_eq, Nat.zero_add, Nat.le_refl, Int.toNat_natCast, Int.ofNat_lt, Int.natCast_nonneg, decide_eq_true_eq, decide_eq_false_iff_not, bne_iff_ne, ne_eq]; try dsimp only [Kd.T, Kds.T, AK.T, AKs.T])
      refine AM.ret2 hG (by cbv) (by (simp only [sxs, sxb, and_self, and_true, true_and, implies_true, imp_self, bne_eq_false_iff_eq, Nat.zero_add, Nat.le_refl, Int.toNat_natCast, Int.ofNat_lt, Int.natCast_nonneg, decide_eq_true_eq, decide_eq_false_iff_not, bne_iff_ne, ne_eq]; try dsimp only [Kd.T, Kds.T, AK.T, AKs.T])) (hQ _ _ (FinRo.of (by cbv) (by cbv) ?_ ?_))
      · (simp only [sxs, sxb, and_self, and_true, true_and, implies_true, imp_self, bne_eq_false_iff_eq, Nat.zero_add, Nat.le_refl, Int.toNat_natCast, Int.ofNat_lt, Int.natCast_nonneg, decide_eq_true_eq, decide_eq_false_iff_not, bne_iff_ne, ne_eq]; try dsimp only [Kd.T, Kds.T, AK.T, AKs.T])
      try (simp only [sxs, sxb, and_self, and_true, true_and, implies_true, imp_self, bne_eq_false_iff_eq, Nat.zero_add, Nat.le_refl, Int.toNat_natCast, Int.ofNat_lt, Int.natCast_nonneg, decide_eq_true_eq, decide_eq_false_iff_not, bne_iff_ne, ne_eq]; try dsimp only [Kd.T, Kds.T, AK.T, AKs.T])
      rw [scaleR_back ha h4]
      exact ⟨rfl, rfl⟩
  · refine AM.run2 hG 400 (by cbv) ?_ ?_
    · (simp only [sxs, sxb, and_self, and_true, true_and, implies_true, imp_self, bne_eq_false_iff_eq, Nat.zero_add, Nat.le_refl, Int.toNat_natCast, Int.ofNat_lt, Int.natCast_nonneg, decide_eq_true_eq, decide_eq_false_iff_not, bne_iff_ne, ne_eq]; try dsimp only [Kd.T, Kds.T, AK.T, AKs.T])
      exact ⟨ha, hb⟩
    refine AM.case 97 rfl (fun h4 => ?_) (fun h4 => ?_) <;> (simp only [sxs, sxb, and_self, and_true, true_and, implies_true, imp_self, bne_eq_false_iff_eq, Nat.zero_add, Nat.le_refl, Int.toNat_natCast, Int.ofNat_lt, Int.natCast_nonneg, decide_eq_true_eq, decide_eq_false_iff_not, bne_iff_ne, ne_eq] at h4; try dsimp only [Kd.T, Kds.T, AK.T, AKs.T] at h4)
    · refine AM.run2 hG 400 (by cbv) ?_ ?_
      · (simp only [sxs, sxb, and_self, and_true, true_and, implies_true, imp_self, bne_eq_false_iff_eq, Nat.zero_add, Nat.le_refl, Int.toNat_natCast, Int.ofNat_lt, Int.natCast_nonneg, decide_eq_true_eq, decide_eq_false_iff_not, bne_iff_ne, ne_eq]; try dsimp only [Kd.T, Kds.T, AK.T, AKs.T])
      refine AM.ret2 hG (by cbv) (by (simp only [sxs, sxb, and_self, and_true, true_and, implies_true, imp_self, bne_eq_false_iff_eq, Nat.zero_add, Nat.le_refl, Int.toNat_natCast, Int.ofNat_lt, Int.natCast_nonneg, decide_eq_true_eq, decide_eq_false_iff_not, bne_iff_ne, ne_eq]; try dsimp only [Kd.T, Kds.T, AK.T, AKs.T])) (hQ _ _ (FinRo.of (by cbv) (by cbv) ?_ ?_))
      · (simp only [sxs, sxb, and_self, and_true, true_and, implies_true, imp_self, bne_eq_false_iff_eq, Nat.zero_add, Nat.le_refl, Int.toNat_natCast, Int.ofNat_lt, Int.natCast_nonneg, decide_eq_true_eq, decide_eq_false_iff_not, bne_iff_ne, ne_eq]; try dsimp only [Kd.T, Kds.T, AK.T, AKs.T])
      try (simp only [sxs, sxb, and_self, and_true, true_and, implies_true, imp_self, bne_eq_false_iff_eq, Nat.zero_add, Nat.le_refl, Int.toNat_natCast, Int.ofNat_lt, Int.natCast_nonneg, decide_eq_true_eq, decide_eq_false_iff_not, bne_iff_ne, ne_eq]; try dsimp only [Kd.T, Kds.T, AK.T, AKs.T])
      rw [scaleR, if_neg (by decide), if_neg (by decide), if_pos h4]
    · refine AM.run2 hG 400 (by cbv) ?_ ?_
      · (simp only [sxs, sxb, and_self, and_true, true_and, implies_true, imp_self, bne_eq_false_iff_eq, Nat.zero_add, Nat.le_refl, Int.toNat_natCast, Int.ofNat_lt, Int.natCast_nonneg, decide_eq_true_eq, decide_eq_false_iff_not, bne_iff_ne, ne_eq]; try dsimp only [Kd.T, Kds.T, AK.T, AKs.T])
      refine AM.ret2 hG (by cbv) (by (simp only [sxs, sxb, and_self, and_true, true_and, implies_true, imp_self, bne_eq_false_iff_eq, Nat.zero_add, Nat.le_refl, Int.toNat_natCast, Int.ofNat_lt, Int.natCast_nonneg, decide_eq_true_eq, decide_eq_false_iff_not, bne_iff_ne, ne_eq]; try dsimp only [Kd.T, Kds.T, AK.T, AKs.T])) (hQ _ _ (FinRo.of (by cbv) (by cbv) ?_ ?_))
      · (simp only [sxs, sxb, and_self, and_true, true_and, implies_true, imp_self, bne_eq_false_iff_eq, Nat.zero_add, Nat.le_refl, Int.toNat_natCast, Int.ofNat_lt, Int.natCast_nonneg, decide_eq_true_eq, decide_eq_false_iff_not, bne_iff_ne, ne_eq]; try dsimp only [Kd.T, Kds.T, AK.T, AKs.T])
      try (simp only [sxs, sxb, and_self, and_true, true_and, implies_true, imp_self, bne_eq_false_iff_eq, Nat.zero_add, Nat.le_refl, Int.toNat_natCast, Int.ofNat_lt, Int.natCast_nonneg, decide_eq_true_eq, decide_eq_false_iff_not, bne_iff_ne, ne_eq]; try dsimp only [Kd.T, Kds.T, AK.T, AKs.T])
      rw [scaleR_back ha h4]
      exact ⟨rfl, rfl⟩
/-- The three ways to round. -/
theorem rounds {a b : Int} (hb : b ≠ 0) : ∃ q r m e c : Int, m = magI b ∧ 0 ≤ q ∧ 0 ≤ r ∧ r < m ∧ magI a = q * m + r ∧ (c = 0 ∧ r = 0 ∨ c = 1 ∧ 0 < r) ∧ (e = 0 ∧ ¬ (m < 2 * r ∨ 2 * r = m ∧ q % 2 = 1) ∨ e = 1 ∧ (m < 2 * r ∨ 2 * r = m ∧ q % 2 = 1)) ∧
    ((a < 0 ↔ b < 0) ∧ scaleV a 1 b 1 = q ∧ scaleV a 1 b 2 = q + c ∧ scaleV a 1 b 3 = q + e ∨ ¬ (a < 0 ↔ b < 0) ∧ scaleV a 1 b 1 = -(q + c) ∧ scaleV a 1 b 2 = -q ∧ scaleV a 1 b 3 = -(q + e)) := by
  have hm := magI_pos hb
  have ha0 : 0 ≤ magI a := by unfold magI; split <;> omega
  have h1 : magI a * magI 1 = magI a := by rw [show magI 1 = 1 by rfl, Int.mul_one]
  obtain ⟨m, hm'⟩ : ∃ m, m = magI b := ⟨_, rfl⟩
  obtain ⟨q, hq⟩ : ∃ q, q = magI a / m := ⟨_, rfl⟩
  obtain ⟨r, hr⟩ : ∃ r, r = magI a % m := ⟨_, rfl⟩
  have hv : ∀ how, scaleV a 1 b how = (if ((!eqBo (decide (a < 0)) false) != decide (b < 0)) = true then -1 else 1) * (q + bI (upB ((!eqBo (decide (a < 0)) false) != decide (b < 0)) q r m how)) := fun how => by
    rw [scaleV, overV, h1, ← hm', ← hq, ← hr]
    rfl
  have hneg : ((!eqBo (decide (a < 0)) false) != decide (b < 0)) = decide (¬ (a < 0 ↔ b < 0)) := by
    by_cases e1 : a < 0 <;> by_cases e2 : b < 0 <;> simp [e1, e2, eqBo]
  rw [← hm'] at hm
  refine ⟨q, r, m, if m < 2 * r ∨ 2 * r = m ∧ q % 2 = 1 then 1 else 0, if 0 < r then 1 else 0, hm', ?_, ?_, ?_, ?_, ?_, ?_, ?_⟩
  · rw [hq]; exact Int.ediv_nonneg ha0 (by omega)
  · rw [hr]; exact Int.emod_nonneg _ (by omega)
  · rw [hr]; exact Int.emod_lt_of_pos _ hm
  · rw [hq, hr]; exact (Int.ediv_mul_add_emod _ _).symm
  · have : 0 ≤ r := by rw [hr]; exact Int.emod_nonneg _ (by omega)
    split <;> omega
  · split
    · rename_i h; exact .inr ⟨rfl, h⟩
    · rename_i h; exact .inl ⟨rfl, h⟩
  · rw [hv, hv, hv, hneg]
    by_cases e : (a < 0 ↔ b < 0)
    · refine .inl ⟨e, ?_, ?_, ?_⟩
      · simp [e, upB, bI]
      · by_cases h : 0 < r <;> simp [e, upB, bI, h]
      · by_cases h : m < 2 * r ∨ 2 * r = m ∧ q % 2 = 1 <;> simp [e, upB, bI, h]
    · refine .inr ⟨e, ?_, ?_, ?_⟩
      · by_cases h : 0 < r <;> simp [e, upB, bI, h]
      · simp [e, upB, bI]
      · by_cases h : m < 2 * r ∨ 2 * r = m ∧ q % 2 = 1 <;> simp [e, upB, bI, h]
theorem ev2 (D : Int) : D.tmod 2 = 0 ↔ D % 2 = 0 := by
  first
  | omega
  | (rw [← Int.dvd_iff_tmod_eq_zero]; omega)
theorem rounds2 {A B : Int} (hB : B ≠ 0) (hA1 : -1073741824 < A ∧ A < 1073741824) (hB1 : -1073741824 < B ∧ B < 1073741824) : ∃ D U H A' m PD PU : Int, scaleV A 1 B 1 = D ∧ scaleV A 1 B 2 = U ∧ scaleV A 1 B 3 = H ∧ A' = (if B < 0 then -A else A) ∧ m = (if B < 0 then -B else B) ∧ D * m = PD ∧ U * m = PU ∧
    (-2147483648 ≤ D ∧ D ≤ 2147483648) ∧ (-2147483648 ≤ U ∧ U ≤ 2147483648) ∧ (-2147483648 ≤ H ∧ H ≤ 2147483648) ∧ (-4611686018427387904 < PD ∧ PD < 4611686018427387904) ∧ (-4611686018427387904 < PU ∧ PU < 4611686018427387904) ∧ PD ≤ A' ∧ A' ≤ PU ∧ (U = D ∨ U = D + 1) ∧ (H = D ∨ H = U) ∧ (D = U ↔ PD = A') ∧
    (H = D ↔ (A' - PD < PU - A' ∨ A' - PD = PU - A' ∧ D.tmod 2 = 0) ∨ D = U) := by
  obtain ⟨q, r, m, e, c, hm, hq, hr, hrm, ha, hc, he, h⟩ := rounds (a := A) hB
  have hm0 : 0 < m := by rw [hm]; exact magI_pos hB
  have hqm : q ≤ q * m := by
    have := Int.mul_le_mul_of_nonneg_left (show 1 ≤ m by omega) hq
    omega
  have hm1 : m = (if B < 0 then -B else B) := by rw [hm]; rfl
  obtain ⟨z, hz⟩ : ∃ z, z = q * m := ⟨_, rfl⟩
  have e1 : (q + 1) * m = z + m := by rw [Int.add_mul, Int.one_mul, hz]
  have e2 : -q * m = -z := by rw [Int.neg_mul, hz]
  have e3 : -(q + 1) * m = -(z + m) := by rw [Int.neg_mul, e1]
  have e4 : (q + 0) * m = z := by rw [Int.add_zero, hz]
  have e5 : -(q + 0) * m = -z := by rw [Int.neg_mul, e4]
  rw [← hz] at ha hqm
  have hmA : magI A = (if A < 0 then -A else A) := rfl
  rw [hmA] at ha
  rcases h with ⟨hs, h1, h2, h3⟩ | ⟨hs, h1, h2, h3⟩
  · rcases hc with ⟨rfl, hc⟩ | ⟨rfl, hc⟩
    · refine ⟨q, q + 0, q + e, _, m, z, z, h1, h2, h3, rfl, hm1, hz.symm, e4, ?_⟩
      rw [ev2]
      refine ⟨?_, ?_, ?_, ?_, ?_, ?_, ?_, ?_, ?_, ?_, ?_⟩ <;> (clear h1 h2 h3 e1 e2 e3 e4 e5 hmA hm) <;> omega
    · refine ⟨q, q + 1, q + e, _, m, z, z + m, h1, h2, h3, rfl, hm1, hz.symm, e1, ?_⟩
      rw [ev2]
      refine ⟨?_, ?_, ?_, ?_, ?_, ?_, ?_, ?_, ?_, ?_, ?_⟩ <;> (clear h1 h2 h3 e1 e2 e3 e4 e5 hmA hm) <;> omega
  · rcases hc with ⟨rfl, hc⟩ | ⟨rfl, hc⟩
    · refine ⟨-(q + 0), -q, -(q + e), _, m, -z, -z, h1, h2, h3, rfl, hm1, e5, e2, ?_⟩
      rw [ev2]
      refine ⟨?_, ?_, ?_, ?_, ?_, ?_, ?_, ?_, ?_, ?_, ?_⟩ <;> (clear h1 h2 h3 e1 e2 e3 e4 e5 hmA hm) <;> omega
    · refine ⟨-(q + 1), -q, -(q + e), _, m, -(z + m), -z, h1, h2, h3, rfl, hm1, e3, e2, ?_⟩
      rw [ev2]
      refine ⟨?_, ?_, ?_, ?_, ?_, ?_, ?_, ?_, ?_, ?_, ?_⟩ <;> (clear h1 h2 h3 e1 e2 e3 e4 e5 hmA hm) <;> omega
theorem scaleR_in {A B how : Int} (hB : B ≠ 0) (hw : 1 ≤ how ∧ how ≤ 3) (h : -9223372036854775808 ≤ scaleV A 1 B how ∧ scaleV A 1 B how ≤ 9223372036854775807) : scaleR (-9223372036854775808) 9223372036854775807 A 1 B how = (scaleV A 1 B how, 0) := by
  rw [scaleR, if_neg (by decide), if_neg (by omega), if_neg hB, outS, if_neg (by omega)]
set_option maxHeartbeats 4000000 in
theorem law8 : FnOk Try.prog 8 (sigSpec [I64, I64] [.bool] (fun _ => (true, ())) (Kds.wf [I64, I64])) := by
  refine fn_of (rs := [.tmp 4]) (env [(6, sigSpec [] [.bool] (fun _ => (true, ())) (Kds.wf [])), (31, S31), (10, S10)]
    ⟨law6, fn31, fn10, trivial⟩) Try.func8 (by kernel_rfl) rfl rfl Try.ntmps8 ?_
  rintro ⟨(a : Int), (b : Int), u⟩ _ G hG hQ
  have tb : ∀ z : Int, -1073741824 < z.tmod 1073741824 ∧ z.tmod 1073741824 < 1073741824 := fun z => by
    have h1 := Int.tmod_lt_of_pos z (show (0 : Int) < 1073741824 by decide)
    have h2 := Int.lt_tmod_of_pos z (show (0 : Int) < 1073741824 by decide)
    omega
  have hA := tb a
  have hB := tb b
  refine AM.run2 hG 400 (by cbv) ?_ ?_
  · (simp only [sxs, sxb, and_self, and_true, true_and, implies_true, imp_self, bne_eq_false_iff_eq, Nat.zero_add, Nat.le_refl, Int.toNat_natCast, Int.ofNat_lt, Int.natCast_nonneg, decide_eq_true_eq, decide_eq_false_iff_not, bne_iff_ne, ne_eq]; try dsimp only [Kd.T, Kds.T, AK.T, AKs.T])
    exact ⟨by decide, by decide, trivial⟩
  refine AM.case 20 rfl (fun h => ?_) (fun h => ?_) <;> (simp only [sxs, sxb, and_self, and_true, true_and, implies_true, imp_self, bne_eq_false_iff_eq, Nat.zero_add, Nat.le_refl, Int.toNat_natCast, Int.ofNat_lt, Int.natCast_nonneg, decide_eq_true_eq, decide_eq_false_iff_not, bne_iff_ne, ne_eq] at h; try dsimp only [Kd.T, Kds.T, AK.T, AKs.T] at h)
  · refine AM.run2 hG 400 (by cbv) ?_ ?_
    · (simp only [sxs, sxb, and_self, and_true, true_and, implies_true, imp_self, bne_eq_false_iff_eq, Nat.zero_add, Nat.le_refl, Int.toNat_natCast, Int.ofNat_lt, Int.natCast_nonneg, decide_eq_true_eq, decide_eq_false_iff_not, bne_iff_ne, ne_eq]; try dsimp only [Kd.T, Kds.T, AK.T, AKs.T])
    refine AM.ret2 hG (by cbv) (by (simp only [sxs, sxb, and_self, and_true, true_and, implies_true, imp_self, bne_eq_false_iff_eq, Nat.zero_add, Nat.le_refl, Int.toNat_natCast, Int.ofNat_lt, Int.natCast_nonneg, decide_eq_true_eq, decide_eq_false_iff_not, bne_iff_ne, ne_eq]; try dsimp only [Kd.T, Kds.T, AK.T, AKs.T])) (hQ _ _ (FinRo.of (by cbv) (by cbv) ?_ ?_))
    · (simp only [sxs, sxb, and_self, and_true, true_and, implies_true, imp_self, bne_eq_false_iff_eq, Nat.zero_add, Nat.le_refl, Int.toNat_natCast, Int.ofNat_lt, Int.natCast_nonneg, decide_eq_true_eq, decide_eq_false_iff_not, bne_iff_ne, ne_eq]; try dsimp only [Kd.T, Kds.T, AK.T, AKs.T])
    try (simp only [sxs, sxb, and_self, and_true, true_and, implies_true, imp_self, bne_eq_false_iff_eq, Nat.zero_add, Nat.le_refl, Int.toNat_natCast, Int.ofNat_lt, Int.natCast_nonneg, decide_eq_true_eq, decide_eq_false_iff_not, bne_iff_ne, ne_eq]; try dsimp only [Kd.T, Kds.T, AK.T, AKs.T])
  obtain ⟨A, eA⟩ : ∃ A, a.tmod 1073741824 = A := ⟨_, rfl⟩
  obtain ⟨B, eB⟩ : ∃ B, b.tmod 1073741824 = B := ⟨_, rfl⟩
  rw [eA] at hA
  rw [eB] at hB h
  obtain ⟨D, U, H, A', m, PD, PU, f1, f2, f3, f4, f5, f6, f7, f8, f9, f10, f11, f12, f13, f14, f15, f16, f17, f18⟩ := rounds2 h hA hB
  refine AM.runTo2 hG 43 400 (by cbv) ?_ ?_
  · (simp only [sxs, sxb, and_self, and_true, true_and, implies_true, imp_self, bne_eq_false_iff_eq, Nat.zero_add, Nat.le_refl, Int.toNat_natCast, Int.ofNat_lt, Int.natCast_nonneg, decide_eq_true_eq, decide_eq_false_iff_not, bne_iff_ne, ne_eq]; try dsimp only [Kd.T, Kds.T, AK.T, AKs.T])
    try rw [eA, eB]
    try unfold inI
    try omega
  refine AM.imp2 (fr' := frame 146 [(0, .int .i64 (.t fun _ => A)), (1, .int .i64 (.t fun _ => B)), (5, .bool (.t fun _ => true)), (6, .int .i64 (.t fun _ => D)), (7, .int .i64 (.t fun _ => 0)), (8, .int .i64 (.t fun _ => U)), (9, .int .i64 (.t fun _ => 0)), (10, .int .i64 (.t fun _ => H)), (11, .int .i64 (.t fun _ => 0))]) (h' := []) (by cbv) (by cbv) ?_ trivial ?_
  · (simp only [sxs, sxb, and_self, and_true, true_and, implies_true, imp_self, bne_eq_false_iff_eq, Nat.zero_add, Nat.le_refl, Int.toNat_natCast, Int.ofNat_lt, Int.natCast_nonneg, decide_eq_true_eq, decide_eq_false_iff_not, bne_iff_ne, ne_eq]; try dsimp only [Kd.T, Kds.T, AK.T, AKs.T])
    rw [eA, eB, scaleR_in h (by decide) (by rw [f1]; omega), scaleR_in h (by decide) (by rw [f2]; omega), scaleR_in h (by decide) (by rw [f3]; omega)]
    exact ⟨rfl, rfl, f1, rfl, f2, rfl, f3, rfl⟩
  refine AM.run2 hG 400 (by cbv) ?_ ?_
  · (simp only [sxs, sxb, and_self, and_true, true_and, implies_true, imp_self, bne_eq_false_iff_eq, Nat.zero_add, Nat.le_refl, Int.toNat_natCast, Int.ofNat_lt, Int.natCast_nonneg, decide_eq_true_eq, decide_eq_false_iff_not, bne_iff_ne, ne_eq]; try dsimp only [Kd.T, Kds.T, AK.T, AKs.T])
    exact ⟨fun a b => ⟨a, b⟩, fun a b => ⟨a, b⟩⟩
  refine AM.case 81 rfl (fun g => ?_) (fun g => ?_) <;> (simp only [sxs, sxb, and_self, and_true, true_and, implies_true, imp_self, bne_eq_false_iff_eq, Nat.zero_add, Nat.le_refl, Int.toNat_natCast, Int.ofNat_lt, Int.natCast_nonneg, decide_eq_true_eq, decide_eq_false_iff_not, bne_iff_ne, ne_eq] at g; try dsimp only [Kd.T, Kds.T, AK.T, AKs.T] at g)
  · exfalso
    simp only [not_true_eq_false, false_or, or_false] at g
    rw [w64 (n := D + 1) (by omega) (by omega)] at g
    omega
  clear g
  refine' AM.meet (fun _ : Unit => (frame 146 [(0, .int .i64 (.t fun _ => A')), (1, .int .i64 (.t fun _ => m)), (5, .bool (.t fun _ => true)), (6, .int .i64 (.t fun _ => D)), (8, .int .i64 (.t fun _ => U)), (10, .int .i64 (.t fun _ => H))], [])) (fun _ => True) ?_ ?_
  rotate_left 1
  · intro after
    refine AM.run2 hG 400 (by cbv) ?_ ?_
    · (simp only [sxs, sxb, and_self, and_true, true_and, implies_true, imp_self, bne_eq_false_iff_eq, Nat.zero_add, Nat.le_refl, Int.toNat_natCast, Int.ofNat_lt, Int.natCast_nonneg, decide_eq_true_eq, decide_eq_false_iff_not, bne_iff_ne, ne_eq]; try dsimp only [Kd.T, Kds.T, AK.T, AKs.T])
    refine AM.case 83 rfl (fun g => ?_) (fun g => ?_) <;> (simp only [sxs, sxb, and_self, and_true, true_and, implies_true, imp_self, bne_eq_false_iff_eq, Nat.zero_add, Nat.le_refl, Int.toNat_natCast, Int.ofNat_lt, Int.natCast_nonneg, decide_eq_true_eq, decide_eq_false_iff_not, bne_iff_ne, ne_eq] at g; try dsimp only [Kd.T, Kds.T, AK.T, AKs.T] at g)
    · refine AM.runTo2 hG 88 100 (by cbv) (by (simp only [sxs, sxb, and_self, and_true, true_and, implies_true, imp_self, bne_eq_false_iff_eq, Nat.zero_add, Nat.le_refl, Int.toNat_natCast, Int.ofNat_lt, Int.natCast_nonneg, decide_eq_true_eq, decide_eq_false_iff_not, bne_iff_ne, ne_eq]; try dsimp only [Kd.T, Kds.T, AK.T, AKs.T])) ?_
      refine AM.imp2 (by cbv) (by cbv) ?_ trivial (after () trivial)
      (simp only [sxs, sxb, and_self, and_true, true_and, implies_true, imp_self, bne_eq_false_iff_eq, Nat.zero_add, Nat.le_refl, Int.toNat_natCast, Int.ofNat_lt, Int.natCast_nonneg, decide_eq_true_eq, decide_eq_false_iff_not, bne_iff_ne, ne_eq]; try dsimp only [Kd.T, Kds.T, AK.T, AKs.T])
      rw [f4, f5, if_pos g, if_pos g, w64 (by omega) (by omega), w64 (by omega) (by omega)]
      omega
    · refine AM.runTo2 hG 88 100 (by cbv) (by (simp only [sxs, sxb, and_self, and_true, true_and, implies_true, imp_self, bne_eq_false_iff_eq, Nat.zero_add, Nat.le_refl, Int.toNat_natCast, Int.ofNat_lt, Int.natCast_nonneg, decide_eq_true_eq, decide_eq_false_iff_not, bne_iff_ne, ne_eq]; try dsimp only [Kd.T, Kds.T, AK.T, AKs.T])) ?_
      refine AM.imp2 (by cbv) (by cbv) ?_ trivial (after () trivial)
      (simp only [sxs, sxb, and_self, and_true, true_and, implies_true, imp_self, bne_eq_false_iff_eq, Nat.zero_add, Nat.le_refl, Int.toNat_natCast, Int.ofNat_lt, Int.natCast_nonneg, decide_eq_true_eq, decide_eq_false_iff_not, bne_iff_ne, ne_eq]; try dsimp only [Kd.T, Kds.T, AK.T, AKs.T])
      rw [f4, f5, if_neg g, if_neg g]
      exact ⟨rfl, rfl⟩
  rintro ⟨⟩ _
  refine AM.run2 hG 400 (by cbv) ?_ ?_
  · (simp only [sxs, sxb, and_self, and_true, true_and, implies_true, imp_self, bne_eq_false_iff_eq, Nat.zero_add, Nat.le_refl, Int.toNat_natCast, Int.ofNat_lt, Int.natCast_nonneg, decide_eq_true_eq, decide_eq_false_iff_not, bne_iff_ne, ne_eq]; try dsimp only [Kd.T, Kds.T, AK.T, AKs.T])
  refine AM.case 110 rfl (fun g => ?_) (fun g => ?_) <;> (simp only [sxs, sxb, and_self, and_true, true_and, implies_true, imp_self, bne_eq_false_iff_eq, Nat.zero_add, Nat.le_refl, Int.toNat_natCast, Int.ofNat_lt, Int.natCast_nonneg, decide_eq_true_eq, decide_eq_false_iff_not, bne_iff_ne, ne_eq] at g; try dsimp only [Kd.T, Kds.T, AK.T, AKs.T] at g)
  · exfalso
    have e9 : eqI D U = eqI PD A' := by
      rw [Bool.eq_iff_iff, eqI_t, eqI_t]
      exact f17
    rw [f6, f7, w64 (n := PD) (by omega) (by omega), w64 (n := PU) (by omega) (by omega), e9] at g
    simp only [not_true_eq_false, or_false] at g
    omega
  clear g
  refine AM.run2 hG 400 (by cbv) ?_ ?_
  · (simp only [sxs, sxb, and_self, and_true, true_and, implies_true, imp_self, bne_eq_false_iff_eq, Nat.zero_add, Nat.le_refl, Int.toNat_natCast, Int.ofNat_lt, Int.natCast_nonneg, decide_eq_true_eq, decide_eq_false_iff_not, bne_iff_ne, ne_eq]; try dsimp only [Kd.T, Kds.T, AK.T, AKs.T])
    exact ⟨fun a b => ⟨a, b⟩, fun _ => by decide⟩
  refine AM.ret2 hG (by cbv) (by (simp only [sxs, sxb, and_self, and_true, true_and, implies_true, imp_self, bne_eq_false_iff_eq, Nat.zero_add, Nat.le_refl, Int.toNat_natCast, Int.ofNat_lt, Int.natCast_nonneg, decide_eq_true_eq, decide_eq_false_iff_not, bne_iff_ne, ne_eq]; try dsimp only [Kd.T, Kds.T, AK.T, AKs.T])) (hQ _ _ (FinRo.of (by cbv) (by cbv) ?_ ?_))
  · (simp only [sxs, sxb, and_self, and_true, true_and, implies_true, imp_self, bne_eq_false_iff_eq, Nat.zero_add, Nat.le_refl, Int.toNat_natCast, Int.ofNat_lt, Int.natCast_nonneg, decide_eq_true_eq, decide_eq_false_iff_not, bne_iff_ne, ne_eq]; try dsimp only [Kd.T, Kds.T, AK.T, AKs.T])
  try (simp only [sxs, sxb, and_self, and_true, true_and, implies_true, imp_self, bne_eq_false_iff_eq, Nat.zero_add, Nat.le_refl, Int.toNat_natCast, Int.ofNat_lt, Int.natCast_nonneg, decide_eq_true_eq, decide_eq_false_iff_not, bne_iff_ne, ne_eq]; try dsimp only [Kd.T, Kds.T, AK.T, AKs.T])
  rw [f6, f7, w64 (n := PD) (by omega) (by omega), w64 (n := PU) (by omega) (by omega), w64 (n := A' - PD) (by omega) (by omega), w64 (n := PU - A') (by omega) (by omega), Bool.eq_iff_iff, eqI_t, Bool.or_eq_true, eqI_t, decide_eq_true_eq]
  exact f18
end Go.Sx.Ytpfdknpbiambnaa
