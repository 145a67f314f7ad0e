/- The reference: Add, Sub, Mul; the law FixSums. -/
import Derived.Test.YtpfdknpbiambnaaM23
namespace Go.Sx.Ytpfdknpbiambnaa
open Go Go.Sx Go.Proofs
set_option linter.unusedVariables false
set_option linter.unusedSimpArgs false
set_option maxRecDepth 100000

theorem canon_len8 {n : Int} (h : -340282366920938463463374607431768211456 < n ∧ n < 340282366920938463463374607431768211456) : (canonN n).2.1.length ≤ 8 := by
  refine digs_len 8 n.natAbs ?_
  have : (65536 : Nat) ^ 8 = 340282366920938463463374607431768211456 := rfl
  omega
theorem sgn_in (x : Int) : -1 ≤ (canonN x).1 ∧ (canonN x).1 ≤ 1 := by
  show -1 ≤ sgnI x ∧ sgnI x ≤ 1
  unfold sgnI
  split <;> (try split) <;> omega
theorem mul_bound {a b : Int} (ha : inI a) (hb : inI b) : -340282366920938463463374607431768211456 < a * b ∧ a * b < 340282366920938463463374607431768211456 := by
  have h1 := (mag_in ha).2
  have h2 := (mag_in hb).2
  have h3 := prodW_val a b
  have a0 : 0 ≤ magI a := by unfold magI; split <;> omega
  have b0 : 0 ≤ magI b := by unfold magI; split <;> omega
  have h4 := Int.mul_le_mul h1 h2 b0 (by decide)
  have h5 := Int.mul_nonneg a0 b0
  have h6 : a * b = magI a * magI b ∨ a * b = -(magI a * magI b) := by
    unfold magI
    by_cases e1 : a < 0 <;> by_cases e2 : b < 0 <;> simp [e1, e2, Int.neg_mul, Int.mul_neg]
  omega
def S16 : List AV → Option FOut := sigSpec [WithinK, I64, I64] [I64, I64] (fun x : (Int × Int × Unit) × Int × Int × Unit => ((sumR x.1.1 x.1.2.1 (x.2.1 + x.2.2.1)).1, (sumR x.1.1 x.1.2.1 (x.2.1 + x.2.2.1)).2, ())) (fun x : (Int × Int × Unit) × Int × Int × Unit => inI x.1.1 ∧ inI x.1.2.1 ∧ inI x.2.1 ∧ inI x.2.2.1)
theorem fn16 : FnOk Try.prog 16 S16 := by
  refine fn_of (rs := [.tmp 6, .tmp 7]) (env [(18, S18), (40, S40), (47, S47), (46, S46)] ⟨fn18, fn40, fn47, fn46, trivial⟩) Try.func16 (by kernel_rfl) rfl rfl Try.ntmps16 ?_
  rintro ⟨⟨(lo : Int), (hi : Int), u⟩, (a : Int), (b : Int), u2⟩ ⟨hlo, hhi, ha, hb⟩ G hG hQ
  simp only at hlo hhi ha hb
  have ha' := ha
  have hb' := hb
  unfold inI at ha' hb'
  have l1 := canon_len (n := a) ⟨by omega, by omega⟩
  have l2 := canon_len (n := b) ⟨by omega, by omega⟩
  have w1 : valN ((canonN a).1, (canonN a).2.1, PUnit.unit) = a := valN_canon a
  have w2 : valN ((canonN b).1, (canonN b).2.1, PUnit.unit) = b := valN_canon b
  refine AM.run2 hG 100 (by cbv) ?_ ?_
  · (simp only [sxs, sxb, and_self, and_true, true_and, implies_true, imp_self, bne_eq_false_iff_eq, Nat.zero_add, Nat.le_refl, Int.toNat_natCast, Int.ofNat_lt, Int.natCast_nonneg, decide_eq_true_eq, decide_eq_false_iff_not, bne_iff_ne, ne_eq]; try dsimp only [Kd.T, Kds.T, AK.T, AKs.T])
  refine AM.case 10 rfl (fun e => ?_) (fun e => ?_) <;> (simp only [sxs, sxb, and_self, and_true, true_and, implies_true, imp_self, bne_eq_false_iff_eq, Nat.zero_add, Nat.le_refl, Int.toNat_natCast, Int.ofNat_lt, Int.natCast_nonneg, decide_eq_true_eq, decide_eq_false_iff_not, bne_iff_ne, ne_eq] at e; try dsimp only [Kd.T, Kds.T, AK.T, AKs.T] at e)
  · have e : hi < lo := by split at e <;> simp_all
    refine AM.run2 hG 100 (by cbv) ?_ ?_
    · (simp only [sxs, sxb, and_self, and_true, true_and, implies_true, imp_self, bne_eq_false_iff_eq, Nat.zero_add, Nat.le_refl, Int.toNat_natCast, Int.ofNat_lt, Int.natCast_nonneg, decide_eq_true_eq, decide_eq_false_iff_not, bne_iff_ne, ne_eq]; try dsimp only [Kd.T, Kds.T, AK.T, AKs.T])
    refine AM.ret2 hG (by cbv) (by (simp only [sxs, sxb, and_self, and_true, true_and, implies_true, imp_self, bne_eq_false_iff_eq, Nat.zero_add, Nat.le_refl, Int.toNat_natCast, Int.ofNat_lt, Int.natCast_nonneg, decide_eq_true_eq, decide_eq_false_iff_not, bne_iff_ne, ne_eq]; try dsimp only [Kd.T, Kds.T, AK.T, AKs.T])) (hQ _ _ (FinRo.of (by cbv) (by cbv) ?_ ?_))
    · (simp only [sxs, sxb, and_self, and_true, true_and, implies_true, imp_self, bne_eq_false_iff_eq, Nat.zero_add, Nat.le_refl, Int.toNat_natCast, Int.ofNat_lt, Int.natCast_nonneg, decide_eq_true_eq, decide_eq_false_iff_not, bne_iff_ne, ne_eq]; try dsimp only [Kd.T, Kds.T, AK.T, AKs.T])
    try (simp only [sxs, sxb, and_self, and_true, true_and, implies_true, imp_self, bne_eq_false_iff_eq, Nat.zero_add, Nat.le_refl, Int.toNat_natCast, Int.ofNat_lt, Int.natCast_nonneg, decide_eq_true_eq, decide_eq_false_iff_not, bne_iff_ne, ne_eq]; try dsimp only [Kd.T, Kds.T, AK.T, AKs.T])
    rw [sumR, if_pos e]
    exact ⟨rfl, rfl⟩
  have e : ¬ hi < lo := by split at e <;> simp_all
  refine AM.run2 hG 100 (by cbv) ?_ ?_
  · (simp only [sxs, sxb, and_self, and_true, true_and, implies_true, imp_self, bne_eq_false_iff_eq, Nat.zero_add, Nat.le_refl, Int.toNat_natCast, Int.ofNat_lt, Int.natCast_nonneg, decide_eq_true_eq, decide_eq_false_iff_not, bne_iff_ne, ne_eq]; try dsimp only [Kd.T, Kds.T, AK.T, AKs.T])
    rw [w1, w2]
    exact ⟨ha, hb, ⟨okN_canon a, okN_canon b, by omega, by omega⟩, hlo, hhi, okN_canon _, Nat.le_trans (canon_len8 (n := a + b) ⟨by omega, by omega⟩) (by decide)⟩
  refine AM.ret2 hG (by cbv) (by (simp only [sxs, sxb, and_self, and_true, true_and, implies_true, imp_self, bne_eq_false_iff_eq, Nat.zero_add, Nat.le_refl, Int.toNat_natCast, Int.ofNat_lt, Int.natCast_nonneg, decide_eq_true_eq, decide_eq_false_iff_not, bne_iff_ne, ne_eq]; try dsimp only [Kd.T, Kds.T, AK.T, AKs.T])) (hQ _ _ (FinRo.of (by cbv) (by cbv) ?_ ?_))
  · (simp only [sxs, sxb, and_self, and_true, true_and, implies_true, imp_self, bne_eq_false_iff_eq, Nat.zero_add, Nat.le_refl, Int.toNat_natCast, Int.ofNat_lt, Int.natCast_nonneg, decide_eq_true_eq, decide_eq_false_iff_not, bne_iff_ne, ne_eq]; try dsimp only [Kd.T, Kds.T, AK.T, AKs.T])
  try (simp only [sxs, sxb, and_self, and_true, true_and, implies_true, imp_self, bne_eq_false_iff_eq, Nat.zero_add, Nat.le_refl, Int.toNat_natCast, Int.ofNat_lt, Int.natCast_nonneg, decide_eq_true_eq, decide_eq_false_iff_not, bne_iff_ne, ne_eq]; try dsimp only [Kd.T, Kds.T, AK.T, AKs.T])
  rw [sumR, if_neg e]
  have w3 : valN ((canonN (a + b)).1, (canonN (a + b)).2.1, PUnit.unit) = a + b := valN_canon _
  rw [w1, w2, w3]
  exact ⟨rfl, rfl⟩
def S20 : List AV → Option FOut := sigSpec [WithinK, I64, I64] [I64, I64] (fun x : (Int × Int × Unit) × Int × Int × Unit => ((sumR x.1.1 x.1.2.1 (x.2.1 - x.2.2.1)).1, (sumR x.1.1 x.1.2.1 (x.2.1 - x.2.2.1)).2, ())) (fun x : (Int × Int × Unit) × Int × Int × Unit => inI x.1.1 ∧ inI x.1.2.1 ∧ inI x.2.1 ∧ inI x.2.2.1)
theorem fn20 : FnOk Try.prog 20 S20 := by
  refine fn_of (rs := [.tmp 6, .tmp 7]) (env [(18, S18), (40, S40), (48, S48), (47, S47), (46, S46)] ⟨fn18, fn40, fn48, fn47, fn46, trivial⟩) Try.func20 (by kernel_rfl) rfl rfl Try.ntmps20 ?_
  rintro ⟨⟨(lo : Int), (hi : Int), u⟩, (a : Int), (b : Int), u2⟩ ⟨hlo, hhi, ha, hb⟩ G hG hQ
  simp only at hlo hhi ha hb
  have ha' := ha
  have hb' := hb
  unfold inI at ha' hb'
  have l1 := canon_len (n := a) ⟨by omega, by omega⟩
  have l2 := canon_len (n := b) ⟨by omega, by omega⟩
  have w1 : valN ((canonN a).1, (canonN a).2.1, PUnit.unit) = a := valN_canon a
  have w2 : valN ((canonN b).1, (canonN b).2.1, PUnit.unit) = b := valN_canon b
  have wneg : (-(canonN b).1, (canonN b).2.1, PUnit.unit) = canonN (-b) := natAbs_neg_digs b
  have w4 : valN (canonN (-b)) = -b := valN_canon (-b)
  refine AM.run2 hG 100 (by cbv) ?_ ?_
  · (simp only [sxs, sxb, and_self, and_true, true_and, implies_true, imp_self, bne_eq_false_iff_eq, Nat.zero_add, Nat.le_refl, Int.toNat_natCast, Int.ofNat_lt, Int.natCast_nonneg, decide_eq_true_eq, decide_eq_false_iff_not, bne_iff_ne, ne_eq]; try dsimp only [Kd.T, Kds.T, AK.T, AKs.T])
  refine AM.case 10 rfl (fun e => ?_) (fun e => ?_) <;> (simp only [sxs, sxb, and_self, and_true, true_and, implies_true, imp_self, bne_eq_false_iff_eq, Nat.zero_add, Nat.le_refl, Int.toNat_natCast, Int.ofNat_lt, Int.natCast_nonneg, decide_eq_true_eq, decide_eq_false_iff_not, bne_iff_ne, ne_eq] at e; try dsimp only [Kd.T, Kds.T, AK.T, AKs.T] at e)
  · have e : hi < lo := by split at e <;> simp_all
    refine AM.run2 hG 100 (by cbv) ?_ ?_
    · (simp only [sxs, sxb, and_self, and_true, true_and, implies_true, imp_self, bne_eq_false_iff_eq, Nat.zero_add, Nat.le_refl, Int.toNat_natCast, Int.ofNat_lt, Int.natCast_nonneg, decide_eq_true_eq, decide_eq_false_iff_not, bne_iff_ne, ne_eq]; try dsimp only [Kd.T, Kds.T, AK.T, AKs.T])
    refine AM.ret2 hG (by cbv) (by (simp only [sxs, sxb, and_self, and_true, true_and, implies_true, imp_self, bne_eq_false_iff_eq, Nat.zero_add, Nat.le_refl, Int.toNat_natCast, Int.ofNat_lt, Int.natCast_nonneg, decide_eq_true_eq, decide_eq_false_iff_not, bne_iff_ne, ne_eq]; try dsimp only [Kd.T, Kds.T, AK.T, AKs.T])) (hQ _ _ (FinRo.of (by cbv) (by cbv) ?_ ?_))
    · (simp only [sxs, sxb, and_self, and_true, true_and, implies_true, imp_self, bne_eq_false_iff_eq, Nat.zero_add, Nat.le_refl, Int.toNat_natCast, Int.ofNat_lt, Int.natCast_nonneg, decide_eq_true_eq, decide_eq_false_iff_not, bne_iff_ne, ne_eq]; try dsimp only [Kd.T, Kds.T, AK.T, AKs.T])
    try (simp only [sxs, sxb, and_self, and_true, true_and, implies_true, imp_self, bne_eq_false_iff_eq, Nat.zero_add, Nat.le_refl, Int.toNat_natCast, Int.ofNat_lt, Int.natCast_nonneg, decide_eq_true_eq, decide_eq_false_iff_not, bne_iff_ne, ne_eq]; try dsimp only [Kd.T, Kds.T, AK.T, AKs.T])
    rw [sumR, if_pos e]
    exact ⟨rfl, rfl⟩
  have e : ¬ hi < lo := by split at e <;> simp_all
  refine AM.run2 hG 100 (by cbv) ?_ ?_
  · (simp only [sxs, sxb, and_self, and_true, true_and, implies_true, imp_self, bne_eq_false_iff_eq, Nat.zero_add, Nat.le_refl, Int.toNat_natCast, Int.ofNat_lt, Int.natCast_nonneg, decide_eq_true_eq, decide_eq_false_iff_not, bne_iff_ne, ne_eq]; try dsimp only [Kd.T, Kds.T, AK.T, AKs.T])
    rw [wneg, w1, w4]
    exact ⟨ha, hb, sgn_in b, ⟨okN_canon a, okN_canon (-b), by omega, by omega⟩, hlo, hhi, okN_canon _, Nat.le_trans (canon_len8 (n := a + -b) ⟨by omega, by omega⟩) (by decide)⟩
  refine AM.ret2 hG (by cbv) (by (simp only [sxs, sxb, and_self, and_true, true_and, implies_true, imp_self, bne_eq_false_iff_eq, Nat.zero_add, Nat.le_refl, Int.toNat_natCast, Int.ofNat_lt, Int.natCast_nonneg, decide_eq_true_eq, decide_eq_false_iff_not, bne_iff_ne, ne_eq]; try dsimp only [Kd.T, Kds.T, AK.T, AKs.T])) (hQ _ _ (FinRo.of (by cbv) (by cbv) ?_ ?_))
  · (simp only [sxs, sxb, and_self, and_true, true_and, implies_true, imp_self, bne_eq_false_iff_eq, Nat.zero_add, Nat.le_refl, Int.toNat_natCast, Int.ofNat_lt, Int.natCast_nonneg, decide_eq_true_eq, decide_eq_false_iff_not, bne_iff_ne, ne_eq]; try dsimp only [Kd.T, Kds.T, AK.T, AKs.T])
  try (simp only [sxs, sxb, and_self, and_true, true_and, implies_true, imp_self, bne_eq_false_iff_eq, Nat.zero_add, Nat.le_refl, Int.toNat_natCast, Int.ofNat_lt, Int.natCast_nonneg, decide_eq_true_eq, decide_eq_false_iff_not, bne_iff_ne, ne_eq]; try dsimp only [Kd.T, Kds.T, AK.T, AKs.T])
  rw [sumR, if_neg e]
  have w3 : valN ((canonN (a + -b)).1, (canonN (a + -b)).2.1, PUnit.unit) = a + -b := valN_canon _
  rw [wneg, w1, w4, w3, Int.sub_eq_add_neg]
  exact ⟨rfl, rfl⟩
def S22 : List AV → Option FOut := sigSpec [WithinK, I64, I64] [I64, I64] (fun x : (Int × Int × Unit) × Int × Int × Unit => ((sumR x.1.1 x.1.2.1 (x.2.1 * x.2.2.1)).1, (sumR x.1.1 x.1.2.1 (x.2.1 * x.2.2.1)).2, ())) (fun x : (Int × Int × Unit) × Int × Int × Unit => inI x.1.1 ∧ inI x.1.2.1 ∧ inI x.2.1 ∧ inI x.2.2.1)
theorem fn22 : FnOk Try.prog 22 S22 := by
  refine fn_of (rs := [.tmp 6, .tmp 7]) (env [(18, S18), (40, S40), (43, S43), (46, S46)] ⟨fn18, fn40, fn43, fn46, trivial⟩) Try.func22 (by kernel_rfl) rfl rfl Try.ntmps22 ?_
  rintro ⟨⟨(lo : Int), (hi : Int), u⟩, (a : Int), (b : Int), u2⟩ ⟨hlo, hhi, ha, hb⟩ G hG hQ
  simp only at hlo hhi ha hb
  have ha' := ha
  have hb' := hb
  unfold inI at ha' hb'
  have l1 := canon_len (n := a) ⟨by omega, by omega⟩
  have l2 := canon_len (n := b) ⟨by omega, by omega⟩
  have w1 : valN ((canonN a).1, (canonN a).2.1, PUnit.unit) = a := valN_canon a
  have w2 : valN ((canonN b).1, (canonN b).2.1, PUnit.unit) = b := valN_canon b
  refine AM.run2 hG 100 (by cbv) ?_ ?_
  · (simp only [sxs, sxb, and_self, and_true, true_and, implies_true, imp_self, bne_eq_false_iff_eq, Nat.zero_add, Nat.le_refl, Int.toNat_natCast, Int.ofNat_lt, Int.natCast_nonneg, decide_eq_true_eq, decide_eq_false_iff_not, bne_iff_ne, ne_eq]; try dsimp only [Kd.T, Kds.T, AK.T, AKs.T])
  refine AM.case 10 rfl (fun e => ?_) (fun e => ?_) <;> (simp only [sxs, sxb, and_self, and_true, true_and, implies_true, imp_self, bne_eq_false_iff_eq, Nat.zero_add, Nat.le_refl, Int.toNat_natCast, Int.ofNat_lt, Int.natCast_nonneg, decide_eq_true_eq, decide_eq_false_iff_not, bne_iff_ne, ne_eq] at e; try dsimp only [Kd.T, Kds.T, AK.T, AKs.T] at e)
  · have e : hi < lo := by split at e <;> simp_all
    refine AM.run2 hG 100 (by cbv) ?_ ?_
    · (simp only [sxs, sxb, and_self, and_true, true_and, implies_true, imp_self, bne_eq_false_iff_eq, Nat.zero_add, Nat.le_refl, Int.toNat_natCast, Int.ofNat_lt, Int.natCast_nonneg, decide_eq_true_eq, decide_eq_false_iff_not, bne_iff_ne, ne_eq]; try dsimp only [Kd.T, Kds.T, AK.T, AKs.T])
    refine AM.ret2 hG (by cbv) (by (simp only [sxs, sxb, and_self, and_true, true_and, implies_true, imp_self, bne_eq_false_iff_eq, Nat.zero_add, Nat.le_refl, Int.toNat_natCast, Int.ofNat_lt, Int.natCast_nonneg, decide_eq_true_eq, decide_eq_false_iff_not, bne_iff_ne, ne_eq]; try dsimp only [Kd.T, Kds.T, AK.T, AKs.T])) (hQ _ _ (FinRo.of (by cbv) (by cbv) ?_ ?_))
    · (simp only [sxs, sxb, and_self, and_true, true_and, implies_true, imp_self, bne_eq_false_iff_eq, Nat.zero_add, Nat.le_refl, Int.toNat_natCast, Int.ofNat_lt, Int.natCast_nonneg, decide_eq_true_eq, decide_eq_false_iff_not, bne_iff_ne, ne_eq]; try dsimp only [Kd.T, Kds.T, AK.T, AKs.T])
    try (simp only [sxs, sxb, and_self, and_true, true_and, implies_true, imp_self, bne_eq_false_iff_eq, Nat.zero_add, Nat.le_refl, Int.toNat_natCast, Int.ofNat_lt, Int.natCast_nonneg, decide_eq_true_eq, decide_eq_false_iff_not, bne_iff_ne, ne_eq]; try dsimp only [Kd.T, Kds.T, AK.T, AKs.T])
    rw [sumR, if_pos e]
    exact ⟨rfl, rfl⟩
  have e : ¬ hi < lo := by split at e <;> simp_all
  refine AM.run2 hG 100 (by cbv) ?_ ?_
  · (simp only [sxs, sxb, and_self, and_true, true_and, implies_true, imp_self, bne_eq_false_iff_eq, Nat.zero_add, Nat.le_refl, Int.toNat_natCast, Int.ofNat_lt, Int.natCast_nonneg, decide_eq_true_eq, decide_eq_false_iff_not, bne_iff_ne, ne_eq]; try dsimp only [Kd.T, Kds.T, AK.T, AKs.T])
    rw [w1, w2]
    exact ⟨ha, hb, ⟨okN_canon a, okN_canon b, by omega, by omega⟩, hlo, hhi, okN_canon _, Nat.le_trans (canon_len8 (n := a * b) (mul_bound ha hb)) (by decide)⟩
  refine AM.ret2 hG (by cbv) (by (simp only [sxs, sxb, and_self, and_true, true_and, implies_true, imp_self, bne_eq_false_iff_eq, Nat.zero_add, Nat.le_refl, Int.toNat_natCast, Int.ofNat_lt, Int.natCast_nonneg, decide_eq_true_eq, decide_eq_false_iff_not, bne_iff_ne, ne_eq]; try dsimp only [Kd.T, Kds.T, AK.T, AKs.T])) (hQ _ _ (FinRo.of (by cbv) (by cbv) ?_ ?_))
  · (simp only [sxs, sxb, and_self, and_true, true_and, implies_true, imp_self, bne_eq_false_iff_eq, Nat.zero_add, Nat.le_refl, Int.toNat_natCast, Int.ofNat_lt, Int.natCast_nonneg, decide_eq_true_eq, decide_eq_false_iff_not, bne_iff_ne, ne_eq]; try dsimp only [Kd.T, Kds.T, AK.T, AKs.T])
  try (simp only [sxs, sxb, and_self, and_true, true_and, implies_true, imp_self, bne_eq_false_iff_eq, Nat.zero_add, Nat.le_refl, Int.toNat_natCast, Int.ofNat_lt, Int.natCast_nonneg, decide_eq_true_eq, decide_eq_false_iff_not, bne_iff_ne, ne_eq]; try dsimp only [Kd.T, Kds.T, AK.T, AKs.T])
  rw [sumR, if_neg e]
  have w3 : valN ((canonN (a * b)).1, (canonN (a * b)).2.1, PUnit.unit) = a * b := valN_canon _
  rw [w1, w2, w3]
  exact ⟨rfl, rfl⟩
set_option maxHeartbeats 8000000 in
theorem law4 : FnOk Try.prog 4 (sigSpec [WithinK, I64, I64] [.bool] (fun _ => (true, ())) (Kds.wf [WithinK, I64, I64])) := by
  refine fn_of (rs := [.tmp 6]) (env [(14, S14), (15, S15), (16, S16), (17, S17), (18, S18), (19, S19), (20, S20), (21, S21), (22, S22), (23, S23), (24, S24)]
    ⟨fn14, fn15, fn16, fn17, fn18, fn19, fn20, fn21, fn22, fn23, fn24, trivial⟩) Try.func4 (by kernel_rfl) rfl rfl Try.ntmps4 ?_
  rintro ⟨⟨(lo : Int), (hi : Int), u1⟩, (a : Int), (b : Int), u⟩ ⟨⟨hlo, hhi, _⟩, ha, hb, _⟩ G hG hQ
  replace ha : inI a := wfI ha
  replace hb : inI b := wfI hb
  replace hlo : inI lo := wfI hlo
  replace hhi : inI hi := wfI hhi
  refine AM.run2 hG 300 (by cbv) ?_ ?_
  · (simp only [sxs, sxb, and_self, and_true, true_and, implies_true, imp_self, bne_eq_false_iff_eq, Nat.zero_add, Nat.le_refl, Int.toNat_natCast, Int.ofNat_lt, Int.natCast_nonneg, decide_eq_true_eq, decide_eq_false_iff_not, bne_iff_ne, ne_eq]; try dsimp only [Kd.T, Kds.T, AK.T, AKs.T])
    exact ⟨⟨hlo, hhi, ha, hb⟩, ha, hb⟩
  refine AM.case 43 rfl (fun h => ?_) (fun h => ?_) <;> (simp only [sxs, sxb, and_self, and_true, true_and, implies_true, imp_self, bne_eq_false_iff_eq, Nat.zero_add, Nat.le_refl, Int.toNat_natCast, Int.ofNat_lt, Int.natCast_nonneg, decide_eq_true_eq, decide_eq_false_iff_not, bne_iff_ne, ne_eq] at h; try dsimp only [Kd.T, Kds.T, AK.T, AKs.T] at h)
  · exfalso
    simp at h
  refine AM.run2 hG 300 (by cbv) ?_ ?_
  · (simp only [sxs, sxb, and_self, and_true, true_and, implies_true, imp_self, bne_eq_false_iff_eq, Nat.zero_add, Nat.le_refl, Int.toNat_natCast, Int.ofNat_lt, Int.natCast_nonneg, decide_eq_true_eq, decide_eq_false_iff_not, bne_iff_ne, ne_eq]; try dsimp only [Kd.T, Kds.T, AK.T, AKs.T])
    exact ⟨⟨hlo, hhi, ha, hb⟩, ha, hb⟩
  refine AM.case 65 rfl (fun h => ?_) (fun h => ?_) <;> (simp only [sxs, sxb, and_self, and_true, true_and, implies_true, imp_self, bne_eq_false_iff_eq, Nat.zero_add, Nat.le_refl, Int.toNat_natCast, Int.ofNat_lt, Int.natCast_nonneg, decide_eq_true_eq, decide_eq_false_iff_not, bne_iff_ne, ne_eq] at h; try dsimp only [Kd.T, Kds.T, AK.T, AKs.T] at h)
  · exfalso
    simp at h
  refine AM.run2 hG 300 (by cbv) ?_ ?_
  · (simp only [sxs, sxb, and_self, and_true, true_and, implies_true, imp_self, bne_eq_false_iff_eq, Nat.zero_add, Nat.le_refl, Int.toNat_natCast, Int.ofNat_lt, Int.natCast_nonneg, decide_eq_true_eq, decide_eq_false_iff_not, bne_iff_ne, ne_eq]; try dsimp only [Kd.T, Kds.T, AK.T, AKs.T])
    exact ⟨⟨hlo, hhi, ha, hb⟩, ha, hb⟩
  refine AM.ret2 hG (by cbv) (by (simp only [sxs, sxb, and_self, and_true, true_and, implies_true, imp_self, bne_eq_false_iff_eq, Nat.zero_add, Nat.le_refl, Int.toNat_natCast, Int.ofNat_lt, Int.natCast_nonneg, decide_eq_true_eq, decide_eq_false_iff_not, bne_iff_ne, ne_eq]; try dsimp only [Kd.T, Kds.T, AK.T, AKs.T])) (hQ _ _ (FinRo.of (by cbv) (by cbv) ?_ ?_))
  · (simp only [sxs, sxb, and_self, and_true, true_and, implies_true, imp_self, bne_eq_false_iff_eq, Nat.zero_add, Nat.le_refl, Int.toNat_natCast, Int.ofNat_lt, Int.natCast_nonneg, decide_eq_true_eq, decide_eq_false_iff_not, bne_iff_ne, ne_eq]; try dsimp only [Kd.T, Kds.T, AK.T, AKs.T])
  try (simp only [sxs, sxb, and_self, and_true, true_and, implies_true, imp_self, bne_eq_false_iff_eq, Nat.zero_add, Nat.le_refl, Int.toNat_natCast, Int.ofNat_lt, Int.natCast_nonneg, decide_eq_true_eq, decide_eq_false_iff_not, bne_iff_ne, ne_eq]; try dsimp only [Kd.T, Kds.T, AK.T, AKs.T])
end Go.Sx.Ytpfdknpbiambnaa
