/- product. -/
import Derived.Test.YtpfdknpbiambnaaM6
namespace Go.Sx.Ytpfdknpbiambnaa
open Go Go.Sx Go.Proofs
set_option linter.unusedVariables false
set_option linter.unusedSimpArgs false
set_option maxRecDepth 100000

def prodW (a b : Int) : Wide := (!eqBo (decide (a < 0)) (decide (b < 0)), (magI a * magI b) / 18446744073709551616, (magI a * magI b) % 18446744073709551616, ())
def S41 : List AV → Option FOut := sigSpec [I64, I64] [WideK] (fun x : Int × Int × Unit => (prodW x.1 x.2.1, ())) (fun x : Int × Int × Unit => inI x.1 ∧ inI x.2.1)
theorem fn41 : FnOk Try.prog 41 S41 := by
  refine fn_of (rs := [.cell 4 57]) (env [(53, S53), (52, S52)] ⟨fn53, fn52, trivial⟩) Try.func41 (by kernel_rfl) rfl rfl Try.ntmps41 ?_
  rintro ⟨(a : Int), (b : Int), u⟩ ⟨(ha : inI a), (hb : inI b)⟩ G hG hQ
  have h1 := mag_in ha
  have h2 := mag_in hb
  refine AM.run2 hG 100 (by cbv) ?_ ?_
  · (simp only [sxs, sxb, and_self, and_true, true_and, implies_true, imp_self, bne_eq_false_iff_eq, Nat.zero_add, Nat.le_refl, Int.toNat_natCast, Int.ofNat_lt, Int.natCast_nonneg, decide_eq_true_eq, decide_eq_false_iff_not, bne_iff_ne, ne_eq]; try dsimp only [Kd.T, Kds.T, AK.T, AKs.T])
    first | exact ⟨ha, hb, h1.1, h2.1⟩ | exact ⟨⟨h1.1, h2.1⟩, ha, hb⟩ | exact ⟨⟨h1.1, h2.1⟩, hb, ha⟩ | exact ⟨h1.1, h2.1, ha, hb⟩ | trace_state
  refine AM.ret2 hG (by cbv) (by (simp only [sxs, sxb, and_self, and_true, true_and, implies_true, imp_self, bne_eq_false_iff_eq, Nat.zero_add, Nat.le_refl, Int.toNat_natCast, Int.ofNat_lt, Int.natCast_nonneg, decide_eq_true_eq, decide_eq_false_iff_not, bne_iff_ne, ne_eq]; try dsimp only [Kd.T, Kds.T, AK.T, AKs.T])) (hQ _ _ (FinRo.of (by cbv) (by cbv) ?_ ?_))
  · (simp only [sxs, sxb, and_self, and_true, true_and, implies_true, imp_self, bne_eq_false_iff_eq, Nat.zero_add, Nat.le_refl, Int.toNat_natCast, Int.ofNat_lt, Int.natCast_nonneg, decide_eq_true_eq, decide_eq_false_iff_not, bne_iff_ne, ne_eq]; try dsimp only [Kd.T, Kds.T, AK.T, AKs.T])
  try (simp only [sxs, sxb, and_self, and_true, true_and, implies_true, imp_self, bne_eq_false_iff_eq, Nat.zero_add, Nat.le_refl, Int.toNat_natCast, Int.ofNat_lt, Int.natCast_nonneg, decide_eq_true_eq, decide_eq_false_iff_not, bne_iff_ne, ne_eq]; try dsimp only [Kd.T, Kds.T, AK.T, AKs.T])
  exact ⟨rfl, rfl, rfl⟩
theorem prodW_in {a b : Int} (ha : inI a) (hb : inI b) : inW (prodW a b) := by
  have h1 := (mag_in ha).1
  have h2 := (mag_in hb).1
  unfold inU at h1 h2
  have h3 := Int.mul_nonneg h1.1 h2.1
  have h4 : magI a * magI b < 18446744073709551616 * 18446744073709551616 := by
    have := Int.mul_le_mul (show magI a ≤ 18446744073709551615 by omega) (show magI b ≤ 18446744073709551615 by omega) h2.1 (by decide)
    omega
  have h5 := Int.ediv_lt_of_lt_mul (by decide) h4
  simp only [inW, inU, prodW]
  exact ⟨⟨Int.ediv_nonneg h3 (by decide), h5⟩, by omega⟩
theorem prodW_val (a b : Int) : valW (prodW a b) = a * b := by
  have e : (magI a * magI b) / 18446744073709551616 * 18446744073709551616 + (magI a * magI b) % 18446744073709551616 = magI a * magI b := by omega
  simp only [valW, prodW]
  rw [e]
  unfold magI
  by_cases h1 : a < 0 <;> by_cases h2 : b < 0 <;> simp [h1, h2, eqBo, Int.neg_mul, Int.mul_neg]
end Go.Sx.Ytpfdknpbiambnaa
