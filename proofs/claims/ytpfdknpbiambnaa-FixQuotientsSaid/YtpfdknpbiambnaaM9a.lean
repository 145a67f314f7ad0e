/- Long division, plain: a step's trial quotient. -/
import Derived.Test.YtpfdknpbiambnaaM8
namespace Go.Sx.Ytpfdknpbiambnaa
open Go Go.Sx Go.Proofs
set_option linter.unusedVariables false
set_option linter.unusedSimpArgs false
/-- One step of the long division: the trial quotient is too large just if .. -/
theorem div_cond {Y y1 y0 U u q r Q : Int} (hY : Y = y1 * 4294967296 + y0) (hy1 : 2147483648 ≤ y1 ∧ y1 < 4294967296) (hy0 : 0 ≤ y0 ∧ y0 < 4294967296) (hU : 0 ≤ U ∧ U < Y) (hu : 0 ≤ u ∧ u < 4294967296)
    (hq : q * y1 + r = U) (hQ : Q = (U * 4294967296 + u) / Y) (hr : 0 ≤ r) : (q ≤ Q ↔ q * y0 ≤ 4294967296 * r + u) := by
  have hYp : 0 < Y := by omega
  rw [hQ, Int.le_ediv_iff_mul_le hYp]
  have e : q * Y = q * y1 * 4294967296 + q * y0 := by rw [hY, Int.mul_add, ← Int.mul_assoc]
  rw [e]
  obtain ⟨p, hp⟩ : ∃ p, p = q * y1 := ⟨_, rfl⟩
  obtain ⟨z, hz⟩ : ∃ z, z = q * y0 := ⟨_, rfl⟩
  rw [← hp] at hq ⊢
  rw [← hz]
  omega
theorem div_lt {Y U u : Int} (hU : 0 ≤ U ∧ U < Y) (hu : 0 ≤ u ∧ u < 4294967296) : (U * 4294967296 + u) / Y < 4294967296 ∧ 0 ≤ (U * 4294967296 + u) / Y := by
  refine ⟨Int.ediv_lt_of_lt_mul (by omega) (by omega), Int.ediv_nonneg (by omega) (by omega)⟩
theorem div_start {Y y1 y0 U u : Int} (hY : Y = y1 * 4294967296 + y0) (hy1 : 2147483648 ≤ y1 ∧ y1 < 4294967296) (hy0 : 0 ≤ y0 ∧ y0 < 4294967296) (hU : 0 ≤ U ∧ U < Y) (hu : 0 ≤ u ∧ u < 4294967296) :
    (U / y1) * y1 + U % y1 = U ∧ 0 ≤ U % y1 ∧ U % y1 < 4294967296 ∧ 0 ≤ U / y1 ∧ U / y1 ≤ 4294967297 ∧ (U * 4294967296 + u) / Y ≤ U / y1 := by
  have h1 := Int.ediv_mul_add_emod U y1
  have h2 := Int.emod_nonneg U (show y1 ≠ 0 by omega)
  have h3 := Int.emod_lt_of_pos U (show 0 < y1 by omega)
  have h4 := Int.ediv_nonneg hU.1 (show 0 ≤ y1 by omega)
  refine ⟨h1, h2, by omega, h4, ?_, ?_⟩
  · have : U / y1 < 4294967298 := Int.ediv_lt_of_lt_mul (by omega) (by omega)
    omega
  · obtain ⟨q, hq⟩ : ∃ q, q = U / y1 := ⟨_, rfl⟩
    rw [← hq] at h1 h4 ⊢
    have h5 : (U * 4294967296 + u) / Y < q + 1 := by
      refine Int.ediv_lt_of_lt_mul (by omega) ?_
      have e : (q + 1) * Y = (q * y1 + y1) * 4294967296 + (q + 1) * y0 := by rw [hY, Int.mul_add, ← Int.mul_assoc, Int.add_mul, Int.one_mul]
      have h6 : 0 ≤ (q + 1) * y0 := Int.mul_nonneg (by omega) hy0.1
      rw [e]
      omega
    omega
theorem div_break {Y y1 y0 U u q r Q : Int} (hY : Y = y1 * 4294967296 + y0) (hy1 : 2147483648 ≤ y1 ∧ y1 < 4294967296) (hy0 : 0 ≤ y0 ∧ y0 < 4294967296) (hU : 0 ≤ U ∧ U < Y) (hu : 0 ≤ u ∧ u < 4294967296)
    (hq : q * y1 + r = U) (hQ : Q = (U * 4294967296 + u) / Y) (hr : 4294967296 ≤ r) (hq2 : 0 ≤ q ∧ q ≤ 4294967296) : q ≤ Q := by
  rw [div_cond hY hy1 hy0 hU hu hq hQ (by omega)]
  have := Int.mul_le_mul hq2.2 (show y0 ≤ 4294967296 by omega) hy0.1 (by decide)
  omega
end Go.Sx.Ytpfdknpbiambnaa
