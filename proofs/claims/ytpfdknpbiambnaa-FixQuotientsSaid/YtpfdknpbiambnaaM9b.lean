/- Long division, plain: the divisor made big. -/
import Derived.Test.YtpfdknpbiambnaaM9a
namespace Go.Sx.Ytpfdknpbiambnaa
open Go Go.Sx Go.Proofs
set_option linter.unusedVariables false
set_option linter.unusedSimpArgs false
set_option maxRecDepth 100000

theorem or_add {a b s : Nat} (hb : b < 2 ^ s) : (a * 2 ^ s) ||| b = a * 2 ^ s + b := by
  rw [Nat.mul_comm]
  exact (Nat.two_pow_add_eq_or_of_lt hb a).symm
theorem or_int {x y : Int} {s : Nat} (a : Int) (hx : x = a * 2 ^ s) (h0 : 0 ≤ x ∧ x < 18446744073709551616) (ha : 0 ≤ a) (hy : 0 ≤ y ∧ y < 2 ^ s) (hy2 : y < 18446744073709551616) (hs : x + y < 18446744073709551616) :
    (((BitVec.ofInt 64 x ||| BitVec.ofInt 64 y).toNat : Nat) : Int) = x + y := by
  obtain ⟨A, rfl⟩ := Int.eq_ofNat_of_zero_le ha
  obtain ⟨Y, rfl⟩ := Int.eq_ofNat_of_zero_le hy.1
  have hx' : x = ((A * 2 ^ s : Nat) : Int) := by rw [hx]; simp
  obtain ⟨X, hX⟩ : ∃ X : Nat, X = A * 2 ^ s := ⟨_, rfl⟩
  rw [← hX] at hx'
  subst hx'
  have hY : Y < 2 ^ s := by
    have := hy.2
    have e : ((2 ^ s : Nat) : Int) = (2 : Int) ^ s := by simp
    omega
  rw [BitVec.toNat_or, BitVec.toNat_ofInt, BitVec.toNat_ofInt]
  have e1 : ((X : Int) % ((2 ^ 64 : Nat) : Int)).toNat = X := by
    rw [Int.emod_eq_of_lt (by omega) (by omega)]; rfl
  have e2 : ((Y : Int) % ((2 ^ 64 : Nat) : Int)).toNat = Y := by
    rw [Int.emod_eq_of_lt (by omega) (by omega)]; rfl
  rw [e1, e2, hX, or_add hY]
  simp
theorem ws {s : Nat} (h : s ≤ 64) : min (IntKind.u64.wrap (s : Int)).toNat IntKind.u64.bits = s := by
  have e : IntKind.u64.bits = 64 := rfl
  rw [uw, e, Int.emod_eq_of_lt (by omega) (by omega)]
  omega
theorem shl_top {y : Int} {k s : Nat} (hk : k ≤ 63) (hs : s = 63 - k) (h1 : (2 : Int) ^ k ≤ y) (h2 : y < 2 * 2 ^ k) : 9223372036854775808 ≤ y * 2 ^ s ∧ y * 2 ^ s < 18446744073709551616 := by
  have e : (2 : Int) ^ k * 2 ^ s = 9223372036854775808 := by
    rw [← Int.pow_add, show k + s = 63 by omega]
    rfl
  have hp : (0 : Int) < 2 ^ s := Int.pow_pos (by decide)
  have h3 := Int.mul_le_mul_of_nonneg_right h1 (Int.le_of_lt hp)
  have h4 := Int.mul_lt_mul_of_pos_right h2 hp
  rw [Int.mul_assoc] at h4
  rw [e] at h3 h4
  omega
theorem div_norm {hi lo y : Int} {k s : Nat} (hk : k ≤ 63) (hs : s = 63 - k) (h1 : (2 : Int) ^ k ≤ y) (h2 : y < 2 * 2 ^ k) (hh : 0 ≤ hi ∧ hi < y) (hl : inU lo) :
    ∃ Y y1 y0 U L u1 u0 : Int, IntKind.u64.wrap (y * 2 ^ s) = Y ∧ Y / 4294967296 = y1 ∧ Y % 4294967296 = y0 ∧ bitsI .or .u64 (IntKind.u64.wrap (hi * 2 ^ s)) (lo.fdiv (2 ^ (64 - s))) = U ∧ IntKind.u64.wrap (lo * 2 ^ s) = L ∧ L / 4294967296 = u1 ∧ L % 4294967296 = u0 ∧
      Y = y * 2 ^ s ∧ Y = y1 * 4294967296 + y0 ∧ (2147483648 ≤ y1 ∧ y1 < 4294967296) ∧ (0 ≤ y0 ∧ y0 < 4294967296) ∧ (0 ≤ U ∧ U < Y) ∧ (0 ≤ u1 ∧ u1 < 4294967296) ∧ (0 ≤ u0 ∧ u0 < 4294967296) ∧ inU Y ∧ inU L ∧
      (hi * 18446744073709551616 + lo) * 2 ^ s = U * 18446744073709551616 + u1 * 4294967296 + u0 := by
  have ht := shl_top hk hs h1 h2
  have hl' := hl
  unfold inU at hl'
  obtain ⟨P, hP⟩ : ∃ P : Int, P = 2 ^ s := ⟨_, rfl⟩
  obtain ⟨D, hD⟩ : ∃ D : Int, D = 2 ^ (64 - s) := ⟨_, rfl⟩
  have hP0 : 0 < P := by rw [hP]; exact Int.pow_pos (by decide)
  have hD0 : 0 < D := by rw [hD]; exact Int.pow_pos (by decide)
  have hPD : P * D = 18446744073709551616 := by
    rw [hP, hD, ← Int.pow_add, show s + (64 - s) = 64 by omega]
    rfl
  have hb0 : 0 ≤ lo / D := Int.ediv_nonneg hl'.1 (Int.le_of_lt hD0)
  have hb1 : lo / D < P := Int.ediv_lt_of_lt_mul hD0 (by rw [hPD]; exact hl'.2)
  have hm0 := Int.emod_nonneg lo (Int.ne_of_gt hD0)
  have hm1 := Int.emod_lt_of_pos lo hD0
  have hdm := Int.ediv_mul_add_emod lo D
  have hhP : (hi + 1) * P ≤ y * P := Int.mul_le_mul_of_nonneg_right (by omega) (Int.le_of_lt hP0)
  rw [Int.add_mul, Int.one_mul] at hhP
  have hhP0 : 0 ≤ hi * P := Int.mul_nonneg hh.1 (Int.le_of_lt hP0)
  have hmP0 : 0 ≤ lo % D * P := Int.mul_nonneg hm0 (Int.le_of_lt hP0)
  have hmP1 : (lo % D + 1) * P ≤ D * P := Int.mul_le_mul_of_nonneg_right (by omega) (Int.le_of_lt hP0)
  rw [Int.add_mul, Int.one_mul, Int.mul_comm D P, hPD] at hmP1
  have hloP : lo * P = lo / D * 18446744073709551616 + lo % D * P := by
    have e : lo * P = (lo / D * D + lo % D) * P := by rw [hdm]
    rw [e, Int.add_mul, Int.mul_assoc, Int.mul_comm D P, hPD]
  rw [← hP] at ht ⊢
  rw [← hD]
  have eo := or_int (x := hi * P) (y := lo / D) (s := s) hi (by rw [hP]) ⟨hhP0, by omega⟩ hh.1 ⟨hb0, by rw [← hP]; exact hb1⟩ (by omega) (by omega)
  have e1 : IntKind.u64.wrap (y * P) = y * P := by rw [uw, Int.emod_eq_of_lt (by omega) (by omega)]
  have e2 : IntKind.u64.wrap (hi * P) = hi * P := by rw [uw, Int.emod_eq_of_lt (by omega) (by omega)]
  have e3 : IntKind.u64.wrap (lo * P) = lo % D * P := by rw [uw, hloP]; omega
  have e4 : lo.fdiv D = lo / D := Int.fdiv_eq_ediv_of_nonneg _ (Int.le_of_lt hD0)
  have e5 : bitsI .or .u64 (hi * P) (lo / D) = hi * P + lo / D := by
    have : bitsI .or .u64 (hi * P) (lo / D) = IntKind.u64.wrap (((BitVec.ofInt 64 (hi * P) ||| BitVec.ofInt 64 (lo / D)).toNat : Nat) : Int) := rfl
    rw [this, eo, uw, Int.emod_eq_of_lt (by omega) (by omega)]
  have e6 : (hi * 18446744073709551616 + lo) * P = hi * P * 18446744073709551616 + lo * P := by
    rw [Int.add_mul, Int.mul_assoc, Int.mul_comm 18446744073709551616 P, ← Int.mul_assoc]
  refine ⟨y * P, y * P / 4294967296, y * P % 4294967296, hi * P + lo / D, lo % D * P, lo % D * P / 4294967296, lo % D * P % 4294967296, e1, rfl, rfl, by rw [e2, e4, e5], e3, rfl, rfl, rfl, ?_⟩
  rw [e6, hloP]
  simp only [inU]
  obtain ⟨yP, hyP⟩ : ∃ z, z = y * P := ⟨_, rfl⟩
  obtain ⟨hiP, hhiP⟩ : ∃ z, z = hi * P := ⟨_, rfl⟩
  obtain ⟨mP, hmP⟩ : ∃ z, z = lo % D * P := ⟨_, rfl⟩
  rw [← hyP] at ht hhP ⊢
  rw [← hhiP] at hhP hhP0 ⊢
  rw [← hmP] at hmP0 hmP1 ⊢
  clear e1 e2 e3 e4 e5 e6 eo hloP hdm
  refine ⟨?_, ⟨?_, ?_⟩, ⟨?_, ?_⟩, ⟨?_, ?_⟩, ⟨?_, ?_⟩, ⟨?_, ?_⟩, ⟨?_, ?_⟩, ⟨?_, ?_⟩, ?_⟩ <;> omega
theorem wz {z : Int} (h : 0 ≤ z ∧ z < 18446744073709551616) : IntKind.u64.wrap z = z := by rw [uw, Int.emod_eq_of_lt h.1 h.2]
theorem div_ok {Y y1 y0 U u q r Q : Int} (hY : Y = y1 * 4294967296 + y0) (hy1 : 2147483648 ≤ y1 ∧ y1 < 4294967296) (hy0 : 0 ≤ y0 ∧ y0 < 4294967296) (hU : 0 ≤ U ∧ U < Y) (hu : 0 ≤ u ∧ u < 4294967296)
    (hq : q * y1 + r = U) (hQ : Q = (U * 4294967296 + u) / Y) (hr : 0 ≤ r) (hr2 : r < 4294967296) (hq0 : 0 ≤ q) (c1 : ¬ 4294967296 ≤ q) (c2 : ¬ IntKind.u64.wrap (IntKind.u64.wrap (4294967296 * r) + u) < IntKind.u64.wrap (q * y0)) : q ≤ Q := by
  have hz := prod_le (a := q) (b := y0) ⟨hq0, by omega⟩ hy0
  rw [div_cond hY hy1 hy0 hU hu hq hQ hr]
  rw [wz (z := q * y0) ⟨hz.1, by omega⟩, wz (z := 4294967296 * r) ⟨by omega, by omega⟩, wz ⟨by omega, by omega⟩] at c2
  omega
theorem div_more {Y y1 y0 U u q r Q : Int} (hY : Y = y1 * 4294967296 + y0) (hy1 : 2147483648 ≤ y1 ∧ y1 < 4294967296) (hy0 : 0 ≤ y0 ∧ y0 < 4294967296) (hU : 0 ≤ U ∧ U < Y) (hu : 0 ≤ u ∧ u < 4294967296)
    (hq : q * y1 + r = U) (hQ : Q = (U * 4294967296 + u) / Y) (hr : 0 ≤ r) (hr2 : r < 4294967296) (hq0 : 0 ≤ q) (c : 4294967296 ≤ q ∨ IntKind.u64.wrap (IntKind.u64.wrap (4294967296 * r) + u) < IntKind.u64.wrap (q * y0)) : Q < q := by
  have hl := (div_lt hU hu).1
  rw [← hQ] at hl
  by_cases e : 4294967296 ≤ q
  · omega
  · have hz := prod_le (a := q) (b := y0) ⟨hq0, by omega⟩ hy0
    have c2 := c.resolve_left e
    have hc := div_cond hY hy1 hy0 hU hu hq hQ hr
    rw [wz (z := q * y0) ⟨hz.1, by omega⟩, wz (z := 4294967296 * r) ⟨by omega, by omega⟩, wz ⟨by omega, by omega⟩] at c2
    have : ¬ q ≤ Q := by rw [hc]; omega
    omega
theorem div_first {y1 U : Int} (hy1 : 2147483648 ≤ y1 ∧ y1 < 4294967296) (hU : 0 ≤ U ∧ U < 18446744073709551616) (s3 : 0 ≤ U / y1) (s4 : U / y1 ≤ 4294967297) (s1 : U / y1 * y1 + U % y1 = U) (s2 : 0 ≤ U % y1) : IntKind.u64.wrap (U / y1) = U / y1 ∧ IntKind.u64.wrap (U - IntKind.u64.wrap (U / y1 * y1)) = U % y1 := by
  have h0 : 0 ≤ U / y1 * y1 := Int.mul_nonneg s3 (by omega)
  rw [wz (z := U / y1) ⟨s3, by omega⟩, wz (z := U / y1 * y1) ⟨h0, by omega⟩, wz (z := U - U / y1 * y1) ⟨by omega, by omega⟩]
  exact ⟨rfl, by omega⟩
theorem div_rest {U u z R : Int} (hR : R = U * 4294967296 + u - z) (hb : 0 ≤ R ∧ R < 18446744073709551616) : IntKind.u64.wrap (IntKind.u64.wrap (IntKind.u64.wrap (U * 4294967296) + u) - IntKind.u64.wrap z) = R := by
  simp only [uw]
  omega
/-- A loop with several ways out to one place. -/
theorem AM.loopE {G : Gl} {ι κ : Type} (C : ι → List AV × List Blk) (I : ι → Prop) (μ : ι → Nat) (E : κ → List AV × List Blk) (J : κ → Prop) {b : Code} {k k' : List It} {fr : List AV} {h : List Blk} (i : ι) (hi : I i)
    (hf : imps fr (C i).1) (hh : himps h (C i).2)
    (round : (∀ e, J e → AM G ⟨(E e).1, (E e).2, k'⟩) → ∀ i, I i → (∀ j, I j → μ j < μ i → AM G ⟨(C j).1, (C j).2, .lq b :: k⟩) → AM G ⟨(C i).1, (C i).2, .code b :: .lq b :: k⟩)
    (after : ∀ e, J e → AM G ⟨(E e).1, (E e).2, k'⟩) : AM G ⟨fr, h, .code (.loop b) :: k⟩ :=
  AM.loopI C I μ i hi hf hh (round after)
/-- The long division's last numbers. -/
theorem div_last {P y N Y U u1 u0 : Int} (hP : 0 < P) (hy : 0 < y) (hY : Y = y * P) (hN : N * P = U * 18446744073709551616 + u1 * 4294967296 + u0) (hU : 0 ≤ U ∧ U < Y) (hu1 : 0 ≤ u1 ∧ u1 < 4294967296) (hu0 : 0 ≤ u0 ∧ u0 < 4294967296) :
    ∃ Q1 R1 Q0 R0 : Int, Q1 = (U * 4294967296 + u1) / Y ∧ R1 = (U * 4294967296 + u1) - Q1 * Y ∧ (0 ≤ R1 ∧ R1 < Y) ∧ Q0 = (R1 * 4294967296 + u0) / Y ∧ R0 = R1 * 4294967296 + u0 - Q0 * Y ∧ (0 ≤ R0 ∧ R0 < Y) ∧ (0 ≤ Q1 ∧ Q1 < 4294967296) ∧ (0 ≤ Q0 ∧ Q0 < 4294967296) ∧ N / y = Q1 * 4294967296 + Q0 ∧ N % y = R0 / P := by
  have hYp : 0 < Y := by omega
  have a1 := Int.ediv_mul_add_emod (U * 4294967296 + u1) Y
  have a2 := Int.emod_nonneg (U * 4294967296 + u1) (Int.ne_of_gt hYp)
  have a3 := Int.emod_lt_of_pos (U * 4294967296 + u1) hYp
  obtain ⟨b1, b2⟩ := div_lt hU hu1
  obtain ⟨Q1, hQ1⟩ : ∃ z, z = (U * 4294967296 + u1) / Y := ⟨_, rfl⟩
  obtain ⟨R1, hR1⟩ : ∃ z, z = (U * 4294967296 + u1) % Y := ⟨_, rfl⟩
  rw [← hQ1] at a1 b1 b2
  rw [← hR1] at a1 a2 a3
  have c1 := Int.ediv_mul_add_emod (R1 * 4294967296 + u0) Y
  have c2 := Int.emod_nonneg (R1 * 4294967296 + u0) (Int.ne_of_gt hYp)
  have c3 := Int.emod_lt_of_pos (R1 * 4294967296 + u0) hYp
  obtain ⟨d1, d2⟩ := div_lt ⟨a2, a3⟩ hu0
  obtain ⟨Q0, hQ0⟩ : ∃ z, z = (R1 * 4294967296 + u0) / Y := ⟨_, rfl⟩
  obtain ⟨R0, hR0⟩ : ∃ z, z = (R1 * 4294967296 + u0) % Y := ⟨_, rfl⟩
  rw [← hQ0] at c1 d1 d2
  rw [← hR0] at c1 c2 c3
  have hNP : N * P = (Q1 * 4294967296 + Q0) * y * P + R0 := by
    have e : (Q1 * 4294967296 + Q0) * y * P = Q1 * Y * 4294967296 + Q0 * Y := by
      rw [Int.mul_assoc, ← hY, Int.add_mul, Int.mul_assoc, Int.mul_comm 4294967296 Y, ← Int.mul_assoc]
    rw [hN, e]
    omega
  obtain ⟨q, hq⟩ : ∃ z, z = Q1 * 4294967296 + Q0 := ⟨_, rfl⟩
  rw [← hq] at hNP
  have hRP : R0 = (N - q * y) * P := by rw [Int.sub_mul]; omega
  have hdiv : R0 / P = N - q * y := by rw [hRP, Int.mul_ediv_cancel _ (Int.ne_of_gt hP)]
  have g1 : 0 ≤ N - q * y := by rw [← hdiv]; exact Int.ediv_nonneg c2 (Int.le_of_lt hP)
  have g2 : N - q * y < y := by rw [← hdiv]; exact Int.ediv_lt_of_lt_mul hP (by rw [← hY]; exact c3)
  refine ⟨Q1, R1, Q0, R0, hQ1, by omega, ⟨a2, a3⟩, hQ0, by omega, ⟨c2, c3⟩, ⟨b2, b1⟩, ⟨d2, d1⟩, ?_, ?_⟩
  · have e : N = (N - q * y) + q * y := by omega
    rw [e, Int.add_mul_ediv_right _ _ (Int.ne_of_gt hy), Int.ediv_eq_zero_of_lt g1 g2, Int.zero_add, hq]
  · rw [hdiv]
    have e : N = (N - q * y) + q * y := by omega
    rw [e, Int.add_mul_emod_self_right, Int.emod_eq_of_lt g1 g2]
    omega
end Go.Sx.Ytpfdknpbiambnaa
