/- bits.Mul64. -/
import Derived.Test.YtpfdknpbiambnaaM1
namespace Go.Sx.Ytpfdknpbiambnaa
open Go Go.Sx Go.Proofs
set_option linter.unusedVariables false
set_option linter.unusedSimpArgs false
set_option maxRecDepth 100000

theorem shr32 (n : Int) : n.fdiv (2 ^ min (Int.toNat 32) IntKind.u64.bits) = n / 4294967296 := by
  have e : (2 ^ min (Int.toNat 32) IntKind.u64.bits : Int) = 4294967296 := by rfl
  rw [e, Int.fdiv_eq_ediv_of_nonneg _ (by decide)]
theorem low32 {y : Int} (h : inU y) : bitsI BinOp.and IntKind.u64 y 4294967295 = y % 4294967296 := by
  obtain ⟨n, rfl⟩ := Int.eq_ofNat_of_zero_le h.1
  have hn : n < 18446744073709551616 := by have := h.2; omega
  have e : (BitVec.ofInt 64 (n : Int) &&& BitVec.ofInt 64 4294967295).toNat = n % 4294967296 := by
    rw [BitVec.toNat_and, BitVec.toNat_ofInt, BitVec.toNat_ofInt]
    have e1 : ((n : Int) % ((2 ^ 64 : Nat) : Int)).toNat = n := by
      rw [Int.emod_eq_of_lt (by omega) (by omega)]
      rfl
    have e2 : ((4294967295 : Int) % ((2 ^ 64 : Nat) : Int)).toNat = 2 ^ 32 - 1 := by rfl
    rw [e1, e2, Nat.and_two_pow_sub_one_eq_mod]
  have e3 : bitsI BinOp.and IntKind.u64 (n : Int) 4294967295 = IntKind.u64.wrap (((BitVec.ofInt 64 (n : Int) &&& BitVec.ofInt 64 4294967295).toNat : Nat) : Int) := rfl
  rw [e3, e, uw]
  omega
theorem mul_plain {P Q R S X : Int} (hP : 0 ≤ P ∧ P ≤ 18446744065119617025) (hQ : 0 ≤ Q ∧ Q ≤ 18446744065119617025) (hR : 0 ≤ R ∧ R ≤ 18446744065119617025) (hS : 0 ≤ S ∧ S ≤ 18446744065119617025)
    (hX : X = P * 18446744073709551616 + (Q + R) * 4294967296 + S) (hX2 : X / 18446744073709551616 < 18446744073709551616) :
    ((P % 18446744073709551616 + ((Q % 18446744073709551616 + S % 18446744073709551616 / 4294967296) % 18446744073709551616) / 4294967296) % 18446744073709551616 + ((((Q % 18446744073709551616 + S % 18446744073709551616 / 4294967296) % 18446744073709551616) % 4294967296 + R % 18446744073709551616) % 18446744073709551616) / 4294967296) % 18446744073709551616 = X / 18446744073709551616 := by
  rw [Int.emod_eq_of_lt hP.1 (by omega), Int.emod_eq_of_lt hQ.1 (by omega), Int.emod_eq_of_lt hR.1 (by omega), Int.emod_eq_of_lt hS.1 (by omega)]
  rw [Int.emod_eq_of_lt (a := Q + S / 4294967296) (by omega) (by omega)]
  obtain ⟨t, ht⟩ : ∃ t, t = Q + S / 4294967296 := ⟨_, rfl⟩
  rw [← ht]
  rw [Int.emod_eq_of_lt (a := t % 4294967296 + R) (by omega) (by omega)]
  have h1 : X / 18446744073709551616 = P + t / 4294967296 + (t % 4294967296 + R) / 4294967296 := by omega
  rw [h1] at hX2 ⊢
  rw [Int.emod_eq_of_lt (a := P + t / 4294967296) (by omega) (by omega), Int.emod_eq_of_lt (by omega) hX2]
theorem mul_split (a b c d : Int) : (a * 4294967296 + b) * (c * 4294967296 + d) = a * c * 18446744073709551616 + (a * d + b * c) * 4294967296 + b * d := by
  have e1 : (a * 4294967296) * (c * 4294967296) = a * c * 18446744073709551616 := by
    rw [Int.mul_assoc, Int.mul_left_comm 4294967296 c 4294967296, ← Int.mul_assoc]
    rfl
  have e2 : (a * 4294967296) * d = a * d * 4294967296 := by rw [Int.mul_assoc, Int.mul_comm 4294967296 d, ← Int.mul_assoc]
  have e3 : b * (c * 4294967296) = b * c * 4294967296 := by rw [← Int.mul_assoc]
  rw [Int.add_mul, Int.mul_add, Int.mul_add, e1, e2, e3]
  omega
theorem prod_le {a b : Int} (ha : 0 ≤ a ∧ a < 4294967296) (hb : 0 ≤ b ∧ b < 4294967296) : 0 ≤ a * b ∧ a * b ≤ 18446744065119617025 :=
  ⟨Int.mul_nonneg ha.1 hb.1, Int.le_trans (Int.mul_le_mul (show a ≤ 4294967295 by omega) (show b ≤ 4294967295 by omega) hb.1 (by decide)) (by decide)⟩
def S52 : List AV → Option FOut := sigSpec [U64, U64] [U64, U64] (fun x : Int × Int × Unit => ((x.1 * x.2.1) / 18446744073709551616, (x.1 * x.2.1) % 18446744073709551616, ())) (fun x : Int × Int × Unit => inU x.1 ∧ inU x.2.1)
theorem fn52 : FnOk Try.prog 52 S52 := by
  refine fn_of (rs := [.tmp 4, .tmp 5]) (env [] trivial) Try.func52 (by kernel_rfl) rfl rfl Try.ntmps52 ?_
  rintro ⟨(x : Int), (y : Int), u⟩ ⟨(hx : inU x), (hy : inU y)⟩ G hG hQ
  refine AM.run2 hG 200 (by cbv) ?_ ?_
  · (simp only [sxs, sxb, and_self, and_true, true_and, implies_true, imp_self, bne_eq_false_iff_eq, Nat.zero_add, Nat.le_refl, Int.toNat_natCast, Int.ofNat_lt, Int.natCast_nonneg, decide_eq_true_eq, decide_eq_false_iff_not, bne_iff_ne, ne_eq]; try dsimp only [Kd.T, Kds.T, AK.T, AKs.T])
    decide
  refine AM.ret2 hG (by cbv) (by (simp only [sxs, sxb, and_self, and_true, true_and, implies_true, imp_self, bne_eq_false_iff_eq, Nat.zero_add, Nat.le_refl, Int.toNat_natCast, Int.ofNat_lt, Int.natCast_nonneg, decide_eq_true_eq, decide_eq_false_iff_not, bne_iff_ne, ne_eq]; try dsimp only [Kd.T, Kds.T, AK.T, AKs.T])) (hQ _ _ (FinRo.of (by cbv) (by cbv) ?_ ?_))
  · (simp only [sxs, sxb, and_self, and_true, true_and, implies_true, imp_self, bne_eq_false_iff_eq, Nat.zero_add, Nat.le_refl, Int.toNat_natCast, Int.ofNat_lt, Int.natCast_nonneg, decide_eq_true_eq, decide_eq_false_iff_not, bne_iff_ne, ne_eq]; try dsimp only [Kd.T, Kds.T, AK.T, AKs.T])
  try (simp only [sxs, sxb, and_self, and_true, true_and, implies_true, imp_self, bne_eq_false_iff_eq, Nat.zero_add, Nat.le_refl, Int.toNat_natCast, Int.ofNat_lt, Int.natCast_nonneg, decide_eq_true_eq, decide_eq_false_iff_not, bne_iff_ne, ne_eq]; try dsimp only [Kd.T, Kds.T, AK.T, AKs.T])
  refine ⟨?_, uw _⟩
  have hlt : ∀ n : Int, inU (n % 18446744073709551616) := fun n => by unfold inU; omega
  simp only [shr32, uw]
  rw [low32 hx, low32 hy, low32 (hlt _)]
  have hx' := hx
  have hy' := hy
  unfold inU at hx' hy'
  obtain ⟨a, ha⟩ : ∃ a, a = x / 4294967296 := ⟨_, rfl⟩
  obtain ⟨b, hb⟩ : ∃ b, b = x % 4294967296 := ⟨_, rfl⟩
  obtain ⟨c, hc⟩ : ∃ c, c = y / 4294967296 := ⟨_, rfl⟩
  obtain ⟨d, hd⟩ : ∃ d, d = y % 4294967296 := ⟨_, rfl⟩
  rw [← ha, ← hb, ← hc, ← hd]
  have ha' : 0 ≤ a ∧ a < 4294967296 := by omega
  have hb' : 0 ≤ b ∧ b < 4294967296 := by omega
  have hc' : 0 ≤ c ∧ c < 4294967296 := by omega
  have hd' : 0 ≤ d ∧ d < 4294967296 := by omega
  refine mul_plain (prod_le ha' hc') (prod_le ha' hd') (prod_le hb' hc') (prod_le hb' hd') ?_ ?_
  · have e1 : x = a * 4294967296 + b := by omega
    have e2 : y = c * 4294967296 + d := by omega
    rw [e1, e2]
    exact mul_split a b c d
  · apply Int.ediv_lt_of_lt_mul (by decide)
    have := Int.mul_le_mul (show x ≤ 18446744073709551615 by omega) (show y ≤ 18446744073709551615 by omega) hy'.1 (by decide)
    omega
end Go.Sx.Ytpfdknpbiambnaa
