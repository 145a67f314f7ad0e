/- Modes: valid, Check. -/
import Derived.Test.YtengkdmlnnehgaaSxE
namespace Go.Sx.Ytengkdmlnnehgaa
open Go Go.Sx Go.Proofs
set_option linter.unusedVariables false
set_option linter.unusedSimpArgs false
set_option maxRecDepth 100000

abbrev I64 : Kd := .int .i64
abbrev IntsK : Kd := .slice I64
abbrev ModesK : Kd := .struct [I64, .struct [IntsK, IntsK, IntsK]]
abbrev Modes := Int × (List Int × List Int × List Int × Unit) × Unit

def validS (n : Int) : Bool := decide (0 ≤ n) && decide (n ≤ 3)
def S40 : List AV → Option FOut := sigSpec [I64] [.bool] (fun x : Int × Unit => (validS x.1, ())) (fun _ => True)
theorem fn40 : FnOk Try.prog 40 S40 := by
  refine fn_of (rs := [.tmp 2]) (env [] trivial) Try.func40 (by kernel_rfl) rfl rfl Try.ntmps40 ?_
  rintro ⟨(m : Int), u⟩ _ G hG hQ
  refine AM.run2 hG 100 (by cbv) ?_ ?_
  · (simp only [sxs, sxb, and_self, and_true, true_and, implies_true, imp_self, bne_eq_false_iff_eq, Nat.zero_add, Nat.le_refl, Int.toNat_natCast, Int.ofNat_lt, Int.natCast_nonneg, decide_eq_true_eq, decide_eq_false_iff_not, bne_iff_ne, ne_eq]; try dsimp only [Kd.T, Kds.T])
  refine AM.ret2 hG (by cbv) (by (simp only [sxs, sxb, and_self, and_true, true_and, implies_true, imp_self, bne_eq_false_iff_eq, Nat.zero_add, Nat.le_refl, Int.toNat_natCast, Int.ofNat_lt, Int.natCast_nonneg, decide_eq_true_eq, decide_eq_false_iff_not, bne_iff_ne, ne_eq]; try dsimp only [Kd.T, Kds.T])) (hQ _ _ (FinRo.of (by cbv) (by cbv) ?_ ?_))
  · (simp only [sxs, sxb, and_self, and_true, true_and, implies_true, imp_self, bne_eq_false_iff_eq, Nat.zero_add, Nat.le_refl, Int.toNat_natCast, Int.ofNat_lt, Int.natCast_nonneg, decide_eq_true_eq, decide_eq_false_iff_not, bne_iff_ne, ne_eq, validS]; try dsimp only [Kd.T, Kds.T])
  try (simp only [sxs, sxb, and_self, and_true, true_and, implies_true, imp_self, bne_eq_false_iff_eq, Nat.zero_add, Nat.le_refl, Int.toNat_natCast, Int.ofNat_lt, Int.natCast_nonneg, decide_eq_true_eq, decide_eq_false_iff_not, bne_iff_ne, ne_eq, validS]; try dsimp only [Kd.T, Kds.T])
  by_cases h : 0 ≤ m <;> simp [h, leI]
def S41 : List AV → Option FOut := sigSpec [I64] [.bool] (fun x : Int × Unit => (validS x.1, ())) (fun _ => True)
theorem fn41 : FnOk Try.prog 41 S41 := by
  refine fn_of (rs := [.tmp 2]) (env [] trivial) Try.func41 (by kernel_rfl) rfl rfl Try.ntmps41 ?_
  rintro ⟨(m : Int), u⟩ _ G hG hQ
  refine AM.run2 hG 100 (by cbv) ?_ ?_
  · (simp only [sxs, sxb, and_self, and_true, true_and, implies_true, imp_self, bne_eq_false_iff_eq, Nat.zero_add, Nat.le_refl, Int.toNat_natCast, Int.ofNat_lt, Int.natCast_nonneg, decide_eq_true_eq, decide_eq_false_iff_not, bne_iff_ne, ne_eq]; try dsimp only [Kd.T, Kds.T])
  refine AM.ret2 hG (by cbv) (by (simp only [sxs, sxb, and_self, and_true, true_and, implies_true, imp_self, bne_eq_false_iff_eq, Nat.zero_add, Nat.le_refl, Int.toNat_natCast, Int.ofNat_lt, Int.natCast_nonneg, decide_eq_true_eq, decide_eq_false_iff_not, bne_iff_ne, ne_eq]; try dsimp only [Kd.T, Kds.T])) (hQ _ _ (FinRo.of (by cbv) (by cbv) ?_ ?_))
  · (simp only [sxs, sxb, and_self, and_true, true_and, implies_true, imp_self, bne_eq_false_iff_eq, Nat.zero_add, Nat.le_refl, Int.toNat_natCast, Int.ofNat_lt, Int.natCast_nonneg, decide_eq_true_eq, decide_eq_false_iff_not, bne_iff_ne, ne_eq, validS]; try dsimp only [Kd.T, Kds.T])
  try (simp only [sxs, sxb, and_self, and_true, true_and, implies_true, imp_self, bne_eq_false_iff_eq, Nat.zero_add, Nat.le_refl, Int.toNat_natCast, Int.ofNat_lt, Int.natCast_nonneg, decide_eq_true_eq, decide_eq_false_iff_not, bne_iff_ne, ne_eq, validS]; try dsimp only [Kd.T, Kds.T])
  by_cases h : 0 ≤ m <;> simp [h, leI]
end Go.Sx.Ytengkdmlnnehgaa
