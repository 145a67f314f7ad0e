/- Rings: the law RingKnown; rings made of numbers. -/
import Derived.Test.YtfnjijnaogbgmaaR6
namespace Go.Sx.Ytfnjijnaogbgmaa
open Go Go.Sx Go.Proofs
set_option linter.unusedVariables false
set_option linter.unusedSimpArgs false
set_option maxRecDepth 100000

def S4 : List AV → Option FOut := sigSpec [] [.bool] (fun x : Unit => (true, ())) (fun _ => True)
set_option maxHeartbeats 16000000 in
theorem fn4 : FnOk Try.prog 4 S4 := by
  refine fn_of (rs := [.tmp 0]) (env [(12, S12), (6, S6), (13, S13), (14, S14), (15, S15), (7, S7), (10, S10), (16, S16), (17, S17), (18, S18), (19, S19)] ⟨fn12, fn6, fn13, fn14, fn15, fn7, fn10, fn16, fn17, fn18, fn19, trivial⟩) Try.func4 (by kernel_rfl) rfl rfl Try.ntmps4 ?_
  rintro u _ G hG hQ
  refine AM.run2 hG 300 (by cbv) ?_ ?_
  · (simp only [sxs, sxb, and_self, and_true, true_and, implies_true, imp_self, bne_eq_false_iff_eq, Nat.zero_add, Nat.le_refl, Int.toNat_natCast, Int.ofNat_lt, Int.natCast_nonneg, decide_eq_true_eq, decide_eq_false_iff_not, bne_iff_ne, ne_eq]; try dsimp only [Kd.T, Kds.T, AK.T, AKs.T])
    all_goals ((repeat' first | apply And.intro | intro _) <;> first | decide | kernel_rfl)
  refine AM.ret2 hG (by cbv) (by (simp only [sxs, sxb, and_self, and_true, true_and, implies_true, imp_self, bne_eq_false_iff_eq, Nat.zero_add, Nat.le_refl, Int.toNat_natCast, Int.ofNat_lt, Int.natCast_nonneg, decide_eq_true_eq, decide_eq_false_iff_not, bne_iff_ne, ne_eq]; try dsimp only [Kd.T, Kds.T, AK.T, AKs.T])) (hQ _ _ (FinRo.of (by cbv) (by cbv) ?_ ?_))
  · (simp only [sxs, sxb, and_self, and_true, true_and, implies_true, imp_self, bne_eq_false_iff_eq, Nat.zero_add, Nat.le_refl, Int.toNat_natCast, Int.ofNat_lt, Int.natCast_nonneg, decide_eq_true_eq, decide_eq_false_iff_not, bne_iff_ne, ne_eq]; try dsimp only [Kd.T, Kds.T, AK.T, AKs.T])
  exact ⟨by kernel_rfl⟩
end Go.Sx.Ytfnjijnaogbgmaa
