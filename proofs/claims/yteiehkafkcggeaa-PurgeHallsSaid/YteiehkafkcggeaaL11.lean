/- The law PurgeKnown. -/
import Derived.Test.YteiehkafkcggeaaL10
namespace Go.Sx.Yteiehkafkcggeaa
open Go Go.Sx Go.Proofs
set_option linter.unusedVariables false
set_option linter.unusedSimpArgs false
set_option maxRecDepth 100000

theorem shown_all : (shownH.2.2.2.1.all fun x => Nat.ble x.2.1.length 1000000) = true := by kernel_rfl
theorem shown_c (i : Nat) : (shownH.2.2.2.1.getD i zT).2.1.length ≤ 1000000 := by
  rw [List.getD_eq_getElem?_getD]
  rcases h : shownH.2.2.2.1[i]? with _ | x
  · exact Nat.le_of_ble_eq_true rfl
  · exact Nat.le_of_ble_eq_true (List.all_eq_true.mp shown_all x (List.mem_of_getElem? h))
set_option maxHeartbeats 8000000 in
theorem law11 : FnOk Try.prog 11 (sigSpec [] [.bool] (fun _ => (true, ())) (Kds.wf [])) := by
  refine fn_of (rs := [.tmp 0]) (env [(78, S78), (59, S59), (80, S80), (72, S72), (66, S66), (79, S79), (65, S65), (76, S76), (74, S74), (63, S63), (70, S70)]
    ⟨fn78, fn59, fn80, fn72, fn66, fn79, fn65, fn76, fn74, fn63, fn70, trivial⟩) Try.func11 (by kernel_rfl) rfl rfl Try.ntmps11 ?_
  rintro u _ G hG hQ
  refine AM.run2 hG 200 (by cbv) ?_ ?_
  · (simp only [sxs, sxb, and_self, and_true, true_and, implies_true, imp_self, bne_eq_false_iff_eq, Nat.zero_add, Nat.le_refl, Int.toNat_natCast, Int.ofNat_lt, Int.natCast_nonneg, decide_eq_true_eq, decide_eq_false_iff_not, bne_iff_ne, ne_eq]; try dsimp only [Kd.T, Kds.T, AK.T, AKs.T])
    refine ⟨fun _ => ⟨?_, by decide⟩, overO_L (e := 5) shown_L, shown_L⟩
    all_goals ((repeat' apply And.intro) <;> first | kernel_rfl | decide | assumption)
  refine AM.sure 53 false rfl (by kernel_rfl) ?_
  refine AM.run2 hG 200 (by cbv) ?_ ?_
  · (simp only [sxs, sxb, and_self, and_true, true_and, implies_true, imp_self, bne_eq_false_iff_eq, Nat.zero_add, Nat.le_refl, Int.toNat_natCast, Int.ofNat_lt, Int.natCast_nonneg, decide_eq_true_eq, decide_eq_false_iff_not, bne_iff_ne, ne_eq]; try dsimp only [Kd.T, Kds.T, AK.T, AKs.T])
    all_goals ((repeat' first | apply And.intro | intro _) <;> first | decide | exact shown_L | exact shown_c _ | kernel_rfl)
  refine AM.ret2 hG (by cbv) (by (simp only [sxs, sxb, and_self, and_true, true_and, implies_true, imp_self, bne_eq_false_iff_eq, Nat.zero_add, Nat.le_refl, Int.toNat_natCast, Int.ofNat_lt, Int.natCast_nonneg, decide_eq_true_eq, decide_eq_false_iff_not, bne_iff_ne, ne_eq]; try dsimp only [Kd.T, Kds.T, AK.T, AKs.T])) (hQ _ _ (FinRo.of (by cbv) (by cbv) ?_ ?_))
  · (simp only [sxs, sxb, and_self, and_true, true_and, implies_true, imp_self, bne_eq_false_iff_eq, Nat.zero_add, Nat.le_refl, Int.toNat_natCast, Int.ofNat_lt, Int.natCast_nonneg, decide_eq_true_eq, decide_eq_false_iff_not, bne_iff_ne, ne_eq]; try dsimp only [Kd.T, Kds.T, AK.T, AKs.T])
  exact ⟨by kernel_rfl⟩
end Go.Sx.Yteiehkafkcggeaa
