/- The law TableKnown. -/
import Derived.Test.YteiehkafkcggeaaT16
import Derived.Test.YteiehkafkcggeaaSx22
namespace Go.Sx.Yteiehkafkcggeaa
open Go Go.Sx Go.Proofs
set_option linter.unusedVariables false
set_option linter.unusedSimpArgs false
set_option maxRecDepth 100000

theorem tk1 : serveR (3, [(1, 3, 0, 5, PUnit.unit), (2, 3, 0, 5, PUnit.unit), (3, 3, 2, 7, PUnit.unit)], PUnit.unit) 3 1 = ((3, [(3, 3, 2, 7, PUnit.unit)], PUnit.unit), [(1, 3, 0, 5, PUnit.unit), (2, 3, 0, 5, PUnit.unit)], 0) := by kernel_rfl
theorem tk2 : wipeR (3, [(1, 3, 0, 5, PUnit.unit), (2, 3, 0, 5, PUnit.unit), (3, 3, 2, 7, PUnit.unit)], PUnit.unit) = ((3, [(1, 3, 0, 5, PUnit.unit), (2, 3, 0, 5, PUnit.unit)], PUnit.unit), [(3, 3, 2, 7, PUnit.unit)], 0) := by kernel_rfl
theorem tk3 : ofR (3, [(1, 3, 0, 5, PUnit.unit), (2, 3, 0, 5, PUnit.unit), (3, 3, 2, 7, PUnit.unit)], PUnit.unit) 2 = ([(3, 3, 2, 7, PUnit.unit)], 0) := by kernel_rfl
theorem tk4 : putR (3, [(1, 3, 0, 5, PUnit.unit)], PUnit.unit) (2, 3, 0, 4, PUnit.unit) = (zTab, 0, 8) := by kernel_rfl
theorem tk5 : putChk (3, [(1, 3, 0, 5, PUnit.unit), (2, 3, 0, 5, PUnit.unit), (3, 3, 2, 7, PUnit.unit)], PUnit.unit) (1, 4, 0, 8, PUnit.unit) 3 (3, [(1, 3, 0, 5, PUnit.unit), (2, 3, 0, 5, PUnit.unit), (3, 3, 2, 7, PUnit.unit)], PUnit.unit) = true := by kernel_rfl
theorem tk6 : hallsR (3, [(1, 3, 0, 5, PUnit.unit), (2, 3, 0, 5, PUnit.unit), (1, 0, 0, 6, PUnit.unit)], PUnit.unit) = (9, 8, 0) := by kernel_rfl
theorem tk7 : oldR (3, [(1, 3, 0, 5, PUnit.unit), (2, 3, 0, 5, PUnit.unit), (1, 0, 0, 6, PUnit.unit)], PUnit.unit) = ((1, 3, 0, 5, PUnit.unit), true, 0) := by kernel_rfl
theorem tk8 : urgR (3, [(1, 3, 0, 5, PUnit.unit), (2, 1, 0, 6, PUnit.unit), (3, 3, 2, 6, PUnit.unit)], PUnit.unit) 9 3 = ([(1, 3, 0, 5, PUnit.unit), (2, 1, 0, 6, PUnit.unit)], 0) := by kernel_rfl
theorem tk9 : urgR (3, [(1, 3, 0, 5, PUnit.unit), (2, 1, 0, 6, PUnit.unit), (3, 3, 2, 6, PUnit.unit)], PUnit.unit) 9 4 = ([(1, 3, 0, 5, PUnit.unit)], 0) := by kernel_rfl
def spine : Nat → Code → Code
  | 0, c => c
  | n + 1, .seq _ b => spine n b
  | _ + 1, c => c
def bodyOf (f : Func) : Code :=
  match f.body with
  | some c => c
  | none => .skip
set_option maxHeartbeats 8000000 in
theorem stD {G : Gl} (hG : GOk Try.prog G (E [(46, S46), (47, S47), (48, S48), (45, S45), (49, S49), (50, S50), (51, S51), (52, S52), (53, S53), (54, S54), (55, S55), (56, S56), (30, S30), (31, S31), (57, S57)]) [.tmp 0]) (hQ : ∀ v h', FinRo (encRes [.bool] fun _ => (true, ())) v h' → G.Q v h') : AM G ⟨frame 187 [(4, .int .i64 (.l 0)), (9, .int .i64 (.l 0)), (11, .int .i64 (.l 0)), (13, .int .u64 (.l 9)), (14, .int .u64 (.l 8)), (15, .ptr 12 0), (16, .bool (.l true)), (18, .ro CallK fun _ => [(1, 3, 0, 5, ()), (2, 1, 0, 6, ())]), (19, .ro CallK fun _ => [(1, 3, 0, 5, ())]), (20, .int .i64 (.l 0))], [.dead, .dead, .dead, .dead, .dead, .dead, .dead, .dead, .dead, .dead, .dead, .dead, .box 31 [.int .i64 (.l 1), .int .i64 (.l 3), .int .i64 (.l 0), .int .i64 (.l 5)], .dead, .dead], [.code (spine 14 (bodyOf Try.f8))]⟩ := by
  refine AM.run2 hG 300 (by cbv) ?_ ?_
  · (simp only [sxs, sxb, and_self, and_true, true_and, implies_true, imp_self, bne_eq_false_iff_eq, Nat.zero_add, Nat.le_refl, Int.toNat_natCast, Int.ofNat_lt, Int.natCast_nonneg, decide_eq_true_eq, decide_eq_false_iff_not, bne_iff_ne, ne_eq]; try dsimp only [Kd.T, Kds.T, AK.T, AKs.T])
    all_goals ((repeat' apply And.intro) <;> first | decide | (intro _; decide) | (intro _ _; decide) | kernel_rfl | assumption)
  refine AM.ret2 hG (by cbv) (by (simp only [sxs, sxb, and_self, and_true, true_and, implies_true, imp_self, bne_eq_false_iff_eq, Nat.zero_add, Nat.le_refl, Int.toNat_natCast, Int.ofNat_lt, Int.natCast_nonneg, decide_eq_true_eq, decide_eq_false_iff_not, bne_iff_ne, ne_eq]; try dsimp only [Kd.T, Kds.T, AK.T, AKs.T])) (hQ _ _ (FinRo.of (by cbv) (by cbv) ?_ ?_))
  · (simp only [sxs, sxb, and_self, and_true, true_and, implies_true, imp_self, bne_eq_false_iff_eq, Nat.zero_add, Nat.le_refl, Int.toNat_natCast, Int.ofNat_lt, Int.natCast_nonneg, decide_eq_true_eq, decide_eq_false_iff_not, bne_iff_ne, ne_eq]; try dsimp only [Kd.T, Kds.T, AK.T, AKs.T])
  exact ⟨by kernel_rfl⟩
set_option maxHeartbeats 8000000 in
theorem stC {G : Gl} (hG : GOk Try.prog G (E [(46, S46), (47, S47), (48, S48), (45, S45), (49, S49), (50, S50), (51, S51), (52, S52), (53, S53), (54, S54), (55, S55), (56, S56), (30, S30), (31, S31), (57, S57)]) [.tmp 0]) (hQ : ∀ v h', FinRo (encRes [.bool] fun _ => (true, ())) v h' → G.Q v h') : AM G ⟨frame 187 [(4, .int .i64 (.l 0)), (9, .int .i64 (.l 0)), (11, .int .i64 (.l 0))], [.dead, .dead, .dead, .dead, .dead, .dead, .dead, .dead, .dead, .dead], [.code (spine 8 (bodyOf Try.f8))]⟩ := by
  refine AM.runTo2 hG 20 300 (by cbv) ?_ ?_
  · (simp only [sxs, sxb, and_self, and_true, true_and, implies_true, imp_self, bne_eq_false_iff_eq, Nat.zero_add, Nat.le_refl, Int.toNat_natCast, Int.ofNat_lt, Int.natCast_nonneg, decide_eq_true_eq, decide_eq_false_iff_not, bne_iff_ne, ne_eq]; try dsimp only [Kd.T, Kds.T, AK.T, AKs.T])
    all_goals ((repeat' apply And.intro) <;> first | decide | (intro _; decide) | (intro _ _; decide) | kernel_rfl | assumption)
  refine AM.run2 hG 2 (by cbv) ?_ ?_
  · (simp only [sxs, sxb, and_self, and_true, true_and, implies_true, imp_self, bne_eq_false_iff_eq, Nat.zero_add, Nat.le_refl, Int.toNat_natCast, Int.ofNat_lt, Int.natCast_nonneg, decide_eq_true_eq, decide_eq_false_iff_not, bne_iff_ne, ne_eq]; try dsimp only [Kd.T, Kds.T, AK.T, AKs.T])
  refine AM.imp2 (by cbv) (by cbv) ?_ ?_ (stD hG hQ)
  · (simp only [sxs, sxb, and_self, and_true, true_and, implies_true, imp_self, bne_eq_false_iff_eq, Nat.zero_add, Nat.le_refl, Int.toNat_natCast, Int.ofNat_lt, Int.natCast_nonneg, decide_eq_true_eq, decide_eq_false_iff_not, bne_iff_ne, ne_eq]; try dsimp only [Kd.T, Kds.T, AK.T, AKs.T])
    simp only [tk6, tk7, tk8, tk9]
    all_goals ((repeat' apply And.intro) <;> first | rfl | assumption | exact trivial)
  · (simp only [sxs, sxb, and_self, and_true, true_and, implies_true, imp_self, bne_eq_false_iff_eq, Nat.zero_add, Nat.le_refl, Int.toNat_natCast, Int.ofNat_lt, Int.natCast_nonneg, decide_eq_true_eq, decide_eq_false_iff_not, bne_iff_ne, ne_eq]; try dsimp only [Kd.T, Kds.T, AK.T, AKs.T])
    simp only [tk6, tk7, tk8, tk9]
    all_goals ((repeat' apply And.intro) <;> first | rfl | assumption | exact trivial)
set_option maxHeartbeats 8000000 in
theorem stB {G : Gl} (hG : GOk Try.prog G (E [(46, S46), (47, S47), (48, S48), (45, S45), (49, S49), (50, S50), (51, S51), (52, S52), (53, S53), (54, S54), (55, S55), (56, S56), (30, S30), (31, S31), (57, S57)]) [.tmp 0]) (hQ : ∀ v h', FinRo (encRes [.bool] fun _ => (true, ())) v h' → G.Q v h') : AM G ⟨frame 187 [(1, .ptr 1 0), (4, .int .i64 (.l 0)), (5, .ptr 4 0), (6, .ro CallK fun _ => [(1, 3, 0, 5, ()), (2, 3, 0, 5, ())]), (7, .ptr 5 0), (8, .ro CallK fun _ => [(3, 3, 2, 7, ())]), (9, .int .i64 (.l 0)), (10, .ro CallK fun _ => [(3, 3, 2, 7, ())]), (11, .int .i64 (.l 0))], [.dead, .box 25 [.int .i64 (.l 3), .ro CallK fun _ => [(1, 3, 0, 5, ()), (2, 3, 0, 5, ()), (3, 3, 2, 7, ())]], .dead, .dead, .box 25 [.int .i64 (.l 3), .ro CallK fun _ => [(3, 3, 2, 7, ())]], .box 25 [.int .i64 (.l 3), .ro CallK fun _ => [(1, 3, 0, 5, ()), (2, 3, 0, 5, ())]]], [.code (spine 7 (bodyOf Try.f8))]⟩ := by
  refine AM.run2 hG 300 (by cbv) ?_ ?_
  · (simp only [sxs, sxb, and_self, and_true, true_and, implies_true, imp_self, bne_eq_false_iff_eq, Nat.zero_add, Nat.le_refl, Int.toNat_natCast, Int.ofNat_lt, Int.natCast_nonneg, decide_eq_true_eq, decide_eq_false_iff_not, bne_iff_ne, ne_eq]; try dsimp only [Kd.T, Kds.T, AK.T, AKs.T])
    all_goals ((repeat' apply And.intro) <;> first | decide | (intro _; decide) | (intro _ _; decide) | kernel_rfl | assumption)
  refine AM.sure 108 false rfl (by kernel_rfl) ?_
  refine AM.run2 hG 2 (by cbv) ?_ ?_
  · (simp only [sxs, sxb, and_self, and_true, true_and, implies_true, imp_self, bne_eq_false_iff_eq, Nat.zero_add, Nat.le_refl, Int.toNat_natCast, Int.ofNat_lt, Int.natCast_nonneg, decide_eq_true_eq, decide_eq_false_iff_not, bne_iff_ne, ne_eq]; try dsimp only [Kd.T, Kds.T, AK.T, AKs.T])
  refine AM.imp2 (by cbv) (by cbv) ?_ ?_ (stC hG hQ)
  · (simp only [sxs, sxb, and_self, and_true, true_and, implies_true, imp_self, bne_eq_false_iff_eq, Nat.zero_add, Nat.le_refl, Int.toNat_natCast, Int.ofNat_lt, Int.natCast_nonneg, decide_eq_true_eq, decide_eq_false_iff_not, bne_iff_ne, ne_eq]; try dsimp only [Kd.T, Kds.T, AK.T, AKs.T])
  · (simp only [sxs, sxb, and_self, and_true, true_and, implies_true, imp_self, bne_eq_false_iff_eq, Nat.zero_add, Nat.le_refl, Int.toNat_natCast, Int.ofNat_lt, Int.natCast_nonneg, decide_eq_true_eq, decide_eq_false_iff_not, bne_iff_ne, ne_eq]; try dsimp only [Kd.T, Kds.T, AK.T, AKs.T])
set_option maxHeartbeats 8000000 in
theorem law8 : FnOk Try.prog 8 (sigSpec [] [.bool] (fun _ => (true, ())) (Kds.wf [])) := by
  refine fn_of (rs := [.tmp 0]) (env [(46, S46), (47, S47), (48, S48), (45, S45), (49, S49), (50, S50), (51, S51), (52, S52), (53, S53), (54, S54), (55, S55), (56, S56), (30, S30), (31, S31), (57, S57)]
    ⟨fn46, fn47, fn48, fn45, fn49, fn50, fn51, fn52, fn53, fn54, fn55, fn56, fn30, fn31, fn57, trivial⟩) Try.func8 (by kernel_rfl) rfl rfl Try.ntmps8 ?_
  rintro u _ G hG hQ
  refine AM.run2 hG 300 (by cbv) ?_ ?_
  · (simp only [sxs, sxb, and_self, and_true, true_and, implies_true, imp_self, bne_eq_false_iff_eq, Nat.zero_add, Nat.le_refl, Int.toNat_natCast, Int.ofNat_lt, Int.natCast_nonneg, decide_eq_true_eq, decide_eq_false_iff_not, bne_iff_ne, ne_eq]; try dsimp only [Kd.T, Kds.T, AK.T, AKs.T])
    rw [tk4]
    all_goals ((repeat' apply And.intro) <;> first | decide | (intro _; decide) | (intro _ _; decide) | kernel_rfl | assumption)
  refine AM.sure 43 false rfl ?_ ?_
  · (simp only [sxs, sxb, and_self, and_true, true_and, implies_true, imp_self, bne_eq_false_iff_eq, Nat.zero_add, Nat.le_refl, Int.toNat_natCast, Int.ofNat_lt, Int.natCast_nonneg, decide_eq_true_eq, decide_eq_false_iff_not, bne_iff_ne, ne_eq]; try dsimp only [Kd.T, Kds.T, AK.T, AKs.T])
    simp only [tk4, tk5]
    decide
  refine AM.runTo2 hG 11 300 (by cbv) ?_ ?_
  · (simp only [sxs, sxb, and_self, and_true, true_and, implies_true, imp_self, bne_eq_false_iff_eq, Nat.zero_add, Nat.le_refl, Int.toNat_natCast, Int.ofNat_lt, Int.natCast_nonneg, decide_eq_true_eq, decide_eq_false_iff_not, bne_iff_ne, ne_eq]; try dsimp only [Kd.T, Kds.T, AK.T, AKs.T])
    all_goals ((repeat' apply And.intro) <;> first | decide | (intro _; decide) | (intro _ _; decide) | kernel_rfl | assumption)
  refine AM.run2 hG 2 (by cbv) ?_ ?_
  · (simp only [sxs, sxb, and_self, and_true, true_and, implies_true, imp_self, bne_eq_false_iff_eq, Nat.zero_add, Nat.le_refl, Int.toNat_natCast, Int.ofNat_lt, Int.natCast_nonneg, decide_eq_true_eq, decide_eq_false_iff_not, bne_iff_ne, ne_eq]; try dsimp only [Kd.T, Kds.T, AK.T, AKs.T])
  refine AM.imp2 (by cbv) (by cbv) ?_ ?_ (stB hG hQ)
  · (simp only [sxs, sxb, and_self, and_true, true_and, implies_true, imp_self, bne_eq_false_iff_eq, Nat.zero_add, Nat.le_refl, Int.toNat_natCast, Int.ofNat_lt, Int.natCast_nonneg, decide_eq_true_eq, decide_eq_false_iff_not, bne_iff_ne, ne_eq]; try dsimp only [Kd.T, Kds.T, AK.T, AKs.T])
    simp only [tk1, tk2, tk3]
    all_goals ((repeat' apply And.intro) <;> first | rfl | assumption | exact trivial)
  · (simp only [sxs, sxb, and_self, and_true, true_and, implies_true, imp_self, bne_eq_false_iff_eq, Nat.zero_add, Nat.le_refl, Int.toNat_natCast, Int.ofNat_lt, Int.natCast_nonneg, decide_eq_true_eq, decide_eq_false_iff_not, bne_iff_ne, ne_eq]; try dsimp only [Kd.T, Kds.T, AK.T, AKs.T])
    simp only [tk1, tk2, tk3]
    all_goals ((repeat' apply And.intro) <;> first | rfl | assumption | exact trivial)
end Go.Sx.Yteiehkafkcggeaa
