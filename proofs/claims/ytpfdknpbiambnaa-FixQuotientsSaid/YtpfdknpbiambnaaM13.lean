/- Chapter 01: the examples' words. -/
import Derived.Test.YtpfdknpbiambnaaM12
import Derived.Test.YtpfdknpbiambnaaM11
import Derived.Test.YtpfdknpbiambnaaM5
import Derived.Test.YtpfdknpbiambnaaM3
namespace Go.Sx.Ytpfdknpbiambnaa
open Go Go.Sx Go.Proofs
set_option linter.unusedVariables false
set_option linter.unusedSimpArgs false
set_option maxRecDepth 100000

def divB (a d how want : Int) : Bool := eqI (scaleR (-10) 10 a 1 d how).2 0 && eqI (scaleR (-10) 10 a 1 d how).1 want
def S34 : List AV → Option FOut := sigSpec [I64, I64, I64, I64] [.bool] (fun x : Int × Int × Int × Int × Unit => (divB x.1 x.2.1 x.2.2.1 x.2.2.2.1, ())) (fun x : Int × Int × Int × Int × Unit => inI x.1 ∧ inI x.2.1)
theorem fn34 : FnOk Try.prog 34 S34 := by
  refine fn_of (rs := [.tmp 8]) (env [(35, S35), (10, S10), (33, S33)] ⟨fn35, fn10, fn33, trivial⟩) Try.func34 (by kernel_rfl) rfl rfl Try.ntmps34 ?_
  rintro ⟨(a : Int), (d : Int), (how : Int), (want : Int), u⟩ ⟨ha, hd⟩ G hG hQ
  simp only at ha hd
  refine AM.run2 hG 100 (by cbv) ?_ ?_
  · (simp only [sxs, sxb, and_self, and_true, true_and, implies_true, imp_self, bne_eq_false_iff_eq, Nat.zero_add, Nat.le_refl, Int.toNat_natCast, Int.ofNat_lt, Int.natCast_nonneg, decide_eq_true_eq, decide_eq_false_iff_not, bne_iff_ne, ne_eq]; try dsimp only [Kd.T, Kds.T, AK.T, AKs.T])
    exact ⟨ha, hd⟩
  refine AM.ret2 hG (by cbv) (by (simp only [sxs, sxb, and_self, and_true, true_and, implies_true, imp_self, bne_eq_false_iff_eq, Nat.zero_add, Nat.le_refl, Int.toNat_natCast, Int.ofNat_lt, Int.natCast_nonneg, decide_eq_true_eq, decide_eq_false_iff_not, bne_iff_ne, ne_eq]; try dsimp only [Kd.T, Kds.T, AK.T, AKs.T])) (hQ _ _ (FinRo.of (by cbv) (by cbv) ?_ ?_))
  · (simp only [sxs, sxb, and_self, and_true, true_and, implies_true, imp_self, bne_eq_false_iff_eq, Nat.zero_add, Nat.le_refl, Int.toNat_natCast, Int.ofNat_lt, Int.natCast_nonneg, decide_eq_true_eq, decide_eq_false_iff_not, bne_iff_ne, ne_eq]; try dsimp only [Kd.T, Kds.T, AK.T, AKs.T])
  try (simp only [sxs, sxb, and_self, and_true, true_and, implies_true, imp_self, bne_eq_false_iff_eq, Nat.zero_add, Nat.le_refl, Int.toNat_natCast, Int.ofNat_lt, Int.natCast_nonneg, decide_eq_true_eq, decide_eq_false_iff_not, bne_iff_ne, ne_eq]; try dsimp only [Kd.T, Kds.T, AK.T, AKs.T])
  all_goals ((repeat' apply And.intro) <;> first | rfl | assumption | exact trivial)
def scaleB (lo hi a b d how want : Int) : Bool := eqI (scaleR lo hi a b d how).2 0 && eqI (scaleR lo hi a b d how).1 want
def S36 : List AV → Option FOut := sigSpec [WithinK, I64, I64, I64, I64, I64] [.bool] (fun x : (Int × Int × Unit) × Int × Int × Int × Int × Int × Unit => (scaleB x.1.1 x.1.2.1 x.2.1 x.2.2.1 x.2.2.2.1 x.2.2.2.2.1 x.2.2.2.2.2.1, ())) (fun x : (Int × Int × Unit) × Int × Int × Int × Int × Int × Unit => inI x.2.1 ∧ inI x.2.2.1 ∧ inI x.2.2.2.1)
theorem fn36 : FnOk Try.prog 36 S36 := by
  refine fn_of (rs := [.tmp 12]) (env [(12, S12), (33, S33)] ⟨fn12, fn33, trivial⟩) Try.func36 (by kernel_rfl) rfl rfl Try.ntmps36 ?_
  rintro ⟨⟨(lo : Int), (hi : Int), u1⟩, (a : Int), (b : Int), (d : Int), (how : Int), (want : Int), u⟩ ⟨ha, hb, hd⟩ G hG hQ
  simp only at ha hb hd
  refine AM.run2 hG 100 (by cbv) ?_ ?_
  · (simp only [sxs, sxb, and_self, and_true, true_and, implies_true, imp_self, bne_eq_false_iff_eq, Nat.zero_add, Nat.le_refl, Int.toNat_natCast, Int.ofNat_lt, Int.natCast_nonneg, decide_eq_true_eq, decide_eq_false_iff_not, bne_iff_ne, ne_eq]; try dsimp only [Kd.T, Kds.T, AK.T, AKs.T])
    exact ⟨ha, hb, hd⟩
  refine AM.ret2 hG (by cbv) (by (simp only [sxs, sxb, and_self, and_true, true_and, implies_true, imp_self, bne_eq_false_iff_eq, Nat.zero_add, Nat.le_refl, Int.toNat_natCast, Int.ofNat_lt, Int.natCast_nonneg, decide_eq_true_eq, decide_eq_false_iff_not, bne_iff_ne, ne_eq]; try dsimp only [Kd.T, Kds.T, AK.T, AKs.T])) (hQ _ _ (FinRo.of (by cbv) (by cbv) ?_ ?_))
  · (simp only [sxs, sxb, and_self, and_true, true_and, implies_true, imp_self, bne_eq_false_iff_eq, Nat.zero_add, Nat.le_refl, Int.toNat_natCast, Int.ofNat_lt, Int.natCast_nonneg, decide_eq_true_eq, decide_eq_false_iff_not, bne_iff_ne, ne_eq]; try dsimp only [Kd.T, Kds.T, AK.T, AKs.T])
  try (simp only [sxs, sxb, and_self, and_true, true_and, implies_true, imp_self, bne_eq_false_iff_eq, Nat.zero_add, Nat.le_refl, Int.toNat_natCast, Int.ofNat_lt, Int.natCast_nonneg, decide_eq_true_eq, decide_eq_false_iff_not, bne_iff_ne, ne_eq]; try dsimp only [Kd.T, Kds.T, AK.T, AKs.T])
  all_goals ((repeat' apply And.intro) <;> first | rfl | assumption | exact trivial)
def splitB (n p : Int) (l : List Int) : Bool := if eqI (splitS n p).2 0 = true then decide ((splitS n p).1 = l) else false
theorem split_len (n p : Int) : (splitS n p).1.length ≤ 1000 := by
  unfold splitS
  split
  · simp
  · simp only [splitL, List.length_map, List.length_range]; omega
def S37 : List AV → Option FOut := sigSpec [I64, I64, IntsK] [.bool] (fun x : Int × Int × List Int × Unit => (splitB x.1 x.2.1 x.2.2.1, ())) (fun x : Int × Int × List Int × Unit => inI x.1 ∧ x.2.2.1.length ≤ 1000000)
theorem fn37 : FnOk Try.prog 37 S37 := by
  refine fn_of (rs := [.tmp 6]) (env [(28, S28), (30, S30)] ⟨fn28, fn30, trivial⟩) Try.func37 (by kernel_rfl) rfl rfl Try.ntmps37 ?_
  rintro ⟨(n : Int), (p : Int), (l : List Int), u⟩ ⟨hn, hl⟩ G hG hQ
  simp only at hn hl
  have h1 := split_len n p
  refine AM.run2 hG 100 (by cbv) ?_ ?_
  · (simp only [sxs, sxb, and_self, and_true, true_and, implies_true, imp_self, bne_eq_false_iff_eq, Nat.zero_add, Nat.le_refl, Int.toNat_natCast, Int.ofNat_lt, Int.natCast_nonneg, decide_eq_true_eq, decide_eq_false_iff_not, bne_iff_ne, ne_eq]; try dsimp only [Kd.T, Kds.T, AK.T, AKs.T])
    exact ⟨fun _ => ⟨by omega, hl⟩, hn⟩
  refine AM.ret2 hG (by cbv) (by (simp only [sxs, sxb, and_self, and_true, true_and, implies_true, imp_self, bne_eq_false_iff_eq, Nat.zero_add, Nat.le_refl, Int.toNat_natCast, Int.ofNat_lt, Int.natCast_nonneg, decide_eq_true_eq, decide_eq_false_iff_not, bne_iff_ne, ne_eq]; try dsimp only [Kd.T, Kds.T, AK.T, AKs.T])) (hQ _ _ (FinRo.of (by cbv) (by cbv) ?_ ?_))
  · (simp only [sxs, sxb, and_self, and_true, true_and, implies_true, imp_self, bne_eq_false_iff_eq, Nat.zero_add, Nat.le_refl, Int.toNat_natCast, Int.ofNat_lt, Int.natCast_nonneg, decide_eq_true_eq, decide_eq_false_iff_not, bne_iff_ne, ne_eq]; try dsimp only [Kd.T, Kds.T, AK.T, AKs.T])
  exact ⟨rfl⟩
instance (n : Int) : Decidable (inI n) := by unfold inI; infer_instance
def S14 : List AV → Option FOut := sigSpec [] [.bool] (fun x : Unit => (true, ())) (fun _ => True)
set_option maxHeartbeats 4000000 in
theorem fn14 : FnOk Try.prog 14 S14 := by
  refine fn_of (rs := [.tmp 0]) (env [(35, S35), (15, S15), (21, S21), (26, S26), (33, S33), (32, S32), (34, S34), (36, S36)] ⟨fn35, fn15, fn21, fn26, fn33, fn32, fn34, fn36, trivial⟩) Try.func14 (by kernel_rfl) rfl rfl Try.ntmps14 ?_
  rintro u _ G hG hQ
  refine AM.run2 hG 300 (by cbv) ?_ ?_
  · (simp only [sxs, sxb, and_self, and_true, true_and, implies_true, imp_self, bne_eq_false_iff_eq, Nat.zero_add, Nat.le_refl, Int.toNat_natCast, Int.ofNat_lt, Int.natCast_nonneg, decide_eq_true_eq, decide_eq_false_iff_not, bne_iff_ne, ne_eq]; try dsimp only [Kd.T, Kds.T, AK.T, AKs.T])
    all_goals ((repeat' apply And.intro) <;> first | decide | (intro _; decide))
  refine AM.ret2 hG (by cbv) (by (simp only [sxs, sxb, and_self, and_true, true_and, implies_true, imp_self, bne_eq_false_iff_eq, Nat.zero_add, Nat.le_refl, Int.toNat_natCast, Int.ofNat_lt, Int.natCast_nonneg, decide_eq_true_eq, decide_eq_false_iff_not, bne_iff_ne, ne_eq]; try dsimp only [Kd.T, Kds.T, AK.T, AKs.T])) (hQ _ _ (FinRo.of (by cbv) (by cbv) ?_ ?_))
  · (simp only [sxs, sxb, and_self, and_true, true_and, implies_true, imp_self, bne_eq_false_iff_eq, Nat.zero_add, Nat.le_refl, Int.toNat_natCast, Int.ofNat_lt, Int.natCast_nonneg, decide_eq_true_eq, decide_eq_false_iff_not, bne_iff_ne, ne_eq]; try dsimp only [Kd.T, Kds.T, AK.T, AKs.T])
  exact ⟨by kernel_rfl⟩
set_option maxHeartbeats 8000000 in
theorem law6 : FnOk Try.prog 6 (sigSpec [] [.bool] (fun _ => (true, ())) (Kds.wf [])) := by
  refine fn_of (rs := [.tmp 0]) (env [(31, S31), (15, S15), (19, S19), (21, S21), (32, S32), (33, S33), (34, S34), (35, S35), (10, S10), (36, S36), (26, S26), (23, S23), (28, S28), (37, S37), (14, S14), (17, S17)]
    ⟨fn31, fn15, fn19, fn21, fn32, fn33, fn34, fn35, fn10, fn36, fn26, fn23, fn28, fn37, fn14, fn17, trivial⟩) Try.func6 (by kernel_rfl) rfl rfl Try.ntmps6 ?_
  rintro u _ G hG hQ
  refine AM.runTo2 hG 67 400 (by cbv) ?_ ?_
  · (simp only [sxs, sxb, and_self, and_true, true_and, implies_true, imp_self, bne_eq_false_iff_eq, Nat.zero_add, Nat.le_refl, Int.toNat_natCast, Int.ofNat_lt, Int.natCast_nonneg, decide_eq_true_eq, decide_eq_false_iff_not, bne_iff_ne, ne_eq]; try dsimp only [Kd.T, Kds.T, AK.T, AKs.T])
    all_goals ((repeat' apply And.intro) <;> first | decide | (intro _; decide))
  refine AM.imp2 (fr' := frame 240 [(1, .int .i64 (.t fun _ => 0)), (2, .int .i64 (.t fun _ => 14)), (3, .int .i64 (.t fun _ => 0)), (4, .int .i64 (.t fun _ => 14)), (5, .int .i64 (.t fun _ => 9223372036854775807)), (6, .int .i64 (.t fun _ => 0)), (7, .int .i64 (.t fun _ => -9223372036854775807)), (8, .int .i64 (.t fun _ => 0)), (9, .int .i64 (.t fun _ => 0)), (10, .int .i64 (.t fun _ => 14)), (11, .int .i64 (.t fun _ => 0)), (12, .int .i64 (.t fun _ => 14))]) (h' := []) (by cbv) (by cbv) ?_ trivial ?_
  · (simp only [sxs, sxb, and_self, and_true, true_and, implies_true, imp_self, bne_eq_false_iff_eq, Nat.zero_add, Nat.le_refl, Int.toNat_natCast, Int.ofNat_lt, Int.natCast_nonneg, decide_eq_true_eq, decide_eq_false_iff_not, bne_iff_ne, ne_eq]; try dsimp only [Kd.T, Kds.T, AK.T, AKs.T])
    all_goals ((repeat' apply And.intro) <;> kernel_rfl)
  refine AM.runTo2 hG 95 400 (by cbv) ?_ ?_
  · (simp only [sxs, sxb, and_self, and_true, true_and, implies_true, imp_self, bne_eq_false_iff_eq, Nat.zero_add, Nat.le_refl, Int.toNat_natCast, Int.ofNat_lt, Int.natCast_nonneg, decide_eq_true_eq, decide_eq_false_iff_not, bne_iff_ne, ne_eq]; try dsimp only [Kd.T, Kds.T, AK.T, AKs.T])
    all_goals ((repeat' apply And.intro) <;> first | decide | (intro _; decide))
  refine AM.imp2 (fr' := frame 240 [(13, .bool (.t fun _ => true))]) (h' := []) (by cbv) (by cbv) ?_ trivial ?_
  · (simp only [sxs, sxb, and_self, and_true, true_and, implies_true, imp_self, bne_eq_false_iff_eq, Nat.zero_add, Nat.le_refl, Int.toNat_natCast, Int.ofNat_lt, Int.natCast_nonneg, decide_eq_true_eq, decide_eq_false_iff_not, bne_iff_ne, ne_eq]; try dsimp only [Kd.T, Kds.T, AK.T, AKs.T])
    all_goals ((repeat' apply And.intro) <;> kernel_rfl)
  refine AM.sure 13 true rfl rfl ?_
  refine AM.runTo2 hG 112 400 (by cbv) ?_ ?_
  · (simp only [sxs, sxb, and_self, and_true, true_and, implies_true, imp_self, bne_eq_false_iff_eq, Nat.zero_add, Nat.le_refl, Int.toNat_natCast, Int.ofNat_lt, Int.natCast_nonneg, decide_eq_true_eq, decide_eq_false_iff_not, bne_iff_ne, ne_eq]; try dsimp only [Kd.T, Kds.T, AK.T, AKs.T])
    all_goals ((repeat' apply And.intro) <;> first | decide | (intro _; decide))
  refine AM.imp2 (fr' := frame 240 [(13, .bool (.l true)), (14, .bool (.t fun _ => true))]) (h' := []) (by cbv) (by cbv) ?_ trivial ?_
  · (simp only [sxs, sxb, and_self, and_true, true_and, implies_true, imp_self, bne_eq_false_iff_eq, Nat.zero_add, Nat.le_refl, Int.toNat_natCast, Int.ofNat_lt, Int.natCast_nonneg, decide_eq_true_eq, decide_eq_false_iff_not, bne_iff_ne, ne_eq]; try dsimp only [Kd.T, Kds.T, AK.T, AKs.T])
    all_goals ((repeat' apply And.intro) <;> kernel_rfl)
  refine AM.sure 14 true rfl rfl ?_
  refine AM.runTo2 hG 131 400 (by cbv) ?_ ?_
  · (simp only [sxs, sxb, and_self, and_true, true_and, implies_true, imp_self, bne_eq_false_iff_eq, Nat.zero_add, Nat.le_refl, Int.toNat_natCast, Int.ofNat_lt, Int.natCast_nonneg, decide_eq_true_eq, decide_eq_false_iff_not, bne_iff_ne, ne_eq]; try dsimp only [Kd.T, Kds.T, AK.T, AKs.T])
    all_goals ((repeat' apply And.intro) <;> first | decide | (intro _; decide))
  refine AM.imp2 (fr' := frame 240 [(13, .bool (.l true)), (14, .bool (.l true)), (15, .int .i64 (.t fun _ => 0)), (16, .int .i64 (.t fun _ => 2)), (17, .int .i64 (.t fun _ => 0)), (18, .int .i64 (.t fun _ => 11)), (19, .int .i64 (.t fun _ => 0)), (20, .int .i64 (.t fun _ => 14)), (21, .int .i64 (.t fun _ => 0)), (22, .int .i64 (.t fun _ => 14))]) (h' := []) (by cbv) (by cbv) ?_ trivial ?_
  · (simp only [sxs, sxb, and_self, and_true, true_and, implies_true, imp_self, bne_eq_false_iff_eq, Nat.zero_add, Nat.le_refl, Int.toNat_natCast, Int.ofNat_lt, Int.natCast_nonneg, decide_eq_true_eq, decide_eq_false_iff_not, bne_iff_ne, ne_eq]; try dsimp only [Kd.T, Kds.T, AK.T, AKs.T])
    all_goals ((repeat' apply And.intro) <;> kernel_rfl)
  refine AM.runTo2 hG 156 400 (by cbv) ?_ ?_
  · (simp only [sxs, sxb, and_self, and_true, true_and, implies_true, imp_self, bne_eq_false_iff_eq, Nat.zero_add, Nat.le_refl, Int.toNat_natCast, Int.ofNat_lt, Int.natCast_nonneg, decide_eq_true_eq, decide_eq_false_iff_not, bne_iff_ne, ne_eq]; try dsimp only [Kd.T, Kds.T, AK.T, AKs.T])
    all_goals ((repeat' apply And.intro) <;> first | decide | (intro _; decide))
  refine AM.imp2 (fr' := frame 240 [(13, .bool (.l true)), (14, .bool (.l true)), (23, .bool (.t fun _ => true))]) (h' := []) (by cbv) (by cbv) ?_ trivial ?_
  · (simp only [sxs, sxb, and_self, and_true, true_and, implies_true, imp_self, bne_eq_false_iff_eq, Nat.zero_add, Nat.le_refl, Int.toNat_natCast, Int.ofNat_lt, Int.natCast_nonneg, decide_eq_true_eq, decide_eq_false_iff_not, bne_iff_ne, ne_eq]; try dsimp only [Kd.T, Kds.T, AK.T, AKs.T])
    all_goals ((repeat' apply And.intro) <;> kernel_rfl)
  refine AM.sure 23 true rfl rfl ?_
  refine AM.runTo2 hG 184 400 (by cbv) ?_ ?_
  · (simp only [sxs, sxb, and_self, and_true, true_and, implies_true, imp_self, bne_eq_false_iff_eq, Nat.zero_add, Nat.le_refl, Int.toNat_natCast, Int.ofNat_lt, Int.natCast_nonneg, decide_eq_true_eq, decide_eq_false_iff_not, bne_iff_ne, ne_eq]; try dsimp only [Kd.T, Kds.T, AK.T, AKs.T])
    all_goals ((repeat' apply And.intro) <;> first | decide | (intro _; decide))
  refine AM.runTo2 hG 203 400 (by cbv) ?_ ?_
  · (simp only [sxs, sxb, and_self, and_true, true_and, implies_true, imp_self, bne_eq_false_iff_eq, Nat.zero_add, Nat.le_refl, Int.toNat_natCast, Int.ofNat_lt, Int.natCast_nonneg, decide_eq_true_eq, decide_eq_false_iff_not, bne_iff_ne, ne_eq]; try dsimp only [Kd.T, Kds.T, AK.T, AKs.T])
    all_goals ((repeat' apply And.intro) <;> first | decide | (intro _; decide))
  refine AM.sure 202 true rfl (by kernel_rfl) ?_
  refine AM.runTo2 hG 207 400 (by cbv) ?_ ?_
  · (simp only [sxs, sxb, and_self, and_true, true_and, implies_true, imp_self, bne_eq_false_iff_eq, Nat.zero_add, Nat.le_refl, Int.toNat_natCast, Int.ofNat_lt, Int.natCast_nonneg, decide_eq_true_eq, decide_eq_false_iff_not, bne_iff_ne, ne_eq]; try dsimp only [Kd.T, Kds.T, AK.T, AKs.T])
    all_goals ((repeat' apply And.intro) <;> first | decide | (intro _; decide))
  refine AM.sure 206 true rfl (by kernel_rfl) ?_
  refine AM.runTo2 hG 211 400 (by cbv) ?_ ?_
  · (simp only [sxs, sxb, and_self, and_true, true_and, implies_true, imp_self, bne_eq_false_iff_eq, Nat.zero_add, Nat.le_refl, Int.toNat_natCast, Int.ofNat_lt, Int.natCast_nonneg, decide_eq_true_eq, decide_eq_false_iff_not, bne_iff_ne, ne_eq]; try dsimp only [Kd.T, Kds.T, AK.T, AKs.T])
    all_goals ((repeat' apply And.intro) <;> first | decide | (intro _; decide))
  refine AM.sure 210 true rfl (by kernel_rfl) ?_
  refine AM.run2 hG 400 (by cbv) ?_ ?_
  · (simp only [sxs, sxb, and_self, and_true, true_and, implies_true, imp_self, bne_eq_false_iff_eq, Nat.zero_add, Nat.le_refl, Int.toNat_natCast, Int.ofNat_lt, Int.natCast_nonneg, decide_eq_true_eq, decide_eq_false_iff_not, bne_iff_ne, ne_eq]; try dsimp only [Kd.T, Kds.T, AK.T, AKs.T])
    all_goals ((repeat' apply And.intro) <;> first | decide | (intro _; decide))
  refine AM.ret2 hG (by cbv) (by (simp only [sxs, sxb, and_self, and_true, true_and, implies_true, imp_self, bne_eq_false_iff_eq, Nat.zero_add, Nat.le_refl, Int.toNat_natCast, Int.ofNat_lt, Int.natCast_nonneg, decide_eq_true_eq, decide_eq_false_iff_not, bne_iff_ne, ne_eq]; try dsimp only [Kd.T, Kds.T, AK.T, AKs.T])) (hQ _ _ (FinRo.of (by cbv) (by cbv) ?_ ?_))
  · (simp only [sxs, sxb, and_self, and_true, true_and, implies_true, imp_self, bne_eq_false_iff_eq, Nat.zero_add, Nat.le_refl, Int.toNat_natCast, Int.ofNat_lt, Int.natCast_nonneg, decide_eq_true_eq, decide_eq_false_iff_not, bne_iff_ne, ne_eq]; try dsimp only [Kd.T, Kds.T, AK.T, AKs.T])
  exact ⟨by kernel_rfl⟩
end Go.Sx.Ytpfdknpbiambnaa
