/- U6 U7 U8 U9 U10 U11, joined. -/
import Derived.Test.YteiehkafkcggeaaUA
import Derived.Test.YteiehkafkcggeaaSx34
import Derived.Test.YteiehkafkcggeaaSx32
namespace Go.Sx.Yteiehkafkcggeaa
open Go Go.Sx Go.Proofs
set_option linter.unusedVariables false
set_option linter.unusedSimpArgs false
set_option maxRecDepth 100000

def S126 : List AV → Option FOut := sigSpec [CallK] [.bool] (fun x : Call × Unit => (!hallB x.1, ())) (fun _ => True)
theorem fn126 : FnOk Try.prog 126 S126 := by
  refine fn_of (rs := [.tmp 2]) (env [(125, S125)] ⟨fn125, trivial⟩) Try.func126 (by kernel_rfl) rfl rfl Try.ntmps126 ?_
  rintro ⟨⟨(a : Int), (b : Int), (c : Int), (d : Int), ⟨⟩⟩, u2⟩ _ G hG hQ
  refine AM.run2 hG 100 (by cbv) ?_ ?_
  · (simp only [sxs, sxb, and_self, and_true, true_and, implies_true, imp_self, bne_eq_false_iff_eq, Nat.zero_add, Nat.le_refl, Int.toNat_natCast, Int.ofNat_lt, Int.natCast_nonneg, decide_eq_true_eq, decide_eq_false_iff_not, bne_iff_ne, ne_eq]; try dsimp only [Kd.T, Kds.T, AK.T, AKs.T])
  refine AM.ret2 hG (by cbv) (by (simp only [sxs, sxb, and_self, and_true, true_and, implies_true, imp_self, bne_eq_false_iff_eq, Nat.zero_add, Nat.le_refl, Int.toNat_natCast, Int.ofNat_lt, Int.natCast_nonneg, decide_eq_true_eq, decide_eq_false_iff_not, bne_iff_ne, ne_eq]; try dsimp only [Kd.T, Kds.T, AK.T, AKs.T])) (hQ _ _ (FinRo.of (by cbv) (by cbv) ?_ ?_))
  · (simp only [sxs, sxb, and_self, and_true, true_and, implies_true, imp_self, bne_eq_false_iff_eq, Nat.zero_add, Nat.le_refl, Int.toNat_natCast, Int.ofNat_lt, Int.natCast_nonneg, decide_eq_true_eq, decide_eq_false_iff_not, bne_iff_ne, ne_eq]; try dsimp only [Kd.T, Kds.T, AK.T, AKs.T])
  try (simp only [sxs, sxb, and_self, and_true, true_and, implies_true, imp_self, bne_eq_false_iff_eq, Nat.zero_add, Nat.le_refl, Int.toNat_natCast, Int.ofNat_lt, Int.natCast_nonneg, decide_eq_true_eq, decide_eq_false_iff_not, bne_iff_ne, ne_eq]; try dsimp only [Kd.T, Kds.T, AK.T, AKs.T])
def S124hall : List AV → Option FOut := ownSpec (AKs.dec [.v CallsK, .c 125 []]) (fun y => .fn (.func 139) [] [.fb [.ro CallK fun _ => (y ()).1] 0, .fb [.fn (.func 125) [] []] 0]) (fun _ => []) (fun _ : List Call × Unit × Unit => True)
theorem fn124hall : FnOk Try.prog 124 S124hall := by
  refine fn_ofO (rs := [.tmp 4]) (env [] trivial) Try.func124 (by kernel_rfl) rfl rfl Try.ntmps124 (enc := AKs.enc [.v CallsK, .c 125 []]) (dec := AKs.dec [.v CallsK, .c 125 []]) (fun h1 h2 => AKs.ok _ _ _ _ h1 h2) (AKs.len _) ?_
  rintro ⟨(l : List Call), u1, u2⟩ _ G hG hB hQ
  refine AM.run2 hG 100 (by cbv) ?_ ?_
  · (simp only [sxs, sxb, and_self, and_true, true_and, implies_true, imp_self, bne_eq_false_iff_eq, Nat.zero_add, Nat.le_refl, Int.toNat_natCast, Int.ofNat_lt, Int.natCast_nonneg, decide_eq_true_eq, decide_eq_false_iff_not, bne_iff_ne, ne_eq]; try dsimp only [Kd.T, Kds.T, AK.T, AKs.T])
  refine AM.frzV 4 (by cbv) (by cbv) (by cbv) (by (simp only [sxs, sxb, and_self, and_true, true_and, implies_true, imp_self, bne_eq_false_iff_eq, Nat.zero_add, Nat.le_refl, Int.toNat_natCast, Int.ofNat_lt, Int.natCast_nonneg, decide_eq_true_eq, decide_eq_false_iff_not, bne_iff_ne, ne_eq]; try dsimp only [Kd.T, Kds.T, AK.T, AKs.T])) ?_
  refine AM.ret2 hG (by cbv) (by (simp only [sxs, sxb, and_self, and_true, true_and, implies_true, imp_self, bne_eq_false_iff_eq, Nat.zero_add, Nat.le_refl, Int.toNat_natCast, Int.ofNat_lt, Int.natCast_nonneg, decide_eq_true_eq, decide_eq_false_iff_not, bne_iff_ne, ne_eq]; try dsimp only [Kd.T, Kds.T, AK.T, AKs.T])) (hQ _ _ (FinOwn.mk' [] (by cbv) (by cbv) (by cbv) ?_ ?_))
  · (simp only [sxs, sxb, and_self, and_true, true_and, implies_true, imp_self, bne_eq_false_iff_eq, Nat.zero_add, Nat.le_refl, Int.toNat_natCast, Int.ofNat_lt, Int.natCast_nonneg, decide_eq_true_eq, decide_eq_false_iff_not, bne_iff_ne, ne_eq]; try dsimp only [Kd.T, Kds.T, AK.T, AKs.T])
  · (simp only [sxs, sxb, and_self, and_true, true_and, implies_true, imp_self, bne_eq_false_iff_eq, Nat.zero_add, Nat.le_refl, Int.toNat_natCast, Int.ofNat_lt, Int.natCast_nonneg, decide_eq_true_eq, decide_eq_false_iff_not, bne_iff_ne, ne_eq]; try dsimp only [Kd.T, Kds.T, AK.T, AKs.T])
def S124own : List AV → Option FOut := ownSpec (AKs.dec [.v CallsK, .c 126 []]) (fun y => .fn (.func 139) [] [.fb [.ro CallK fun _ => (y ()).1] 0, .fb [.fn (.func 126) [] []] 0]) (fun _ => []) (fun _ : List Call × Unit × Unit => True)
theorem fn124own : FnOk Try.prog 124 S124own := by
  refine fn_ofO (rs := [.tmp 4]) (env [] trivial) Try.func124 (by kernel_rfl) rfl rfl Try.ntmps124 (enc := AKs.enc [.v CallsK, .c 126 []]) (dec := AKs.dec [.v CallsK, .c 126 []]) (fun h1 h2 => AKs.ok _ _ _ _ h1 h2) (AKs.len _) ?_
  rintro ⟨(l : List Call), u1, u2⟩ _ G hG hB hQ
  refine AM.run2 hG 100 (by cbv) ?_ ?_
  · (simp only [sxs, sxb, and_self, and_true, true_and, implies_true, imp_self, bne_eq_false_iff_eq, Nat.zero_add, Nat.le_refl, Int.toNat_natCast, Int.ofNat_lt, Int.natCast_nonneg, decide_eq_true_eq, decide_eq_false_iff_not, bne_iff_ne, ne_eq]; try dsimp only [Kd.T, Kds.T, AK.T, AKs.T])
  refine AM.frzV 4 (by cbv) (by cbv) (by cbv) (by (simp only [sxs, sxb, and_self, and_true, true_and, implies_true, imp_self, bne_eq_false_iff_eq, Nat.zero_add, Nat.le_refl, Int.toNat_natCast, Int.ofNat_lt, Int.natCast_nonneg, decide_eq_true_eq, decide_eq_false_iff_not, bne_iff_ne, ne_eq]; try dsimp only [Kd.T, Kds.T, AK.T, AKs.T])) ?_
  refine AM.ret2 hG (by cbv) (by (simp only [sxs, sxb, and_self, and_true, true_and, implies_true, imp_self, bne_eq_false_iff_eq, Nat.zero_add, Nat.le_refl, Int.toNat_natCast, Int.ofNat_lt, Int.natCast_nonneg, decide_eq_true_eq, decide_eq_false_iff_not, bne_iff_ne, ne_eq]; try dsimp only [Kd.T, Kds.T, AK.T, AKs.T])) (hQ _ _ (FinOwn.mk' [] (by cbv) (by cbv) (by cbv) ?_ ?_))
  · (simp only [sxs, sxb, and_self, and_true, true_and, implies_true, imp_self, bne_eq_false_iff_eq, Nat.zero_add, Nat.le_refl, Int.toNat_natCast, Int.ofNat_lt, Int.natCast_nonneg, decide_eq_true_eq, decide_eq_false_iff_not, bne_iff_ne, ne_eq]; try dsimp only [Kd.T, Kds.T, AK.T, AKs.T])
  · (simp only [sxs, sxb, and_self, and_true, true_and, implies_true, imp_self, bne_eq_false_iff_eq, Nat.zero_add, Nat.le_refl, Int.toNat_natCast, Int.ofNat_lt, Int.natCast_nonneg, decide_eq_true_eq, decide_eq_false_iff_not, bne_iff_ne, ne_eq]; try dsimp only [Kd.T, Kds.T, AK.T, AKs.T])
def S123hall : List AV → Option FOut := akSpec [.c 139 [.r CallsK, .rc 125 []]] [CallsK] (fun x : (List Call × Unit × Unit) × Unit => (x.1.1.filter hallB, ())) (fun x : (List Call × Unit × Unit) × Unit => x.1.1.length ≤ 1000000)
set_option maxHeartbeats 4000000 in
theorem fn123hall : FnOk Try.prog 123 S123hall := by
  refine fn_ofC (rs := [.tmp 2]) (env [(125, S125)] ⟨fn125, trivial⟩) Try.func123 (by kernel_rfl) rfl rfl Try.ntmps123 ?_
  rintro ⟨⟨(l : List Call), u1, u2⟩, u3⟩ hl G hG hB hQ
  have hB := GB.of hB
  simp only at hl
  refine AM.run2 hG 100 (by cbv) ?_ ?_
  · (simp only [sxs, sxb, and_self, and_true, true_and, implies_true, imp_self, bne_eq_false_iff_eq, Nat.zero_add, Nat.le_refl, Int.toNat_natCast, Int.ofNat_lt, Int.natCast_nonneg, decide_eq_true_eq, decide_eq_false_iff_not, bne_iff_ne, ne_eq]; try dsimp only [Kd.T, Kds.T, AK.T, AKs.T])
  refine AM.inlineB hG (by cbv) rfl (by cbv) Try.func138 (by kernel_rfl) rfl rfl Try.ntmps138 fun G1 hG1 hB1 hQ1 => ?_

  replace hB1 : GB G1 0 := ⟨hB1⟩
  refine AM.run2 hG1 100 (by cbv) ?_ ?_
  · (simp only [sxs, sxb, and_self, and_true, true_and, implies_true, imp_self, bne_eq_false_iff_eq, Nat.zero_add, Nat.le_refl, Int.toNat_natCast, Int.ofNat_lt, Int.natCast_nonneg, decide_eq_true_eq, decide_eq_false_iff_not, bne_iff_ne, ne_eq]; try dsimp only [Kd.T, Kds.T, AK.T, AKs.T])
  refine AM.rangeFunc hG1 rfl Try.func139 (by kernel_rfl) rfl rfl Try.ntmps139 ?_
  intro L rec G2 hG2 hB2 hL hQ2
  replace hB2 : GB G2 2 := hB2
  replace hL : LoopOk G2 1 L rec _ _ _ _ := hL
  refine AM.run2 hG2 100 (by cbv) ?_ ?_
  · (simp only [sxs, sxb, and_self, and_true, true_and, implies_true, imp_self, bne_eq_false_iff_eq, Nat.zero_add, Nat.le_refl, Int.toNat_natCast, Int.ofNat_lt, Int.natCast_nonneg, decide_eq_true_eq, decide_eq_false_iff_not, bne_iff_ne, ne_eq]; try dsimp only [Kd.T, Kds.T, AK.T, AKs.T])
  refine AM.emptyRow 0 0 31 CallK rfl (by simp) rfl ?_
  refine AM.loopI (fun z : Nat × List Call => (frame 22 [(0, .fn (.yield L) [] []), (1, .fb [.ro CallK fun _ => l] 0), (2, .fb [.fn (.func 125) [] []] 0), (6, .ro CallK fun _ => l), (7, .int .i64 (.t fun _ => nI l.length)), (8, .int .i64 (.t fun _ => nI z.1))],
    [.box 23 [.sl 2 4 (.l 0) (.t fun _ => z.2.length)], .obj fun _ => .loop rec, .row 31 CallK (fun _ => z.2)]))
    (fun z => z.1 ≤ l.length ∧ z.2.length ≤ z.1 ∧ z.2 = (l.take z.1).filter hallB) (fun z => l.length - z.1) (0, []) ⟨by simp, by simp, by simp⟩ ?_ ?_ ?_
  · cbv; (simp only [sxs, sxb, and_self, and_true, true_and, implies_true, imp_self, bne_eq_false_iff_eq, Nat.zero_add, Nat.le_refl, Int.toNat_natCast, Int.ofNat_lt, Int.natCast_nonneg, decide_eq_true_eq, decide_eq_false_iff_not, bne_iff_ne, ne_eq]; try dsimp only [Kd.T, Kds.T, AK.T, AKs.T]); all_goals ((repeat' apply And.intro) <;> first | rfl | assumption | exact trivial)
  · cbv; (simp only [sxs, sxb, and_self, and_true, true_and, implies_true, imp_self, bne_eq_false_iff_eq, Nat.zero_add, Nat.le_refl, Int.toNat_natCast, Int.ofNat_lt, Int.natCast_nonneg, decide_eq_true_eq, decide_eq_false_iff_not, bne_iff_ne, ne_eq]; try dsimp only [Kd.T, Kds.T, AK.T, AKs.T]); all_goals ((repeat' apply And.intro) <;> first | rfl | assumption | exact trivial)
  rintro ⟨i, m⟩ ⟨hi, hm, he⟩ ih
  simp only at hi hm he
  refine AM.run2 hG2 100 (by cbv) ?_ ?_
  · (simp only [sxs, sxb, and_self, and_true, true_and, implies_true, imp_self, bne_eq_false_iff_eq, Nat.zero_add, Nat.le_refl, Int.toNat_natCast, Int.ofNat_lt, Int.natCast_nonneg, decide_eq_true_eq, decide_eq_false_iff_not, bne_iff_ne, ne_eq]; try dsimp only [Kd.T, Kds.T, AK.T, AKs.T])
  refine AM.case 9 rfl (fun h2 => ?_) (fun h2 => ?_) <;> (simp only [sxs, sxb, and_self, and_true, true_and, implies_true, imp_self, bne_eq_false_iff_eq, Nat.zero_add, Nat.le_refl, Int.toNat_natCast, Int.ofNat_lt, Int.natCast_nonneg, decide_eq_true_eq, decide_eq_false_iff_not, bne_iff_ne, ne_eq] at h2; try dsimp only [Kd.T, Kds.T, AK.T, AKs.T] at h2)
  · have hnext := filter_step hallB zc h2
    rw [← he] at hnext
    refine AM.runTo2 hG2 16 100 (by cbv) ?_ ?_
    · (simp only [sxs, sxb, and_self, and_true, true_and, implies_true, imp_self, bne_eq_false_iff_eq, Nat.zero_add, Nat.le_refl, Int.toNat_natCast, Int.ofNat_lt, Int.natCast_nonneg, decide_eq_true_eq, decide_eq_false_iff_not, bne_iff_ne, ne_eq]; try dsimp only [Kd.T, Kds.T, AK.T, AKs.T])
      exact h2
    refine AM.case 15 rfl (fun (h3 : hallB (l.getD i zc) = true) => ?_) (fun (h3 : hallB (l.getD i zc) = false) => ?_)
    · rw [if_pos h3] at hnext
      refine AM.runTo2 hG2 18 100 (by cbv) ?_ ?_
      · (simp only [sxs, sxb, and_self, and_true, true_and, implies_true, imp_self, bne_eq_false_iff_eq, Nat.zero_add, Nat.le_refl, Int.toNat_natCast, Int.ofNat_lt, Int.natCast_nonneg, decide_eq_true_eq, decide_eq_false_iff_not, bne_iff_ne, ne_eq]; try dsimp only [Kd.T, Kds.T, AK.T, AKs.T])
      refine AM.yield (g := fun _ => True) hG2 hL rfl rfl rfl rfl (by simp) rfl ?_
      intro G3 hG3 hB3 hL3 hr3 hQ3
      replace hB3 : GB G3 4 := hB3
      refine AM.run2 hG3 100 (by cbv) ?_ ?_
      · (simp only [sxs, sxb, and_self, and_true, true_and, implies_true, imp_self, bne_eq_false_iff_eq, Nat.zero_add, Nat.le_refl, Int.toNat_natCast, Int.ofNat_lt, Int.natCast_nonneg, decide_eq_true_eq, decide_eq_false_iff_not, bne_iff_ne, ne_eq]; try dsimp only [Kd.T, Kds.T, AK.T, AKs.T])
      refine AM.beg hL3 rfl (by simp) ?_
      refine AM.run2 hG3 100 (by cbv) ?_ ?_
      · (simp only [sxs, sxb, and_self, and_true, true_and, implies_true, imp_self, bne_eq_false_iff_eq, Nat.zero_add, Nat.le_refl, Int.toNat_natCast, Int.ofNat_lt, Int.natCast_nonneg, decide_eq_true_eq, decide_eq_false_iff_not, bne_iff_ne, ne_eq]; try dsimp only [Kd.T, Kds.T, AK.T, AKs.T])
        simp only [maxLen, List.length_take, List.length_cons, List.length_nil]
        omega
      refine AM.roundEnd hr3 (hQ3 _ _ rfl ?_)
      refine AM.run2 hG2 100 (by cbv) ?_ ?_
      · (simp only [sxs, sxb, and_self, and_true, true_and, implies_true, imp_self, bne_eq_false_iff_eq, Nat.zero_add, Nat.le_refl, Int.toNat_natCast, Int.ofNat_lt, Int.natCast_nonneg, decide_eq_true_eq, decide_eq_false_iff_not, bne_iff_ne, ne_eq]; try dsimp only [Kd.T, Kds.T, AK.T, AKs.T])
      refine AM.ren hB2 [0, 1, 6] (by cbv) (by cbv) (by cbv) ?_ ?_ (ih (i + 1, m ++ [l.getD i zc]) ⟨by simp only; omega, by simp only [List.length_append, List.length_cons, List.length_nil]; omega, hnext.symm⟩ (by simp only; omega))
      · (simp only [sxs, sxb, and_self, and_true, true_and, implies_true, imp_self, bne_eq_false_iff_eq, Nat.zero_add, Nat.le_refl, Int.toNat_natCast, Int.ofNat_lt, Int.natCast_nonneg, decide_eq_true_eq, decide_eq_false_iff_not, bne_iff_ne, ne_eq]; try dsimp only [Kd.T, Kds.T, AK.T, AKs.T])
        rw [w64s (by omega)]
      · (simp only [sxs, sxb, and_self, and_true, true_and, implies_true, imp_self, bne_eq_false_iff_eq, Nat.zero_add, Nat.le_refl, Int.toNat_natCast, Int.ofNat_lt, Int.natCast_nonneg, decide_eq_true_eq, decide_eq_false_iff_not, bne_iff_ne, ne_eq]; try dsimp only [Kd.T, Kds.T, AK.T, AKs.T])
        rw [List.length_append]
        exact ⟨rfl, rfl⟩
    · rw [if_neg (by rw [h3]; decide), List.append_nil] at hnext
      refine AM.run2 hG2 100 (by cbv) ?_ ?_
      · (simp only [sxs, sxb, and_self, and_true, true_and, implies_true, imp_self, bne_eq_false_iff_eq, Nat.zero_add, Nat.le_refl, Int.toNat_natCast, Int.ofNat_lt, Int.natCast_nonneg, decide_eq_true_eq, decide_eq_false_iff_not, bne_iff_ne, ne_eq]; try dsimp only [Kd.T, Kds.T, AK.T, AKs.T])
      refine AM.ren hB2 [0, 1, 2] (by cbv) (by cbv) (by cbv) ?_ ?_ (ih (i + 1, m) ⟨by simp only; omega, by simp only; omega, hnext.symm⟩ (by simp only; omega))
      · (simp only [sxs, sxb, and_self, and_true, true_and, implies_true, imp_self, bne_eq_false_iff_eq, Nat.zero_add, Nat.le_refl, Int.toNat_natCast, Int.ofNat_lt, Int.natCast_nonneg, decide_eq_true_eq, decide_eq_false_iff_not, bne_iff_ne, ne_eq]; try dsimp only [Kd.T, Kds.T, AK.T, AKs.T])
        rw [w64s (by omega)]
      · (simp only [sxs, sxb, and_self, and_true, true_and, implies_true, imp_self, bne_eq_false_iff_eq, Nat.zero_add, Nat.le_refl, Int.toNat_natCast, Int.ofNat_lt, Int.natCast_nonneg, decide_eq_true_eq, decide_eq_false_iff_not, bne_iff_ne, ne_eq]; try dsimp only [Kd.T, Kds.T, AK.T, AKs.T])
  clear ih
  rw [List.take_of_length_le (by omega)] at he
  refine AM.run2 hG2 100 (by cbv) ?_ ?_
  · (simp only [sxs, sxb, and_self, and_true, true_and, implies_true, imp_self, bne_eq_false_iff_eq, Nat.zero_add, Nat.le_refl, Int.toNat_natCast, Int.ofNat_lt, Int.natCast_nonneg, decide_eq_true_eq, decide_eq_false_iff_not, bne_iff_ne, ne_eq]; try dsimp only [Kd.T, Kds.T, AK.T, AKs.T])
  refine AM.fall2 hG2 (by cbv) (by (simp only [sxs, sxb, and_self, and_true, true_and, implies_true, imp_self, bne_eq_false_iff_eq, Nat.zero_add, Nat.le_refl, Int.toNat_natCast, Int.ofNat_lt, Int.natCast_nonneg, decide_eq_true_eq, decide_eq_false_iff_not, bne_iff_ne, ne_eq]; try dsimp only [Kd.T, Kds.T, AK.T, AKs.T])) (hQ2 _ _ rfl ?_)
  refine AM.run2 hG1 100 (by cbv) ?_ ?_
  · (simp only [sxs, sxb, and_self, and_true, true_and, implies_true, imp_self, bne_eq_false_iff_eq, Nat.zero_add, Nat.le_refl, Int.toNat_natCast, Int.ofNat_lt, Int.natCast_nonneg, decide_eq_true_eq, decide_eq_false_iff_not, bne_iff_ne, ne_eq]; try dsimp only [Kd.T, Kds.T, AK.T, AKs.T])
  refine AM.ret2 hG1 (by cbv) (by (simp only [sxs, sxb, and_self, and_true, true_and, implies_true, imp_self, bne_eq_false_iff_eq, Nat.zero_add, Nat.le_refl, Int.toNat_natCast, Int.ofNat_lt, Int.natCast_nonneg, decide_eq_true_eq, decide_eq_false_iff_not, bne_iff_ne, ne_eq]; try dsimp only [Kd.T, Kds.T, AK.T, AKs.T])) (hQ1 _ _ ?_)
  refine AM.run2 hG 100 (by cbv) ?_ ?_
  · (simp only [sxs, sxb, and_self, and_true, true_and, implies_true, imp_self, bne_eq_false_iff_eq, Nat.zero_add, Nat.le_refl, Int.toNat_natCast, Int.ofNat_lt, Int.natCast_nonneg, decide_eq_true_eq, decide_eq_false_iff_not, bne_iff_ne, ne_eq]; try dsimp only [Kd.T, Kds.T, AK.T, AKs.T])
  refine AM.ret2 hG (by cbv) (by (simp only [sxs, sxb, and_self, and_true, true_and, implies_true, imp_self, bne_eq_false_iff_eq, Nat.zero_add, Nat.le_refl, Int.toNat_natCast, Int.ofNat_lt, Int.natCast_nonneg, decide_eq_true_eq, decide_eq_false_iff_not, bne_iff_ne, ne_eq]; try dsimp only [Kd.T, Kds.T, AK.T, AKs.T])) (hQ _ _ (FinRo.of (by cbv) (by cbv) ?_ ?_))
  · (simp only [sxs, sxb, and_self, and_true, true_and, implies_true, imp_self, bne_eq_false_iff_eq, Nat.zero_add, Nat.le_refl, Int.toNat_natCast, Int.ofNat_lt, Int.natCast_nonneg, decide_eq_true_eq, decide_eq_false_iff_not, bne_iff_ne, ne_eq]; try dsimp only [Kd.T, Kds.T, AK.T, AKs.T])
  try (simp only [sxs, sxb, and_self, and_true, true_and, implies_true, imp_self, bne_eq_false_iff_eq, Nat.zero_add, Nat.le_refl, Int.toNat_natCast, Int.ofNat_lt, Int.natCast_nonneg, decide_eq_true_eq, decide_eq_false_iff_not, bne_iff_ne, ne_eq]; try dsimp only [Kd.T, Kds.T, AK.T, AKs.T])
  rw [List.take_length]
  exact he
abbrev zHand : Hand := ([], [], [], [], ())
def inL (w : Int) (n : Nat) : List Bool := (List.range n).map fun i => decide (w / 2 ^ i % 2 = 0)
theorem inL_succ (w : Int) (n : Nat) : inL w (n + 1) = inL w n ++ [decide (w / 2 ^ n % 2 = 0)] := by
  rw [inL, List.range_succ, List.map_append]
  rfl
theorem inL_len (w : Int) (n : Nat) : (inL w n).length = n := by simp [inL]
theorem set_in {w : Int} {i n : Nat} (b : Bool) (hb : b = decide (w / 2 ^ i % 2 = 0)) (h : i < n) : (inL w i ++ List.replicate (n - i) false).set i b = inL w (i + 1) ++ List.replicate (n - (i + 1)) false := by
  obtain ⟨m, hm⟩ : ∃ m, n - i = m + 1 := ⟨n - i - 1, by omega⟩
  rw [hm, show n - (i + 1) = m by omega, List.replicate_succ, List.set_append_right _ _ (by rw [inL_len]; omega), inL_len, Nat.sub_self, List.set_cons_zero, inL_succ, List.append_assoc, hb]
  rfl
def overR (h : Hand) (e : Int) : Hand := (h.1, List.replicate h.1.length false, inL (wordR h e) h.1.length, h.2.2.2.1.map hallsR, ())
def overO (h : Hand) (e : Int) : Hand × Int × Int := if askE h e ≠ 0 then (zHand, 0, askE h e) else (overR h e, wordR h e, 0)
theorem map_step {α β : Type} (f : α → β) (d : α) {l : List α} {i : Nat} (h : i < l.length) : (l.take (i + 1)).map f = (l.take i).map f ++ [f (l.getD i d)] := by
  rw [take_succG d h, List.map_append]; rfl
def S72 : List AV → Option FOut := sigSpec [HandK, I64] [HandK, I64, I64] (fun x : Hand × Int × Unit => ((overO x.1 x.2.1).1, (overO x.1 x.2.1).2.1, (overO x.1 x.2.1).2.2, ())) (fun x : Hand × Int × Unit => handL x.1)
set_option maxHeartbeats 8000000 in
theorem fn72 : FnOk Try.prog 72 S72 := by
  refine fn_ofB (rs := [.cell 4 78, .tmp 5, .tmp 6]) (env [(68, S68), (122, S122), (124, S124hall), (123, S123hall)] ⟨fn68, fn122, fn124hall, fn123hall, trivial⟩) Try.func72 (by kernel_rfl) rfl rfl Try.ntmps72 ?_
  rintro ⟨⟨(ld : List Int), (fl : List Bool), (inn : List Bool), (ts : List Table), ⟨⟩⟩, (e : Int), u2⟩ ⟨h1, h2, h3, h4, h5⟩ G hG hB hQ
  have hB := GB.of hB
  simp only at h1 h2 h3 h4 h5
  refine AM.runTo2 hG 20 100 (by cbv) ?_ ?_
  · (simp only [sxs, sxb, and_self, and_true, true_and, implies_true, imp_self, bne_eq_false_iff_eq, Nat.zero_add, Nat.le_refl, Int.toNat_natCast, Int.ofNat_lt, Int.natCast_nonneg, decide_eq_true_eq, decide_eq_false_iff_not, bne_iff_ne, ne_eq]; try dsimp only [Kd.T, Kds.T, AK.T, AKs.T])
    exact ⟨h1, by omega⟩
  obtain ⟨w, er, hw⟩ : ∃ w er, wordO (ld, fl, inn, ts, ()) e = (w, er) := ⟨_, _, rfl⟩
  refine AM.imp2 (fr' := frame 72 [(2, .ptr 0 0), (4, .ptr 1 0), (7, .int .i64 (.t fun _ => w)), (8, .int .i64 (.t fun _ => er))])
    (h' := [.box 78 [.ro I64 fun _ => ld, .ro .bool fun _ => fl, .ro .bool fun _ => inn, .ro TableK fun _ => ts], .box 78 [.nils, .nils, .nils, .nils]]) (by cbv) (by cbv) ?_ ?_ ?_
  · (simp only [sxs, sxb, and_self, and_true, true_and, implies_true, imp_self, bne_eq_false_iff_eq, Nat.zero_add, Nat.le_refl, Int.toNat_natCast, Int.ofNat_lt, Int.natCast_nonneg, decide_eq_true_eq, decide_eq_false_iff_not, bne_iff_ne, ne_eq]; try dsimp only [Kd.T, Kds.T, AK.T, AKs.T])
    rw [hw]
    exact ⟨rfl, rfl⟩
  · (simp only [sxs, sxb, and_self, and_true, true_and, implies_true, imp_self, bne_eq_false_iff_eq, Nat.zero_add, Nat.le_refl, Int.toNat_natCast, Int.ofNat_lt, Int.natCast_nonneg, decide_eq_true_eq, decide_eq_false_iff_not, bne_iff_ne, ne_eq]; try dsimp only [Kd.T, Kds.T, AK.T, AKs.T])
  refine AM.run2 hG 100 (by cbv) ?_ ?_
  · (simp only [sxs, sxb, and_self, and_true, true_and, implies_true, imp_self, bne_eq_false_iff_eq, Nat.zero_add, Nat.le_refl, Int.toNat_natCast, Int.ofNat_lt, Int.natCast_nonneg, decide_eq_true_eq, decide_eq_false_iff_not, bne_iff_ne, ne_eq]; try dsimp only [Kd.T, Kds.T, AK.T, AKs.T])
  refine AM.case 21 rfl (fun c => ?_) (fun c => ?_) <;> (simp only [sxs, sxb, and_self, and_true, true_and, implies_true, imp_self, bne_eq_false_iff_eq, Nat.zero_add, Nat.le_refl, Int.toNat_natCast, Int.ofNat_lt, Int.natCast_nonneg, decide_eq_true_eq, decide_eq_false_iff_not, bne_iff_ne, ne_eq] at c; try dsimp only [Kd.T, Kds.T, AK.T, AKs.T] at c)
  · refine AM.run2 hG 100 (by cbv) ?_ ?_
    · (simp only [sxs, sxb, and_self, and_true, true_and, implies_true, imp_self, bne_eq_false_iff_eq, Nat.zero_add, Nat.le_refl, Int.toNat_natCast, Int.ofNat_lt, Int.natCast_nonneg, decide_eq_true_eq, decide_eq_false_iff_not, bne_iff_ne, ne_eq]; try dsimp only [Kd.T, Kds.T, AK.T, AKs.T])
    refine AM.ret2 hG (by cbv) (by (simp only [sxs, sxb, and_self, and_true, true_and, implies_true, imp_self, bne_eq_false_iff_eq, Nat.zero_add, Nat.le_refl, Int.toNat_natCast, Int.ofNat_lt, Int.natCast_nonneg, decide_eq_true_eq, decide_eq_false_iff_not, bne_iff_ne, ne_eq]; try dsimp only [Kd.T, Kds.T, AK.T, AKs.T])) (hQ _ _ (FinRo.of (by cbv) (by cbv) ?_ ?_))
    · (simp only [sxs, sxb, and_self, and_true, true_and, implies_true, imp_self, bne_eq_false_iff_eq, Nat.zero_add, Nat.le_refl, Int.toNat_natCast, Int.ofNat_lt, Int.natCast_nonneg, decide_eq_true_eq, decide_eq_false_iff_not, bne_iff_ne, ne_eq]; try dsimp only [Kd.T, Kds.T, AK.T, AKs.T])
    try (simp only [sxs, sxb, and_self, and_true, true_and, implies_true, imp_self, bne_eq_false_iff_eq, Nat.zero_add, Nat.le_refl, Int.toNat_natCast, Int.ofNat_lt, Int.natCast_nonneg, decide_eq_true_eq, decide_eq_false_iff_not, bne_iff_ne, ne_eq]; try dsimp only [Kd.T, Kds.T, AK.T, AKs.T])
    have hx : overO (ld, fl, inn, ts, PUnit.unit) e = (zHand, 0, er) := by
      rw [wordO] at hw
      split at hw
      · rename_i q
        obtain ⟨rfl, rfl⟩ := Prod.mk.inj hw
        rw [overO, if_pos q]
      · obtain ⟨_, rfl⟩ := Prod.mk.inj hw
        exact absurd rfl c
    rw [hx]
    exact ⟨⟨rfl, rfl, rfl, rfl⟩, rfl, rfl⟩
  have ha : askE (ld, fl, inn, ts, ()) e = 0 ∧ wordR (ld, fl, inn, ts, ()) e = w := by
    rw [wordO] at hw
    split at hw
    · rename_i q
      obtain ⟨_, rfl⟩ := Prod.mk.inj hw
      exact absurd c q
    · rename_i q
      exact ⟨by simpa using q, (Prod.mk.inj hw).1⟩
  obtain ⟨ha, hwr⟩ := ha
  obtain ⟨⟨k1, k2, k3, k4⟩, k5⟩ := askE_ok ha
  simp only at k1 k2 k3 k4
  have hres : overO (ld, fl, inn, ts, ()) e = ((ld, List.replicate ld.length false, inL w ld.length, ts.map hallsR, ()), w, 0) := by
    rw [overO, if_neg (by rw [ha]; decide), overR, hwr]
  obtain ⟨n, hn⟩ : ∃ n, ld.length = n := ⟨_, rfl⟩
  have hw0 := wordN_in ld fl e ld.length
  rw [show wordN ld fl e ld.length = w from hwr, hn] at hw0
  rw [hn] at hres h1 k1
  have hp8 : (2 : Int) ^ n ≤ 256 := by
    have q1 : (2 : Nat) ^ n ≤ 2 ^ 8 := Nat.pow_le_pow_right (by decide) k1
    have q2 : ((2 : Int)) ^ n = (((2 : Nat) ^ n : Nat) : Int) := by simp
    rw [q2]
    omega
  refine AM.run2 hG 100 (by cbv) ?_ ?_
  · (simp only [sxs, sxb, and_self, and_true, true_and, implies_true, imp_self, bne_eq_false_iff_eq, Nat.zero_add, Nat.le_refl, Int.toNat_natCast, Int.ofNat_lt, Int.natCast_nonneg, decide_eq_true_eq, decide_eq_false_iff_not, bne_iff_ne, ne_eq]; try dsimp only [Kd.T, Kds.T, AK.T, AKs.T])
    rw [hn]
    omega
  refine AM.loopI (fun i : Nat => (frame 72 [(2, .ptr 0 0), (4, .ptr 1 0), (7, .int .i64 (.t fun _ => w)), (10, .ptr 4 0), (35, .int .i64 (.t fun _ => nI n)), (36, .int .i64 (.t fun _ => nI i))],
    [.box 78 [.ro I64 fun _ => ld, .ro .bool fun _ => fl, .ro .bool fun _ => inn, .ro TableK fun _ => ts], .box 78 [.nils, .nils, .nils, .nils],
     .row 4 .bool (fun _ => List.replicate n false), .row 4 .bool (fun _ => inL w i ++ List.replicate (n - i) false), .box 78 [.ro I64 fun _ => ld, .sl 2 1 (.l 0) (.t fun _ => n), .sl 3 1 (.l 0) (.t fun _ => n), .nils]])) (fun i => i ≤ n) (fun i => n - i) 0 (Nat.zero_le _) ?_ ?_ ?_
  · cbv; (simp only [sxs, sxb, and_self, and_true, true_and, implies_true, imp_self, bne_eq_false_iff_eq, Nat.zero_add, Nat.le_refl, Int.toNat_natCast, Int.ofNat_lt, Int.natCast_nonneg, decide_eq_true_eq, decide_eq_false_iff_not, bne_iff_ne, ne_eq]; try dsimp only [Kd.T, Kds.T, AK.T, AKs.T])
    exact ⟨congrArg Int.ofNat hn, rfl⟩
  · cbv; (simp only [sxs, sxb, and_self, and_true, true_and, implies_true, imp_self, bne_eq_false_iff_eq, Nat.zero_add, Nat.le_refl, Int.toNat_natCast, Int.ofNat_lt, Int.natCast_nonneg, decide_eq_true_eq, decide_eq_false_iff_not, bne_iff_ne, ne_eq]; try dsimp only [Kd.T, Kds.T, AK.T, AKs.T])
    rw [hn]
    exact ⟨rfl, by rw [Nat.sub_zero]; rfl, rfl⟩
  rintro i hi ih
  refine AM.run2 hG 100 (by cbv) ?_ ?_
  · (simp only [sxs, sxb, and_self, and_true, true_and, implies_true, imp_self, bne_eq_false_iff_eq, Nat.zero_add, Nat.le_refl, Int.toNat_natCast, Int.ofNat_lt, Int.natCast_nonneg, decide_eq_true_eq, decide_eq_false_iff_not, bne_iff_ne, ne_eq]; try dsimp only [Kd.T, Kds.T, AK.T, AKs.T])
  refine AM.case 37 rfl (fun h6 => ?_) (fun h6 => ?_) <;> (simp only [sxs, sxb, and_self, and_true, true_and, implies_true, imp_self, bne_eq_false_iff_eq, Nat.zero_add, Nat.le_refl, Int.toNat_natCast, Int.ofNat_lt, Int.natCast_nonneg, decide_eq_true_eq, decide_eq_false_iff_not, bne_iff_ne, ne_eq] at h6; try dsimp only [Kd.T, Kds.T, AK.T, AKs.T] at h6)
  · have hd := div_in (w := w) ⟨hw0.1, by omega⟩ i
    refine AM.run2 hG 100 (by cbv) ?_ ?_
    · (simp only [sxs, sxb, and_self, and_true, true_and, implies_true, imp_self, bne_eq_false_iff_eq, Nat.zero_add, Nat.le_refl, Int.toNat_natCast, Int.ofNat_lt, Int.natCast_nonneg, decide_eq_true_eq, decide_eq_false_iff_not, bne_iff_ne, ne_eq, List.length_append, inL_len, List.length_replicate]; try dsimp only [Kd.T, Kds.T, AK.T, AKs.T])
      all_goals ((repeat' first | apply And.intro | intro _) <;> first | exact u64_nn2 _ | omega)
    refine AM.imp2 (by cbv) (by cbv) ?_ ?_ (ih (i + 1) (by omega) (by omega))
    · (simp only [sxs, sxb, and_self, and_true, true_and, implies_true, imp_self, bne_eq_false_iff_eq, Nat.zero_add, Nat.le_refl, Int.toNat_natCast, Int.ofNat_lt, Int.natCast_nonneg, decide_eq_true_eq, decide_eq_false_iff_not, bne_iff_ne, ne_eq]; try dsimp only [Kd.T, Kds.T, AK.T, AKs.T])
      rw [w64s (by omega)]
    · (simp only [sxs, sxb, and_self, and_true, true_and, implies_true, imp_self, bne_eq_false_iff_eq, Nat.zero_add, Nat.le_refl, Int.toNat_natCast, Int.ofNat_lt, Int.natCast_nonneg, decide_eq_true_eq, decide_eq_false_iff_not, bne_iff_ne, ne_eq]; try dsimp only [Kd.T, Kds.T, AK.T, AKs.T])
      refine set_in _ ?_ (by omega)
      rw [shr_pow w (by omega), and_one64 hd]
      by_cases e : w / 2 ^ i % 2 = 0 <;> simp [eqI, e]
  obtain rfl : i = n := by omega
  clear ih
  refine AM.frz [2, 3] (by cbv) (by (simp only [sxs, sxb, and_self, and_true, true_and, implies_true, imp_self, bne_eq_false_iff_eq, Nat.zero_add, Nat.le_refl, Int.toNat_natCast, Int.ofNat_lt, Int.natCast_nonneg, decide_eq_true_eq, decide_eq_false_iff_not, bne_iff_ne, ne_eq]; try dsimp only [Kd.T, Kds.T, AK.T, AKs.T]); rw [List.length_append, inL_len, List.length_replicate]; omega) ?_
  refine AM.run2 hG 100 (by cbv) ?_ ?_
  · (simp only [sxs, sxb, and_self, and_true, true_and, implies_true, imp_self, bne_eq_false_iff_eq, Nat.zero_add, Nat.le_refl, Int.toNat_natCast, Int.ofNat_lt, Int.natCast_nonneg, decide_eq_true_eq, decide_eq_false_iff_not, bne_iff_ne, ne_eq]; try dsimp only [Kd.T, Kds.T, AK.T, AKs.T])
  refine AM.emptyRow 4 3 25 TableK rfl (by simp) rfl ?_
  refine AM.loopI (fun z : Nat × List Table => (frame 72 [(2, .ptr 0 0), (4, .ptr 1 0), (7, .int .i64 (.t fun _ => w)), (10, .ptr 4 0), (51, .ro TableK fun _ => ts), (52, .int .i64 (.t fun _ => nI ts.length)), (53, .int .i64 (.t fun _ => nI z.1))],
    [.box 78 [.ro I64 fun _ => ld, .ro .bool fun _ => fl, .ro .bool fun _ => inn, .ro TableK fun _ => ts], .box 78 [.nils, .nils, .nils, .nils], .dead, .dead,
     .box 78 [.ro I64 fun _ => ld, .ro .bool fun _ => List.replicate i false, .ro .bool fun _ => inL w i, .sl 5 2 (.l 0) (.t fun _ => z.2.length)], .row 25 TableK (fun _ => z.2)]))
    (fun z => z.1 ≤ ts.length ∧ z.2.length = z.1 ∧ z.2 = (ts.take z.1).map hallsR) (fun z => ts.length - z.1) (0, []) ⟨by simp, rfl, by simp⟩ ?_ ?_ ?_
  · cbv; (simp only [sxs, sxb, and_self, and_true, true_and, implies_true, imp_self, bne_eq_false_iff_eq, Nat.zero_add, Nat.le_refl, Int.toNat_natCast, Int.ofNat_lt, Int.natCast_nonneg, decide_eq_true_eq, decide_eq_false_iff_not, bne_iff_ne, ne_eq]; try dsimp only [Kd.T, Kds.T, AK.T, AKs.T]); all_goals ((repeat' apply And.intro) <;> first | rfl | assumption | exact trivial)
  · cbv; (simp only [sxs, sxb, and_self, and_true, true_and, implies_true, imp_self, bne_eq_false_iff_eq, Nat.zero_add, Nat.le_refl, Int.toNat_natCast, Int.ofNat_lt, Int.natCast_nonneg, decide_eq_true_eq, decide_eq_false_iff_not, bne_iff_ne, ne_eq]; try dsimp only [Kd.T, Kds.T, AK.T, AKs.T])
    exact ⟨List.take_of_length_le (by simp), by rw [Nat.sub_self, List.replicate_zero, List.append_nil]; exact List.take_of_length_le (by rw [inL_len]; omega)⟩
  rintro ⟨j, m⟩ ⟨hj, hm, he⟩ ih
  simp only at hj hm he
  refine AM.run2 hG 100 (by cbv) ?_ ?_
  · (simp only [sxs, sxb, and_self, and_true, true_and, implies_true, imp_self, bne_eq_false_iff_eq, Nat.zero_add, Nat.le_refl, Int.toNat_natCast, Int.ofNat_lt, Int.natCast_nonneg, decide_eq_true_eq, decide_eq_false_iff_not, bne_iff_ne, ne_eq]; try dsimp only [Kd.T, Kds.T, AK.T, AKs.T])
  refine AM.case 54 rfl (fun h6 => ?_) (fun h6 => ?_) <;> (simp only [sxs, sxb, and_self, and_true, true_and, implies_true, imp_self, bne_eq_false_iff_eq, Nat.zero_add, Nat.le_refl, Int.toNat_natCast, Int.ofNat_lt, Int.natCast_nonneg, decide_eq_true_eq, decide_eq_false_iff_not, bne_iff_ne, ne_eq] at h6; try dsimp only [Kd.T, Kds.T, AK.T, AKs.T] at h6)
  · refine AM.run2 hG 100 (by cbv) ?_ ?_
    · (simp only [sxs, sxb, and_self, and_true, true_and, implies_true, imp_self, bne_eq_false_iff_eq, Nat.zero_add, Nat.le_refl, Int.toNat_natCast, Int.ofNat_lt, Int.natCast_nonneg, decide_eq_true_eq, decide_eq_false_iff_not, bne_iff_ne, ne_eq]; try dsimp only [Kd.T, Kds.T, AK.T, AKs.T])
      simp only [maxLen, List.length_take, List.length_cons, List.length_nil]
      exact ⟨h5 j, ⟨by omega, by omega⟩, h6⟩
    refine AM.ren hB [0, 1, 2, 3, 4, 8] (by cbv) (by cbv) (by cbv) ?_ ?_ (ih (j + 1, m ++ [hallsR (ts.getD j zT)]) ⟨by simp only; omega, by simp only [List.length_append, List.length_cons, List.length_nil]; omega, by rw [he, map_step hallsR zT h6]⟩ (by simp only; omega))
    · (simp only [sxs, sxb, and_self, and_true, true_and, implies_true, imp_self, bne_eq_false_iff_eq, Nat.zero_add, Nat.le_refl, Int.toNat_natCast, Int.ofNat_lt, Int.natCast_nonneg, decide_eq_true_eq, decide_eq_false_iff_not, bne_iff_ne, ne_eq]; try dsimp only [Kd.T, Kds.T, AK.T, AKs.T])
      rw [w64s (by omega)]
    · (simp only [sxs, sxb, and_self, and_true, true_and, implies_true, imp_self, bne_eq_false_iff_eq, Nat.zero_add, Nat.le_refl, Int.toNat_natCast, Int.ofNat_lt, Int.natCast_nonneg, decide_eq_true_eq, decide_eq_false_iff_not, bne_iff_ne, ne_eq]; try dsimp only [Kd.T, Kds.T, AK.T, AKs.T])
      rw [List.length_append]
      exact ⟨rfl, rfl⟩
  clear ih
  rw [List.take_of_length_le (by omega)] at he
  refine AM.run2 hG 100 (by cbv) ?_ ?_
  · (simp only [sxs, sxb, and_self, and_true, true_and, implies_true, imp_self, bne_eq_false_iff_eq, Nat.zero_add, Nat.le_refl, Int.toNat_natCast, Int.ofNat_lt, Int.natCast_nonneg, decide_eq_true_eq, decide_eq_false_iff_not, bne_iff_ne, ne_eq]; try dsimp only [Kd.T, Kds.T, AK.T, AKs.T])
  refine AM.ret2 hG (by cbv) (by (simp only [sxs, sxb, and_self, and_true, true_and, implies_true, imp_self, bne_eq_false_iff_eq, Nat.zero_add, Nat.le_refl, Int.toNat_natCast, Int.ofNat_lt, Int.natCast_nonneg, decide_eq_true_eq, decide_eq_false_iff_not, bne_iff_ne, ne_eq]; try dsimp only [Kd.T, Kds.T, AK.T, AKs.T])) (hQ _ _ (FinRo.of (by cbv) (by cbv) ?_ ?_))
  · (simp only [sxs, sxb, and_self, and_true, true_and, implies_true, imp_self, bne_eq_false_iff_eq, Nat.zero_add, Nat.le_refl, Int.toNat_natCast, Int.ofNat_lt, Int.natCast_nonneg, decide_eq_true_eq, decide_eq_false_iff_not, bne_iff_ne, ne_eq]; try dsimp only [Kd.T, Kds.T, AK.T, AKs.T])
  try (simp only [sxs, sxb, and_self, and_true, true_and, implies_true, imp_self, bne_eq_false_iff_eq, Nat.zero_add, Nat.le_refl, Int.toNat_natCast, Int.ofNat_lt, Int.natCast_nonneg, decide_eq_true_eq, decide_eq_false_iff_not, bne_iff_ne, ne_eq]; try dsimp only [Kd.T, Kds.T, AK.T, AKs.T])
  rw [List.take_length, hres]
  exact ⟨⟨rfl, rfl, rfl, he⟩, rfl, rfl⟩
def S119 : List AV → Option FOut := sigSpec [HandK, I64] [HandK] (fun x : Hand × Int × Unit => (overR x.1 x.2.1, ())) (fun x : Hand × Int × Unit => handL x.1 ∧ x.1.1.length ≤ 8 ∧ x.1.2.1.length = x.1.1.length ∧ x.1.2.2.2.1.length = 3)
set_option maxHeartbeats 8000000 in
theorem fn119 : FnOk Try.prog 119 S119 := by
  refine fn_ofB (rs := [.cell 4 78]) (env [(118, S118), (127, S127)] ⟨fn118, fn127, trivial⟩) Try.func119 (by kernel_rfl) rfl rfl Try.ntmps119 ?_
  rintro ⟨⟨(ld : List Int), (fl : List Bool), (inn : List Bool), (ts : List Table), ⟨⟩⟩, (e : Int), u2⟩ ⟨⟨h1, h2, h3, h4, h5⟩, k1, k2, k3⟩ G hG hB hQ
  have hB := GB.of hB
  simp only at h1 h2 h3 h4 h5 k1 k2 k3
  obtain ⟨w, hw⟩ : ∃ w, wordR (ld, fl, inn, ts, ()) e = w := ⟨_, rfl⟩
  obtain ⟨n, hn⟩ : ∃ n, ld.length = n := ⟨_, rfl⟩
  have hw0 := wordN_in ld fl e ld.length
  rw [show wordN ld fl e ld.length = w from hw, hn] at hw0
  have hres : overR (ld, fl, inn, ts, ()) e = (ld, List.replicate n false, inL w n, ts.map hallsR, ()) := by rw [overR, hw]; simp only [hn]
  rw [hn] at k1
  have hp8 : (2 : Int) ^ n ≤ 256 := by
    have q1 : (2 : Nat) ^ n ≤ 2 ^ 8 := Nat.pow_le_pow_right (by decide) k1
    have q2 : ((2 : Int)) ^ n = (((2 : Nat) ^ n : Nat) : Int) := by simp
    rw [q2]
    omega
  refine AM.run2 hG 100 (by cbv) ?_ ?_
  · (simp only [sxs, sxb, and_self, and_true, true_and, implies_true, imp_self, bne_eq_false_iff_eq, Nat.zero_add, Nat.le_refl, Int.toNat_natCast, Int.ofNat_lt, Int.natCast_nonneg, decide_eq_true_eq, decide_eq_false_iff_not, bne_iff_ne, ne_eq]; try dsimp only [Kd.T, Kds.T, AK.T, AKs.T])
    simp only [maxLen]
    omega
  refine AM.frz [3, 4] (by cbv) (by (simp only [sxs, sxb, and_self, and_true, true_and, implies_true, imp_self, bne_eq_false_iff_eq, Nat.zero_add, Nat.le_refl, Int.toNat_natCast, Int.ofNat_lt, Int.natCast_nonneg, decide_eq_true_eq, decide_eq_false_iff_not, bne_iff_ne, ne_eq]; try dsimp only [Kd.T, Kds.T, AK.T, AKs.T]); simp) ?_
  refine AM.emptyRow 5 2 4 .bool rfl (by simp) rfl ?_
  refine AM.loopI (fun i : Nat => (frame 55 [(2, .ptr 0 0), (4, .ptr 1 0), (5, .int .i64 (.t fun _ => w)), (6, .ptr 5 0), (7, .int .i64 (.t fun _ => nI i))],
    [.box 78 [.ro I64 fun _ => ld, .ro .bool fun _ => fl, .ro .bool fun _ => inn, .ro TableK fun _ => ts], .box 78 [.nils, .nils, .nils, .nils], .dead, .dead, .dead, .box 78 [.ro I64 fun _ => ld, .ro .bool fun _ => List.replicate n false, .sl 6 1 (.l 0) (.t fun _ => i), .nils], .row 4 .bool (fun _ => inL w i)])) (fun i => i ≤ n) (fun i => n - i) 0 (Nat.zero_le _) ?_ ?_ ?_
  · cbv; (simp only [sxs, sxb, and_self, and_true, true_and, implies_true, imp_self, bne_eq_false_iff_eq, Nat.zero_add, Nat.le_refl, Int.toNat_natCast, Int.ofNat_lt, Int.natCast_nonneg, decide_eq_true_eq, decide_eq_false_iff_not, bne_iff_ne, ne_eq]; try dsimp only [Kd.T, Kds.T, AK.T, AKs.T])
    exact ⟨hw, rfl⟩
  · cbv; (simp only [sxs, sxb, and_self, and_true, true_and, implies_true, imp_self, bne_eq_false_iff_eq, Nat.zero_add, Nat.le_refl, Int.toNat_natCast, Int.ofNat_lt, Int.natCast_nonneg, decide_eq_true_eq, decide_eq_false_iff_not, bne_iff_ne, ne_eq]; try dsimp only [Kd.T, Kds.T, AK.T, AKs.T])
    rw [hn]
    exact ⟨⟨List.take_of_length_le (by omega), List.take_of_length_le (by simp)⟩, rfl⟩
  rintro i hi ih
  refine AM.run2 hG 100 (by cbv) ?_ ?_
  · (simp only [sxs, sxb, and_self, and_true, true_and, implies_true, imp_self, bne_eq_false_iff_eq, Nat.zero_add, Nat.le_refl, Int.toNat_natCast, Int.ofNat_lt, Int.natCast_nonneg, decide_eq_true_eq, decide_eq_false_iff_not, bne_iff_ne, ne_eq]; try dsimp only [Kd.T, Kds.T, AK.T, AKs.T])
  refine AM.case 25 rfl (fun h6 => ?_) (fun h6 => ?_) <;> (simp only [sxs, sxb, and_self, and_true, true_and, implies_true, imp_self, bne_eq_false_iff_eq, Nat.zero_add, Nat.le_refl, Int.toNat_natCast, Int.ofNat_lt, Int.natCast_nonneg, decide_eq_true_eq, decide_eq_false_iff_not, bne_iff_ne, ne_eq] at h6; try dsimp only [Kd.T, Kds.T, AK.T, AKs.T] at h6)
  · have hd := div_in (w := w) ⟨hw0.1, by omega⟩ i
    have e1 : ∀ b : Bool, List.take 1 [b] = [b] := fun _ => rfl
    refine AM.run2 hG 100 (by cbv) ?_ ?_
    · (simp only [sxs, sxb, and_self, and_true, true_and, implies_true, imp_self, bne_eq_false_iff_eq, Nat.zero_add, Nat.le_refl, Int.toNat_natCast, Int.ofNat_lt, Int.natCast_nonneg, decide_eq_true_eq, decide_eq_false_iff_not, bne_iff_ne, ne_eq, e1, inL_len, maxLen]; try dsimp only [Kd.T, Kds.T, AK.T, AKs.T])
      exact ⟨⟨by omega, by omega⟩, by decide, u64_nn2 _⟩
    refine AM.ren hB [0, 1, 2, 3, 4, 5, 8] (by cbv) (by cbv) (by cbv) ?_ ?_ (ih (i + 1) (by omega) (by omega))
    · (simp only [sxs, sxb, and_self, and_true, true_and, implies_true, imp_self, bne_eq_false_iff_eq, Nat.zero_add, Nat.le_refl, Int.toNat_natCast, Int.ofNat_lt, Int.natCast_nonneg, decide_eq_true_eq, decide_eq_false_iff_not, bne_iff_ne, ne_eq]; try dsimp only [Kd.T, Kds.T, AK.T, AKs.T])
      rw [w64s (by omega)]
    · (simp only [sxs, sxb, and_self, and_true, true_and, implies_true, imp_self, bne_eq_false_iff_eq, Nat.zero_add, Nat.le_refl, Int.toNat_natCast, Int.ofNat_lt, Int.natCast_nonneg, decide_eq_true_eq, decide_eq_false_iff_not, bne_iff_ne, ne_eq, e1, inL_len]; try dsimp only [Kd.T, Kds.T, AK.T, AKs.T])
      rw [inL_succ, shr_pow w (by omega), Int.tmod_eq_emod_of_nonneg hd.1]
      congr 2
      try (by_cases e : w / 2 ^ i % 2 = 0 <;> simp [eqI, e])
  obtain rfl : i = n := by omega
  clear ih
  refine AM.frz [6] (by cbv) (by (simp only [sxs, sxb, and_self, and_true, true_and, implies_true, imp_self, bne_eq_false_iff_eq, Nat.zero_add, Nat.le_refl, Int.toNat_natCast, Int.ofNat_lt, Int.natCast_nonneg, decide_eq_true_eq, decide_eq_false_iff_not, bne_iff_ne, ne_eq]; try dsimp only [Kd.T, Kds.T, AK.T, AKs.T]); rw [inL_len]; omega) ?_
  refine AM.run2 hG 100 (by cbv) ?_ ?_
  · (simp only [sxs, sxb, and_self, and_true, true_and, implies_true, imp_self, bne_eq_false_iff_eq, Nat.zero_add, Nat.le_refl, Int.toNat_natCast, Int.ofNat_lt, Int.natCast_nonneg, decide_eq_true_eq, decide_eq_false_iff_not, bne_iff_ne, ne_eq]; try dsimp only [Kd.T, Kds.T, AK.T, AKs.T])
  refine AM.emptyRow 5 3 25 TableK rfl (by simp) rfl ?_
  refine AM.loopI (fun z : Nat × List Table => (frame 55 [(2, .ptr 0 0), (4, .ptr 1 0), (6, .ptr 5 0), (8, .int .i64 (.t fun _ => nI z.1))],
    [.box 78 [.ro I64 fun _ => ld, .ro .bool fun _ => fl, .ro .bool fun _ => inn, .ro TableK fun _ => ts], .box 78 [.nils, .nils, .nils, .nils], .dead, .dead, .dead, .box 78 [.ro I64 fun _ => ld, .ro .bool fun _ => List.replicate i false, .ro .bool fun _ => inL w i, .sl 7 2 (.l 0) (.t fun _ => z.2.length)], .dead, .row 25 TableK (fun _ => z.2)]))
    (fun z => z.1 ≤ 3 ∧ z.2.length = z.1 ∧ z.2 = (ts.take z.1).map hallsR) (fun z => 3 - z.1) (0, []) ⟨by simp, rfl, by simp⟩ ?_ ?_ ?_
  · cbv; (simp only [sxs, sxb, and_self, and_true, true_and, implies_true, imp_self, bne_eq_false_iff_eq, Nat.zero_add, Nat.le_refl, Int.toNat_natCast, Int.ofNat_lt, Int.natCast_nonneg, decide_eq_true_eq, decide_eq_false_iff_not, bne_iff_ne, ne_eq]; try dsimp only [Kd.T, Kds.T, AK.T, AKs.T]); all_goals ((repeat' apply And.intro) <;> first | rfl | assumption | exact trivial)
  · cbv; (simp only [sxs, sxb, and_self, and_true, true_and, implies_true, imp_self, bne_eq_false_iff_eq, Nat.zero_add, Nat.le_refl, Int.toNat_natCast, Int.ofNat_lt, Int.natCast_nonneg, decide_eq_true_eq, decide_eq_false_iff_not, bne_iff_ne, ne_eq]; try dsimp only [Kd.T, Kds.T, AK.T, AKs.T])
    exact List.take_of_length_le (by rw [inL_len]; omega)
  rintro ⟨j, m⟩ ⟨hj, hm, he⟩ ih
  simp only at hj hm he
  refine AM.run2 hG 100 (by cbv) ?_ ?_
  · (simp only [sxs, sxb, and_self, and_true, true_and, implies_true, imp_self, bne_eq_false_iff_eq, Nat.zero_add, Nat.le_refl, Int.toNat_natCast, Int.ofNat_lt, Int.natCast_nonneg, decide_eq_true_eq, decide_eq_false_iff_not, bne_iff_ne, ne_eq]; try dsimp only [Kd.T, Kds.T, AK.T, AKs.T])
  refine AM.case 40 rfl (fun h6 => ?_) (fun h6 => ?_) <;> (simp only [sxs, sxb, and_self, and_true, true_and, implies_true, imp_self, bne_eq_false_iff_eq, Nat.zero_add, Nat.le_refl, Int.toNat_natCast, Int.ofNat_lt, Int.natCast_nonneg, decide_eq_true_eq, decide_eq_false_iff_not, bne_iff_ne, ne_eq] at h6; try dsimp only [Kd.T, Kds.T, AK.T, AKs.T] at h6)
  · replace h6 : j < ts.length := by omega
    refine AM.run2 hG 100 (by cbv) ?_ ?_
    · (simp only [sxs, sxb, and_self, and_true, true_and, implies_true, imp_self, bne_eq_false_iff_eq, Nat.zero_add, Nat.le_refl, Int.toNat_natCast, Int.ofNat_lt, Int.natCast_nonneg, decide_eq_true_eq, decide_eq_false_iff_not, bne_iff_ne, ne_eq]; try dsimp only [Kd.T, Kds.T, AK.T, AKs.T])
      simp only [maxLen, List.length_take, List.length_cons, List.length_nil]
      exact ⟨h6, h6, h5 j, by omega, by omega⟩
    refine AM.ren hB [0, 1, 2, 3, 4, 5, 6, 9] (by cbv) (by cbv) (by cbv) ?_ ?_ (ih (j + 1, m ++ [hallsR (ts.getD j zT)]) ⟨by simp only; omega, by simp only [List.length_append, List.length_cons, List.length_nil]; omega, by rw [he, map_step hallsR zT h6]⟩ (by simp only; omega))
    · (simp only [sxs, sxb, and_self, and_true, true_and, implies_true, imp_self, bne_eq_false_iff_eq, Nat.zero_add, Nat.le_refl, Int.toNat_natCast, Int.ofNat_lt, Int.natCast_nonneg, decide_eq_true_eq, decide_eq_false_iff_not, bne_iff_ne, ne_eq]; try dsimp only [Kd.T, Kds.T, AK.T, AKs.T])
      rw [w64s (by omega)]
    · (simp only [sxs, sxb, and_self, and_true, true_and, implies_true, imp_self, bne_eq_false_iff_eq, Nat.zero_add, Nat.le_refl, Int.toNat_natCast, Int.ofNat_lt, Int.natCast_nonneg, decide_eq_true_eq, decide_eq_false_iff_not, bne_iff_ne, ne_eq]; try dsimp only [Kd.T, Kds.T, AK.T, AKs.T])
      rw [List.length_append]
      exact ⟨rfl, rfl⟩
  clear ih
  rw [List.take_of_length_le (by omega)] at he
  refine AM.run2 hG 100 (by cbv) ?_ ?_
  · (simp only [sxs, sxb, and_self, and_true, true_and, implies_true, imp_self, bne_eq_false_iff_eq, Nat.zero_add, Nat.le_refl, Int.toNat_natCast, Int.ofNat_lt, Int.natCast_nonneg, decide_eq_true_eq, decide_eq_false_iff_not, bne_iff_ne, ne_eq]; try dsimp only [Kd.T, Kds.T, AK.T, AKs.T])
  refine AM.ret2 hG (by cbv) (by (simp only [sxs, sxb, and_self, and_true, true_and, implies_true, imp_self, bne_eq_false_iff_eq, Nat.zero_add, Nat.le_refl, Int.toNat_natCast, Int.ofNat_lt, Int.natCast_nonneg, decide_eq_true_eq, decide_eq_false_iff_not, bne_iff_ne, ne_eq]; try dsimp only [Kd.T, Kds.T, AK.T, AKs.T])) (hQ _ _ (FinRo.of (by cbv) (by cbv) ?_ ?_))
  · (simp only [sxs, sxb, and_self, and_true, true_and, implies_true, imp_self, bne_eq_false_iff_eq, Nat.zero_add, Nat.le_refl, Int.toNat_natCast, Int.ofNat_lt, Int.natCast_nonneg, decide_eq_true_eq, decide_eq_false_iff_not, bne_iff_ne, ne_eq]; try dsimp only [Kd.T, Kds.T, AK.T, AKs.T])
  try (simp only [sxs, sxb, and_self, and_true, true_and, implies_true, imp_self, bne_eq_false_iff_eq, Nat.zero_add, Nat.le_refl, Int.toNat_natCast, Int.ofNat_lt, Int.natCast_nonneg, decide_eq_true_eq, decide_eq_false_iff_not, bne_iff_ne, ne_eq]; try dsimp only [Kd.T, Kds.T, AK.T, AKs.T])
  rw [List.take_length, hres]
  exact ⟨rfl, rfl, rfl, he⟩
def S73 : List AV → Option FOut := sigSpec [HandK, I64] [HandK, I64, I64] (fun x : Hand × Int × Unit => ((overO x.1 x.2.1).1, (overO x.1 x.2.1).2.1, (overO x.1 x.2.1).2.2, ())) (fun x : Hand × Int × Unit => handL x.1)
set_option maxHeartbeats 8000000 in
theorem fn73 : FnOk Try.prog 73 S73 := by
  refine fn_ofB (rs := [.cell 4 78, .tmp 5, .tmp 6]) (env [(117, S117), (119, S119), (118, S118)] ⟨fn117, fn119, fn118, trivial⟩) Try.func73 (by kernel_rfl) rfl rfl Try.ntmps73 ?_
  rintro ⟨⟨(ld : List Int), (fl : List Bool), (inn : List Bool), (ts : List Table), ⟨⟩⟩, (e : Int), u2⟩ ⟨h1, h2, h3, h4, h5⟩ G hG hB hQ
  have hB := GB.of hB
  simp only at h1 h2 h3 h4 h5
  refine AM.run2 hG 100 (by cbv) ?_ ?_
  · (simp only [sxs, sxb, and_self, and_true, true_and, implies_true, imp_self, bne_eq_false_iff_eq, Nat.zero_add, Nat.le_refl, Int.toNat_natCast, Int.ofNat_lt, Int.natCast_nonneg, decide_eq_true_eq, decide_eq_false_iff_not, bne_iff_ne, ne_eq]; try dsimp only [Kd.T, Kds.T, AK.T, AKs.T])
    exact ⟨h1, by omega⟩
  refine AM.case 12 rfl (fun c => ?_) (fun c => ?_) <;> (simp only [sxs, sxb, and_self, and_true, true_and, implies_true, imp_self, bne_eq_false_iff_eq, Nat.zero_add, Nat.le_refl, Int.toNat_natCast, Int.ofNat_lt, Int.natCast_nonneg, decide_eq_true_eq, decide_eq_false_iff_not, bne_iff_ne, ne_eq] at c; try dsimp only [Kd.T, Kds.T, AK.T, AKs.T] at c)
  · replace c : ¬ askE (ld, fl, inn, ts, ()) e = 0 := c
    refine AM.run2 hG 100 (by cbv) ?_ ?_
    · (simp only [sxs, sxb, and_self, and_true, true_and, implies_true, imp_self, bne_eq_false_iff_eq, Nat.zero_add, Nat.le_refl, Int.toNat_natCast, Int.ofNat_lt, Int.natCast_nonneg, decide_eq_true_eq, decide_eq_false_iff_not, bne_iff_ne, ne_eq]; try dsimp only [Kd.T, Kds.T, AK.T, AKs.T])
    refine AM.ret2 hG (by cbv) (by (simp only [sxs, sxb, and_self, and_true, true_and, implies_true, imp_self, bne_eq_false_iff_eq, Nat.zero_add, Nat.le_refl, Int.toNat_natCast, Int.ofNat_lt, Int.natCast_nonneg, decide_eq_true_eq, decide_eq_false_iff_not, bne_iff_ne, ne_eq]; try dsimp only [Kd.T, Kds.T, AK.T, AKs.T])) (hQ _ _ (FinRo.of (by cbv) (by cbv) ?_ ?_))
    · (simp only [sxs, sxb, and_self, and_true, true_and, implies_true, imp_self, bne_eq_false_iff_eq, Nat.zero_add, Nat.le_refl, Int.toNat_natCast, Int.ofNat_lt, Int.natCast_nonneg, decide_eq_true_eq, decide_eq_false_iff_not, bne_iff_ne, ne_eq]; try dsimp only [Kd.T, Kds.T, AK.T, AKs.T])
    try (simp only [sxs, sxb, and_self, and_true, true_and, implies_true, imp_self, bne_eq_false_iff_eq, Nat.zero_add, Nat.le_refl, Int.toNat_natCast, Int.ofNat_lt, Int.natCast_nonneg, decide_eq_true_eq, decide_eq_false_iff_not, bne_iff_ne, ne_eq]; try dsimp only [Kd.T, Kds.T, AK.T, AKs.T])
    rw [overO, if_pos c]
    exact ⟨⟨rfl, rfl, rfl, rfl⟩, rfl, rfl⟩
  replace c : askE (ld, fl, inn, ts, ()) e = 0 := c
  obtain ⟨⟨k1, k2, k3, k4⟩, k5⟩ := askE_ok c
  simp only at k1 k2 k3 k4
  refine AM.run2 hG 100 (by cbv) ?_ ?_
  · (simp only [sxs, sxb, and_self, and_true, true_and, implies_true, imp_self, bne_eq_false_iff_eq, Nat.zero_add, Nat.le_refl, Int.toNat_natCast, Int.ofNat_lt, Int.natCast_nonneg, decide_eq_true_eq, decide_eq_false_iff_not, bne_iff_ne, ne_eq]; try dsimp only [Kd.T, Kds.T, AK.T, AKs.T])
    exact ⟨⟨⟨h1, h2, h3, h4, h5⟩, k1, k2, k4⟩, k1, k2⟩
  refine AM.ret2 hG (by cbv) (by (simp only [sxs, sxb, and_self, and_true, true_and, implies_true, imp_self, bne_eq_false_iff_eq, Nat.zero_add, Nat.le_refl, Int.toNat_natCast, Int.ofNat_lt, Int.natCast_nonneg, decide_eq_true_eq, decide_eq_false_iff_not, bne_iff_ne, ne_eq]; try dsimp only [Kd.T, Kds.T, AK.T, AKs.T])) (hQ _ _ (FinRo.of (by cbv) (by cbv) ?_ ?_))
  · (simp only [sxs, sxb, and_self, and_true, true_and, implies_true, imp_self, bne_eq_false_iff_eq, Nat.zero_add, Nat.le_refl, Int.toNat_natCast, Int.ofNat_lt, Int.natCast_nonneg, decide_eq_true_eq, decide_eq_false_iff_not, bne_iff_ne, ne_eq]; try dsimp only [Kd.T, Kds.T, AK.T, AKs.T])
  try (simp only [sxs, sxb, and_self, and_true, true_and, implies_true, imp_self, bne_eq_false_iff_eq, Nat.zero_add, Nat.le_refl, Int.toNat_natCast, Int.ofNat_lt, Int.natCast_nonneg, decide_eq_true_eq, decide_eq_false_iff_not, bne_iff_ne, ne_eq]; try dsimp only [Kd.T, Kds.T, AK.T, AKs.T])
  rw [overO, if_neg (by rw [c]; decide)]
  exact ⟨⟨rfl, rfl, rfl, rfl⟩, rfl, rfl⟩
def ownC (t : Table) : Nat := (t.2.1.filter fun c => !hallB c).length
def wipedO (h : Hand) : List Int × Int := if handE h ≠ 0 then ([], handE h) else (h.2.2.2.1.map fun t => nI (ownC t), 0)
theorem hand_ok {h : Hand} (hk : handE h = 0) : h.1.length ≤ 8 ∧ h.2.1.length = h.1.length ∧ h.2.2.1.length = h.1.length ∧ h.2.2.2.1.length = 3 := by
  unfold handE at hk
  split at hk
  · exact absurd hk (by decide)
  · omega
theorem set_mapR {α : Type} (f : α → Int) (d : α) {l : List α} {j : Nat} (h : j < l.length) : ((l.take j).map f ++ List.replicate (l.length - j) 0).set j (f (l.getD j d)) = (l.take (j + 1)).map f ++ List.replicate (l.length - (j + 1)) 0 := by
  obtain ⟨m, hm⟩ : ∃ m, l.length - j = m + 1 := ⟨l.length - j - 1, by omega⟩
  have hl : ((l.take j).map f).length = j := by rw [List.length_map, List.length_take]; omega
  rw [hm, show l.length - (j + 1) = m by omega, List.replicate_succ, List.set_append_right _ _ (by omega), hl, Nat.sub_self, List.set_cons_zero, map_step f d h, List.append_assoc]
  rfl
theorem set_rep {A : List Int} {j m : Nat} (h : A.length = j) (hm : 0 < m) : (A ++ List.replicate m 0).set j 0 = A ++ List.replicate m 0 := by
  obtain ⟨k, rfl⟩ : ∃ k, m = k + 1 := ⟨m - 1, by omega⟩
  rw [List.replicate_succ, List.set_append_right _ _ (by omega), h, Nat.sub_self, List.set_cons_zero]
def S76 : List AV → Option FOut := sigSpec [HandK] [IntsK, I64] (fun x : Hand × Unit => ((wipedO x.1).1, (wipedO x.1).2, ())) (fun x : Hand × Unit => handL x.1)
set_option maxHeartbeats 8000000 in
theorem fn76 : FnOk Try.prog 76 S76 := by
  refine fn_ofB (rs := [.tmp 2, .tmp 3]) (env [(70, S70), (124, S124own), (126, S126)] ⟨fn70, fn124own, fn126, trivial⟩) Try.func76 (by kernel_rfl) rfl rfl Try.ntmps76 ?_
  rintro ⟨⟨(ld : List Int), (fl : List Bool), (inn : List Bool), (ts : List Table), ⟨⟩⟩, u2⟩ ⟨h1, h2, h3, h4, h5⟩ G hG hB hQ
  have hB := GB.of hB
  simp only at h1 h2 h3 h4 h5
  refine AM.run2 hG 100 (by cbv) ?_ ?_
  · (simp only [sxs, sxb, and_self, and_true, true_and, implies_true, imp_self, bne_eq_false_iff_eq, Nat.zero_add, Nat.le_refl, Int.toNat_natCast, Int.ofNat_lt, Int.natCast_nonneg, decide_eq_true_eq, decide_eq_false_iff_not, bne_iff_ne, ne_eq]; try dsimp only [Kd.T, Kds.T, AK.T, AKs.T])
    exact ⟨h1, by omega⟩
  refine AM.case 11 rfl (fun c => ?_) (fun c => ?_) <;> (simp only [sxs, sxb, and_self, and_true, true_and, implies_true, imp_self, bne_eq_false_iff_eq, Nat.zero_add, Nat.le_refl, Int.toNat_natCast, Int.ofNat_lt, Int.natCast_nonneg, decide_eq_true_eq, decide_eq_false_iff_not, bne_iff_ne, ne_eq] at c; try dsimp only [Kd.T, Kds.T, AK.T, AKs.T] at c)
  · replace c : ¬ handE (ld, fl, inn, ts, ()) = 0 := c
    refine AM.run2 hG 100 (by cbv) ?_ ?_
    · (simp only [sxs, sxb, and_self, and_true, true_and, implies_true, imp_self, bne_eq_false_iff_eq, Nat.zero_add, Nat.le_refl, Int.toNat_natCast, Int.ofNat_lt, Int.natCast_nonneg, decide_eq_true_eq, decide_eq_false_iff_not, bne_iff_ne, ne_eq]; try dsimp only [Kd.T, Kds.T, AK.T, AKs.T])
    refine AM.ret2 hG (by cbv) (by (simp only [sxs, sxb, and_self, and_true, true_and, implies_true, imp_self, bne_eq_false_iff_eq, Nat.zero_add, Nat.le_refl, Int.toNat_natCast, Int.ofNat_lt, Int.natCast_nonneg, decide_eq_true_eq, decide_eq_false_iff_not, bne_iff_ne, ne_eq]; try dsimp only [Kd.T, Kds.T, AK.T, AKs.T])) (hQ _ _ (FinRo.of (by cbv) (by cbv) ?_ ?_))
    · (simp only [sxs, sxb, and_self, and_true, true_and, implies_true, imp_self, bne_eq_false_iff_eq, Nat.zero_add, Nat.le_refl, Int.toNat_natCast, Int.ofNat_lt, Int.natCast_nonneg, decide_eq_true_eq, decide_eq_false_iff_not, bne_iff_ne, ne_eq]; try dsimp only [Kd.T, Kds.T, AK.T, AKs.T])
    try (simp only [sxs, sxb, and_self, and_true, true_and, implies_true, imp_self, bne_eq_false_iff_eq, Nat.zero_add, Nat.le_refl, Int.toNat_natCast, Int.ofNat_lt, Int.natCast_nonneg, decide_eq_true_eq, decide_eq_false_iff_not, bne_iff_ne, ne_eq]; try dsimp only [Kd.T, Kds.T, AK.T, AKs.T])
    rw [wipedO, if_pos c]
    exact ⟨rfl, rfl⟩
  replace c : handE (ld, fl, inn, ts, ()) = 0 := c
  obtain ⟨k1, k2, k3, k4⟩ := hand_ok c
  simp only at k1 k2 k3 k4
  refine AM.run2 hG 100 (by cbv) ?_ ?_
  · (simp only [sxs, sxb, and_self, and_true, true_and, implies_true, imp_self, bne_eq_false_iff_eq, Nat.zero_add, Nat.le_refl, Int.toNat_natCast, Int.ofNat_lt, Int.natCast_nonneg, decide_eq_true_eq, decide_eq_false_iff_not, bne_iff_ne, ne_eq]; try dsimp only [Kd.T, Kds.T, AK.T, AKs.T])
    try decide
  refine AM.loopI (fun z : Nat × List Int => (frame 34 [(1, .ptr 0 0), (5, .ptr 2 0), (15, .ro TableK fun _ => ts), (16, .int .i64 (.t fun _ => nI ts.length)), (17, .int .i64 (.t fun _ => nI z.1))],
    [.box 78 [.ro I64 fun _ => ld, .ro .bool fun _ => fl, .ro .bool fun _ => inn, .ro TableK fun _ => ts], .row 3 I64 (fun _ => z.2), .box 22 [.sl 1 1 (.l 0) (.l 3)]]))
    (fun z => z.1 ≤ ts.length ∧ z.2 = (ts.take z.1).map (fun t => nI (ownC t)) ++ List.replicate (ts.length - z.1) 0) (fun z => ts.length - z.1) (0, [0, 0, 0]) ⟨by simp, by rw [k4]; rfl⟩ ?_ ?_ ?_
  · cbv; (simp only [sxs, sxb, and_self, and_true, true_and, implies_true, imp_self, bne_eq_false_iff_eq, Nat.zero_add, Nat.le_refl, Int.toNat_natCast, Int.ofNat_lt, Int.natCast_nonneg, decide_eq_true_eq, decide_eq_false_iff_not, bne_iff_ne, ne_eq]; try dsimp only [Kd.T, Kds.T, AK.T, AKs.T]); all_goals ((repeat' apply And.intro) <;> first | rfl | assumption | exact trivial)
  · cbv; (simp only [sxs, sxb, and_self, and_true, true_and, implies_true, imp_self, bne_eq_false_iff_eq, Nat.zero_add, Nat.le_refl, Int.toNat_natCast, Int.ofNat_lt, Int.natCast_nonneg, decide_eq_true_eq, decide_eq_false_iff_not, bne_iff_ne, ne_eq]; try dsimp only [Kd.T, Kds.T, AK.T, AKs.T]); rfl
  rintro ⟨j, B⟩ ⟨hj, hB0⟩ ih
  simp only at hj hB0
  have hBl : B.length = 3 := by rw [hB0, List.length_append, List.length_map, List.length_take, List.length_replicate]; omega
  refine AM.run2 hG 100 (by cbv) ?_ ?_
  · (simp only [sxs, sxb, and_self, and_true, true_and, implies_true, imp_self, bne_eq_false_iff_eq, Nat.zero_add, Nat.le_refl, Int.toNat_natCast, Int.ofNat_lt, Int.natCast_nonneg, decide_eq_true_eq, decide_eq_false_iff_not, bne_iff_ne, ne_eq]; try dsimp only [Kd.T, Kds.T, AK.T, AKs.T])
  refine AM.case 18 rfl (fun h6 => ?_) (fun h6 => ?_) <;> (simp only [sxs, sxb, and_self, and_true, true_and, implies_true, imp_self, bne_eq_false_iff_eq, Nat.zero_add, Nat.le_refl, Int.toNat_natCast, Int.ofNat_lt, Int.natCast_nonneg, decide_eq_true_eq, decide_eq_false_iff_not, bne_iff_ne, ne_eq] at h6; try dsimp only [Kd.T, Kds.T, AK.T, AKs.T] at h6)
  · refine AM.run2 hG 100 (by cbv) ?_ ?_
    · (simp only [sxs, sxb, and_self, and_true, true_and, implies_true, imp_self, bne_eq_false_iff_eq, Nat.zero_add, Nat.le_refl, Int.toNat_natCast, Int.ofNat_lt, Int.natCast_nonneg, decide_eq_true_eq, decide_eq_false_iff_not, bne_iff_ne, ne_eq]; try dsimp only [Kd.T, Kds.T, AK.T, AKs.T])
      exact h6
    obtain ⟨tb, htb⟩ : ∃ tb, ts.getD j zT = tb := ⟨_, rfl⟩
    have hlen := h5 j
    rw [htb] at hlen
    obtain ⟨tc, tl, ⟨⟩⟩ := tb
    simp only at hlen
    refine AM.imp2 (fr' := frame 34 [(1, .ptr 0 0), (5, .ptr 2 0), (6, .ptr 3 0), (15, .ro TableK fun _ => ts), (16, .int .i64 (.t fun _ => nI ts.length)), (17, .int .i64 (.t fun _ => nI j)), (24, .fn (.func 139) [] [.fb [.ro CallK fun _ => tl] 0, .fb [.fn (.func 126) [] []] 0])])
      (h' := [.box 78 [.ro I64 fun _ => ld, .ro .bool fun _ => fl, .ro .bool fun _ => inn, .ro TableK fun _ => ts], .row 3 I64 (fun _ => B.set j (nI 0)), .box 22 [.sl 1 1 (.l 0) (.l 3)], .box 3 [.int .i64 (.t fun _ => nI j)], .dead]) (by cbv) (by cbv) ?_ ?_ ?_
    · (simp only [sxs, sxb, and_self, and_true, true_and, implies_true, imp_self, bne_eq_false_iff_eq, Nat.zero_add, Nat.le_refl, Int.toNat_natCast, Int.ofNat_lt, Int.natCast_nonneg, decide_eq_true_eq, decide_eq_false_iff_not, bne_iff_ne, ne_eq]; try dsimp only [Kd.T, Kds.T, AK.T, AKs.T])
      exact congrArg (fun t : Table => t.2.1) htb
    · (simp only [sxs, sxb, and_self, and_true, true_and, implies_true, imp_self, bne_eq_false_iff_eq, Nat.zero_add, Nat.le_refl, Int.toNat_natCast, Int.ofNat_lt, Int.natCast_nonneg, decide_eq_true_eq, decide_eq_false_iff_not, bne_iff_ne, ne_eq]; try dsimp only [Kd.T, Kds.T, AK.T, AKs.T])
      rw [hB0]
      exact (set_rep (by rw [List.length_map, List.length_take]; omega) (by omega)).symm
    refine AM.rangeFunc hG rfl Try.func139 (by kernel_rfl) rfl rfl Try.ntmps139 ?_
    intro L rec G2 hG2 hB2 hL hQ2
    replace hB2 : GB G2 6 := hB2
    replace hL : LoopOk G2 5 L rec _ _ _ _ := hL
    refine AM.run2 hG2 100 (by cbv) ?_ ?_
    · (simp only [sxs, sxb, and_self, and_true, true_and, implies_true, imp_self, bne_eq_false_iff_eq, Nat.zero_add, Nat.le_refl, Int.toNat_natCast, Int.ofNat_lt, Int.natCast_nonneg, decide_eq_true_eq, decide_eq_false_iff_not, bne_iff_ne, ne_eq]; try dsimp only [Kd.T, Kds.T, AK.T, AKs.T])
    refine AM.loopI (fun z : Nat × Nat => (frame 22 [(0, .fn (.yield L) [] []), (1, .fb [.ro CallK fun _ => tl] 0), (2, .fb [.fn (.func 126) [] []] 0), (6, .ro CallK fun _ => tl), (7, .int .i64 (.t fun _ => nI tl.length)), (8, .int .i64 (.t fun _ => nI z.1))],
      [.box 78 [.ro I64 fun _ => ld, .ro .bool fun _ => fl, .ro .bool fun _ => inn, .ro TableK fun _ => ts], .row 3 I64 (fun _ => B.set j (nI z.2)), .box 22 [.sl 1 1 (.l 0) (.l 3)], .box 3 [.int .i64 (.t fun _ => nI j)], .dead, .obj fun _ => .loop rec]))
      (fun z => z.1 ≤ tl.length ∧ z.2 ≤ z.1 ∧ z.2 = ((tl.take z.1).filter fun c => !hallB c).length) (fun z => tl.length - z.1) (0, 0) ⟨by simp, by simp, by simp⟩ ?_ ?_ ?_
    · cbv; (simp only [sxs, sxb, and_self, and_true, true_and, implies_true, imp_self, bne_eq_false_iff_eq, Nat.zero_add, Nat.le_refl, Int.toNat_natCast, Int.ofNat_lt, Int.natCast_nonneg, decide_eq_true_eq, decide_eq_false_iff_not, bne_iff_ne, ne_eq]; try dsimp only [Kd.T, Kds.T, AK.T, AKs.T]); all_goals ((repeat' apply And.intro) <;> first | rfl | assumption | exact trivial)
    · cbv; (simp only [sxs, sxb, and_self, and_true, true_and, implies_true, imp_self, bne_eq_false_iff_eq, Nat.zero_add, Nat.le_refl, Int.toNat_natCast, Int.ofNat_lt, Int.natCast_nonneg, decide_eq_true_eq, decide_eq_false_iff_not, bne_iff_ne, ne_eq]; try dsimp only [Kd.T, Kds.T, AK.T, AKs.T]); all_goals ((repeat' apply And.intro) <;> first | rfl | assumption | exact trivial)
    · rintro ⟨i, m⟩ ⟨hi, hm, he⟩ ih2
      simp only at hi hm he
      refine AM.run2 hG2 100 (by cbv) ?_ ?_
      · (simp only [sxs, sxb, and_self, and_true, true_and, implies_true, imp_self, bne_eq_false_iff_eq, Nat.zero_add, Nat.le_refl, Int.toNat_natCast, Int.ofNat_lt, Int.natCast_nonneg, decide_eq_true_eq, decide_eq_false_iff_not, bne_iff_ne, ne_eq]; try dsimp only [Kd.T, Kds.T, AK.T, AKs.T])
      refine AM.case 9 rfl (fun h2 => ?_) (fun h2 => ?_) <;> (simp only [sxs, sxb, and_self, and_true, true_and, implies_true, imp_self, bne_eq_false_iff_eq, Nat.zero_add, Nat.le_refl, Int.toNat_natCast, Int.ofNat_lt, Int.natCast_nonneg, decide_eq_true_eq, decide_eq_false_iff_not, bne_iff_ne, ne_eq] at h2; try dsimp only [Kd.T, Kds.T, AK.T, AKs.T] at h2)
      · have hnext := congrArg List.length (filter_step (fun c => !hallB c) zc h2)
        rw [List.length_append, ← he] at hnext
        refine AM.runTo2 hG2 16 100 (by cbv) ?_ ?_
        · (simp only [sxs, sxb, and_self, and_true, true_and, implies_true, imp_self, bne_eq_false_iff_eq, Nat.zero_add, Nat.le_refl, Int.toNat_natCast, Int.ofNat_lt, Int.natCast_nonneg, decide_eq_true_eq, decide_eq_false_iff_not, bne_iff_ne, ne_eq]; try dsimp only [Kd.T, Kds.T, AK.T, AKs.T])
          exact h2
        refine AM.case 15 rfl (fun (h3 : (!hallB (tl.getD i zc)) = true) => ?_) (fun (h3 : (!hallB (tl.getD i zc)) = false) => ?_)
        · rw [if_pos h3] at hnext
          refine AM.runTo2 hG2 18 100 (by cbv) ?_ ?_
          · (simp only [sxs, sxb, and_self, and_true, true_and, implies_true, imp_self, bne_eq_false_iff_eq, Nat.zero_add, Nat.le_refl, Int.toNat_natCast, Int.ofNat_lt, Int.natCast_nonneg, decide_eq_true_eq, decide_eq_false_iff_not, bne_iff_ne, ne_eq]; try dsimp only [Kd.T, Kds.T, AK.T, AKs.T])
          refine AM.yield (g := fun _ => True) hG2 hL rfl rfl rfl rfl (by simp) rfl ?_
          intro G3 hG3 hB3 hL3 hr3 hQ3
          refine AM.run2 hG3 100 (by cbv) ?_ ?_
          · (simp only [sxs, sxb, and_self, and_true, true_and, implies_true, imp_self, bne_eq_false_iff_eq, Nat.zero_add, Nat.le_refl, Int.toNat_natCast, Int.ofNat_lt, Int.natCast_nonneg, decide_eq_true_eq, decide_eq_false_iff_not, bne_iff_ne, ne_eq]; try dsimp only [Kd.T, Kds.T, AK.T, AKs.T])
          refine AM.beg hL3 rfl (by simp) ?_
          refine AM.run2 hG3 100 (by cbv) ?_ ?_
          · (simp only [sxs, sxb, and_self, and_true, true_and, implies_true, imp_self, bne_eq_false_iff_eq, Nat.zero_add, Nat.le_refl, Int.toNat_natCast, Int.ofNat_lt, Int.natCast_nonneg, decide_eq_true_eq, decide_eq_false_iff_not, bne_iff_ne, ne_eq]; try dsimp only [Kd.T, Kds.T, AK.T, AKs.T])
            rw [List.length_set, hBl]
            omega
          refine AM.roundEnd hr3 (hQ3 _ _ rfl ?_)
          refine AM.run2 hG2 100 (by cbv) ?_ ?_
          · (simp only [sxs, sxb, and_self, and_true, true_and, implies_true, imp_self, bne_eq_false_iff_eq, Nat.zero_add, Nat.le_refl, Int.toNat_natCast, Int.ofNat_lt, Int.natCast_nonneg, decide_eq_true_eq, decide_eq_false_iff_not, bne_iff_ne, ne_eq]; try dsimp only [Kd.T, Kds.T, AK.T, AKs.T])
          refine AM.ren hB2 [0, 1, 2, 3, 4, 5] (by cbv) (by cbv) (by cbv) ?_ ?_ (ih2 (i + 1, m + 1) ⟨by simp only; omega, by simp only; omega, hnext.symm⟩ (by simp only; omega))
          · (simp only [sxs, sxb, and_self, and_true, true_and, implies_true, imp_self, bne_eq_false_iff_eq, Nat.zero_add, Nat.le_refl, Int.toNat_natCast, Int.ofNat_lt, Int.natCast_nonneg, decide_eq_true_eq, decide_eq_false_iff_not, bne_iff_ne, ne_eq]; try dsimp only [Kd.T, Kds.T, AK.T, AKs.T])
            rw [w64s (by omega)]
          · (simp only [sxs, sxb, and_self, and_true, true_and, implies_true, imp_self, bne_eq_false_iff_eq, Nat.zero_add, Nat.le_refl, Int.toNat_natCast, Int.ofNat_lt, Int.natCast_nonneg, decide_eq_true_eq, decide_eq_false_iff_not, bne_iff_ne, ne_eq]; try dsimp only [Kd.T, Kds.T, AK.T, AKs.T])
            rw [List.set_set, List.getD_eq_getElem?_getD, List.getElem?_set_self (by omega), Option.getD_some, w64s (by omega)]
        · rw [if_neg (by rw [h3]; decide)] at hnext
          refine AM.run2 hG2 100 (by cbv) ?_ ?_
          · (simp only [sxs, sxb, and_self, and_true, true_and, implies_true, imp_self, bne_eq_false_iff_eq, Nat.zero_add, Nat.le_refl, Int.toNat_natCast, Int.ofNat_lt, Int.natCast_nonneg, decide_eq_true_eq, decide_eq_false_iff_not, bne_iff_ne, ne_eq]; try dsimp only [Kd.T, Kds.T, AK.T, AKs.T])
          refine AM.ren hB2 [0, 1, 2, 3, 4, 5] (by cbv) (by cbv) (by cbv) ?_ ?_ (ih2 (i + 1, m) ⟨by simp only; omega, by simp only; omega, hnext.symm⟩ (by simp only; omega))
          · (simp only [sxs, sxb, and_self, and_true, true_and, implies_true, imp_self, bne_eq_false_iff_eq, Nat.zero_add, Nat.le_refl, Int.toNat_natCast, Int.ofNat_lt, Int.natCast_nonneg, decide_eq_true_eq, decide_eq_false_iff_not, bne_iff_ne, ne_eq]; try dsimp only [Kd.T, Kds.T, AK.T, AKs.T])
            rw [w64s (by omega)]
          · (simp only [sxs, sxb, and_self, and_true, true_and, implies_true, imp_self, bne_eq_false_iff_eq, Nat.zero_add, Nat.le_refl, Int.toNat_natCast, Int.ofNat_lt, Int.natCast_nonneg, decide_eq_true_eq, decide_eq_false_iff_not, bne_iff_ne, ne_eq]; try dsimp only [Kd.T, Kds.T, AK.T, AKs.T])
      clear ih2
      rw [List.take_of_length_le (by omega)] at he
      refine AM.run2 hG2 100 (by cbv) ?_ ?_
      · (simp only [sxs, sxb, and_self, and_true, true_and, implies_true, imp_self, bne_eq_false_iff_eq, Nat.zero_add, Nat.le_refl, Int.toNat_natCast, Int.ofNat_lt, Int.natCast_nonneg, decide_eq_true_eq, decide_eq_false_iff_not, bne_iff_ne, ne_eq]; try dsimp only [Kd.T, Kds.T, AK.T, AKs.T])
      refine AM.fall2 hG2 (by cbv) (by (simp only [sxs, sxb, and_self, and_true, true_and, implies_true, imp_self, bne_eq_false_iff_eq, Nat.zero_add, Nat.le_refl, Int.toNat_natCast, Int.ofNat_lt, Int.natCast_nonneg, decide_eq_true_eq, decide_eq_false_iff_not, bne_iff_ne, ne_eq]; try dsimp only [Kd.T, Kds.T, AK.T, AKs.T])) (hQ2 _ _ rfl ?_)
      refine AM.run2 hG 100 (by cbv) ?_ ?_
      · (simp only [sxs, sxb, and_self, and_true, true_and, implies_true, imp_self, bne_eq_false_iff_eq, Nat.zero_add, Nat.le_refl, Int.toNat_natCast, Int.ofNat_lt, Int.natCast_nonneg, decide_eq_true_eq, decide_eq_false_iff_not, bne_iff_ne, ne_eq]; try dsimp only [Kd.T, Kds.T, AK.T, AKs.T])
      refine AM.ren hB [0, 1, 2] (by cbv) (by cbv) (by cbv) ?_ ?_ (ih (j + 1, B.set j (nI m)) ⟨by simp only; omega, ?_⟩ (by simp only; omega))
      · (simp only [sxs, sxb, and_self, and_true, true_and, implies_true, imp_self, bne_eq_false_iff_eq, Nat.zero_add, Nat.le_refl, Int.toNat_natCast, Int.ofNat_lt, Int.natCast_nonneg, decide_eq_true_eq, decide_eq_false_iff_not, bne_iff_ne, ne_eq]; try dsimp only [Kd.T, Kds.T, AK.T, AKs.T])
        rw [w64s (by omega)]
      · (simp only [sxs, sxb, and_self, and_true, true_and, implies_true, imp_self, bne_eq_false_iff_eq, Nat.zero_add, Nat.le_refl, Int.toNat_natCast, Int.ofNat_lt, Int.natCast_nonneg, decide_eq_true_eq, decide_eq_false_iff_not, bne_iff_ne, ne_eq]; try dsimp only [Kd.T, Kds.T, AK.T, AKs.T])
      · have := set_mapR (fun t => nI (ownC t)) zT h6
        rw [← hB0, htb] at this
        rw [← this, he]
        rfl
  clear ih
  obtain rfl : j = ts.length := by omega
  refine AM.run2 hG 100 (by cbv) ?_ ?_
  · (simp only [sxs, sxb, and_self, and_true, true_and, implies_true, imp_self, bne_eq_false_iff_eq, Nat.zero_add, Nat.le_refl, Int.toNat_natCast, Int.ofNat_lt, Int.natCast_nonneg, decide_eq_true_eq, decide_eq_false_iff_not, bne_iff_ne, ne_eq]; try dsimp only [Kd.T, Kds.T, AK.T, AKs.T])
  refine AM.ret2 hG (by cbv) (by (simp only [sxs, sxb, and_self, and_true, true_and, implies_true, imp_self, bne_eq_false_iff_eq, Nat.zero_add, Nat.le_refl, Int.toNat_natCast, Int.ofNat_lt, Int.natCast_nonneg, decide_eq_true_eq, decide_eq_false_iff_not, bne_iff_ne, ne_eq]; try dsimp only [Kd.T, Kds.T, AK.T, AKs.T])) (hQ _ _ (FinRo.of (by cbv) (by cbv) ?_ ?_))
  · (simp only [sxs, sxb, and_self, and_true, true_and, implies_true, imp_self, bne_eq_false_iff_eq, Nat.zero_add, Nat.le_refl, Int.toNat_natCast, Int.ofNat_lt, Int.natCast_nonneg, decide_eq_true_eq, decide_eq_false_iff_not, bne_iff_ne, ne_eq]; try dsimp only [Kd.T, Kds.T, AK.T, AKs.T])
    exact Nat.le_of_eq hBl.symm
  (simp only [sxs, sxb, and_self, and_true, true_and, implies_true, imp_self, bne_eq_false_iff_eq, Nat.zero_add, Nat.le_refl, Int.toNat_natCast, Int.ofNat_lt, Int.natCast_nonneg, decide_eq_true_eq, decide_eq_false_iff_not, bne_iff_ne, ne_eq]; try dsimp only [Kd.T, Kds.T, AK.T, AKs.T])
  rw [wipedO, if_neg (by rw [c]; decide)]
  rw [List.take_length, Nat.sub_self, List.replicate_zero, List.append_nil] at hB0
  rw [List.take_of_length_le (by omega)]
  exact ⟨hB0, rfl⟩
def S77 : List AV → Option FOut := sigSpec [HandK] [IntsK, I64] (fun x : Hand × Unit => ((wipedO x.1).1, (wipedO x.1).2, ())) (fun x : Hand × Unit => handL x.1)
theorem half_len {α : Type} (p : α → Bool) : ∀ l : List α, (l.filter fun c => !p c).length + (l.filter p).length = l.length
  | [] => rfl
  | a :: l => by
    have := half_len p l
    cases h : p a <;> simp [h] <;> omega
set_option maxHeartbeats 8000000 in
theorem fn77 : FnOk Try.prog 77 S77 := by
  refine fn_ofB (rs := [.tmp 2, .tmp 3]) (env [(71, S71), (127, S127)] ⟨fn71, fn127, trivial⟩) Try.func77 (by kernel_rfl) rfl rfl Try.ntmps77 ?_
  rintro ⟨⟨(ld : List Int), (fl : List Bool), (inn : List Bool), (ts : List Table), ⟨⟩⟩, u2⟩ ⟨h1, h2, h3, h4, h5⟩ G hG hB hQ
  have hB := GB.of hB
  simp only at h1 h2 h3 h4 h5
  refine AM.run2 hG 100 (by cbv) ?_ ?_
  · (simp only [sxs, sxb, and_self, and_true, true_and, implies_true, imp_self, bne_eq_false_iff_eq, Nat.zero_add, Nat.le_refl, Int.toNat_natCast, Int.ofNat_lt, Int.natCast_nonneg, decide_eq_true_eq, decide_eq_false_iff_not, bne_iff_ne, ne_eq]; try dsimp only [Kd.T, Kds.T, AK.T, AKs.T])
    exact ⟨h1, by omega⟩
  refine AM.case 10 rfl (fun c => ?_) (fun c => ?_) <;> (simp only [sxs, sxb, and_self, and_true, true_and, implies_true, imp_self, bne_eq_false_iff_eq, Nat.zero_add, Nat.le_refl, Int.toNat_natCast, Int.ofNat_lt, Int.natCast_nonneg, decide_eq_true_eq, decide_eq_false_iff_not, bne_iff_ne, ne_eq] at c; try dsimp only [Kd.T, Kds.T, AK.T, AKs.T] at c)
  · replace c : ¬ handE (ld, fl, inn, ts, ()) = 0 := c
    refine AM.run2 hG 100 (by cbv) ?_ ?_
    · (simp only [sxs, sxb, and_self, and_true, true_and, implies_true, imp_self, bne_eq_false_iff_eq, Nat.zero_add, Nat.le_refl, Int.toNat_natCast, Int.ofNat_lt, Int.natCast_nonneg, decide_eq_true_eq, decide_eq_false_iff_not, bne_iff_ne, ne_eq]; try dsimp only [Kd.T, Kds.T, AK.T, AKs.T])
    refine AM.ret2 hG (by cbv) (by (simp only [sxs, sxb, and_self, and_true, true_and, implies_true, imp_self, bne_eq_false_iff_eq, Nat.zero_add, Nat.le_refl, Int.toNat_natCast, Int.ofNat_lt, Int.natCast_nonneg, decide_eq_true_eq, decide_eq_false_iff_not, bne_iff_ne, ne_eq]; try dsimp only [Kd.T, Kds.T, AK.T, AKs.T])) (hQ _ _ (FinRo.of (by cbv) (by cbv) ?_ ?_))
    · (simp only [sxs, sxb, and_self, and_true, true_and, implies_true, imp_self, bne_eq_false_iff_eq, Nat.zero_add, Nat.le_refl, Int.toNat_natCast, Int.ofNat_lt, Int.natCast_nonneg, decide_eq_true_eq, decide_eq_false_iff_not, bne_iff_ne, ne_eq]; try dsimp only [Kd.T, Kds.T, AK.T, AKs.T])
    try (simp only [sxs, sxb, and_self, and_true, true_and, implies_true, imp_self, bne_eq_false_iff_eq, Nat.zero_add, Nat.le_refl, Int.toNat_natCast, Int.ofNat_lt, Int.natCast_nonneg, decide_eq_true_eq, decide_eq_false_iff_not, bne_iff_ne, ne_eq]; try dsimp only [Kd.T, Kds.T, AK.T, AKs.T])
    rw [wipedO, if_pos c]
    exact ⟨rfl, rfl⟩
  replace c : handE (ld, fl, inn, ts, ()) = 0 := c
  obtain ⟨k1, k2, k3, k4⟩ := hand_ok c
  simp only at k1 k2 k3 k4
  refine AM.run2 hG 100 (by cbv) ?_ ?_
  · (simp only [sxs, sxb, and_self, and_true, true_and, implies_true, imp_self, bne_eq_false_iff_eq, Nat.zero_add, Nat.le_refl, Int.toNat_natCast, Int.ofNat_lt, Int.natCast_nonneg, decide_eq_true_eq, decide_eq_false_iff_not, bne_iff_ne, ne_eq]; try dsimp only [Kd.T, Kds.T, AK.T, AKs.T])
  refine AM.emptySlot 5 3 I64 rfl ?_
  refine AM.loopI (fun z : Nat × List Int => (frame 36 [(1, .ptr 0 0), (5, .sl 1 1 (.l 0) (.t fun _ => z.2.length)), (6, .int .i64 (.t fun _ => nI z.1))],
    [.box 78 [.ro I64 fun _ => ld, .ro .bool fun _ => fl, .ro .bool fun _ => inn, .ro TableK fun _ => ts], .row 3 I64 (fun _ => z.2)]))
    (fun z => z.1 ≤ 3 ∧ z.2.length = z.1 ∧ z.2 = (ts.take z.1).map fun t => nI (ownC t)) (fun z => 3 - z.1) (0, []) ⟨by simp, rfl, by simp⟩ ?_ ?_ ?_
  · cbv; (simp only [sxs, sxb, and_self, and_true, true_and, implies_true, imp_self, bne_eq_false_iff_eq, Nat.zero_add, Nat.le_refl, Int.toNat_natCast, Int.ofNat_lt, Int.natCast_nonneg, decide_eq_true_eq, decide_eq_false_iff_not, bne_iff_ne, ne_eq]; try dsimp only [Kd.T, Kds.T, AK.T, AKs.T]); all_goals ((repeat' apply And.intro) <;> first | rfl | assumption | exact trivial)
  · cbv; (simp only [sxs, sxb, and_self, and_true, true_and, implies_true, imp_self, bne_eq_false_iff_eq, Nat.zero_add, Nat.le_refl, Int.toNat_natCast, Int.ofNat_lt, Int.natCast_nonneg, decide_eq_true_eq, decide_eq_false_iff_not, bne_iff_ne, ne_eq]; try dsimp only [Kd.T, Kds.T, AK.T, AKs.T]); all_goals ((repeat' apply And.intro) <;> first | rfl | assumption | exact trivial)
  rintro ⟨j, m⟩ ⟨hj, hm, he⟩ ih
  simp only at hj hm he
  refine AM.run2 hG 100 (by cbv) ?_ ?_
  · (simp only [sxs, sxb, and_self, and_true, true_and, implies_true, imp_self, bne_eq_false_iff_eq, Nat.zero_add, Nat.le_refl, Int.toNat_natCast, Int.ofNat_lt, Int.natCast_nonneg, decide_eq_true_eq, decide_eq_false_iff_not, bne_iff_ne, ne_eq]; try dsimp only [Kd.T, Kds.T, AK.T, AKs.T])
  refine AM.case 13 rfl (fun h6 => ?_) (fun h6 => ?_) <;> (simp only [sxs, sxb, and_self, and_true, true_and, implies_true, imp_self, bne_eq_false_iff_eq, Nat.zero_add, Nat.le_refl, Int.toNat_natCast, Int.ofNat_lt, Int.natCast_nonneg, decide_eq_true_eq, decide_eq_false_iff_not, bne_iff_ne, ne_eq] at h6; try dsimp only [Kd.T, Kds.T, AK.T, AKs.T] at h6)
  · replace h6 : j < ts.length := by omega
    have hlen := h5 j
    have hhalf := half_len hallB (ts.getD j zT).2.1
    refine AM.run2 hG 100 (by cbv) ?_ ?_
    · (simp only [sxs, sxb, and_self, and_true, true_and, implies_true, imp_self, bne_eq_false_iff_eq, Nat.zero_add, Nat.le_refl, Int.toNat_natCast, Int.ofNat_lt, Int.natCast_nonneg, decide_eq_true_eq, decide_eq_false_iff_not, bne_iff_ne, ne_eq]; try dsimp only [Kd.T, Kds.T, AK.T, AKs.T])
      simp only [maxLen, List.length_take, List.length_cons, List.length_nil]
      exact ⟨h6, h6, h6, h6, hlen, by omega, by omega⟩
    refine AM.ren hB [0, 3] (by cbv) (by cbv) (by cbv) ?_ ?_ (ih (j + 1, m ++ [nI (ownC (ts.getD j zT))]) ⟨by simp only; omega, by simp only [List.length_append, List.length_cons, List.length_nil]; omega, by rw [he, map_step _ zT h6]⟩ (by simp only; omega))
    · (simp only [sxs, sxb, and_self, and_true, true_and, implies_true, imp_self, bne_eq_false_iff_eq, Nat.zero_add, Nat.le_refl, Int.toNat_natCast, Int.ofNat_lt, Int.natCast_nonneg, decide_eq_true_eq, decide_eq_false_iff_not, bne_iff_ne, ne_eq]; try dsimp only [Kd.T, Kds.T, AK.T, AKs.T])
      rw [List.length_append, w64s (by omega)]
      exact ⟨rfl, rfl⟩
    · (simp only [sxs, sxb, and_self, and_true, true_and, implies_true, imp_self, bne_eq_false_iff_eq, Nat.zero_add, Nat.le_refl, Int.toNat_natCast, Int.ofNat_lt, Int.natCast_nonneg, decide_eq_true_eq, decide_eq_false_iff_not, bne_iff_ne, ne_eq]; try dsimp only [Kd.T, Kds.T, AK.T, AKs.T])
      show m ++ [IntKind.i64.wrap (((ts.getD j zT).2.1.length : Int) - (((ts.getD j zT).2.1.filter hallB).length : Int))] = m ++ [nI (((ts.getD j zT).2.1.filter fun c => !hallB c).length)]
      rw [w64 (by omega) (by omega)]
      congr 2
      simp only [nI]
      omega
  clear ih
  rw [List.take_of_length_le (by omega)] at he
  refine AM.run2 hG 100 (by cbv) ?_ ?_
  · (simp only [sxs, sxb, and_self, and_true, true_and, implies_true, imp_self, bne_eq_false_iff_eq, Nat.zero_add, Nat.le_refl, Int.toNat_natCast, Int.ofNat_lt, Int.natCast_nonneg, decide_eq_true_eq, decide_eq_false_iff_not, bne_iff_ne, ne_eq]; try dsimp only [Kd.T, Kds.T, AK.T, AKs.T])
  refine AM.ret2 hG (by cbv) (by (simp only [sxs, sxb, and_self, and_true, true_and, implies_true, imp_self, bne_eq_false_iff_eq, Nat.zero_add, Nat.le_refl, Int.toNat_natCast, Int.ofNat_lt, Int.natCast_nonneg, decide_eq_true_eq, decide_eq_false_iff_not, bne_iff_ne, ne_eq]; try dsimp only [Kd.T, Kds.T, AK.T, AKs.T])) (hQ _ _ (FinRo.of (by cbv) (by cbv) ?_ ?_))
  · (simp only [sxs, sxb, and_self, and_true, true_and, implies_true, imp_self, bne_eq_false_iff_eq, Nat.zero_add, Nat.le_refl, Int.toNat_natCast, Int.ofNat_lt, Int.natCast_nonneg, decide_eq_true_eq, decide_eq_false_iff_not, bne_iff_ne, ne_eq]; try dsimp only [Kd.T, Kds.T, AK.T, AKs.T])
  try (simp only [sxs, sxb, and_self, and_true, true_and, implies_true, imp_self, bne_eq_false_iff_eq, Nat.zero_add, Nat.le_refl, Int.toNat_natCast, Int.ofNat_lt, Int.natCast_nonneg, decide_eq_true_eq, decide_eq_false_iff_not, bne_iff_ne, ne_eq]; try dsimp only [Kd.T, Kds.T, AK.T, AKs.T])
  rw [List.take_length, wipedO, if_neg (by rw [c]; decide)]
  exact ⟨he, rfl⟩
def aB (ld : List Int) (inn : List Bool) (e : Int) (i : Nat) : Bool := if (!inn.getD i false) = true then true else leI (ld.getD i 0) e
def noC (D : List Call) (i : Nat) : Bool := D.all fun c => hallB c || neI c.2.2.1 ((i : Int) + 1)
def cleanL (ld : List Int) (inn : List Bool) (e : Int) (D : List Call) (n : Nat) : List Bool := (List.range n).map fun i => aB ld inn e i && noC D i
def callsOf (ts : List Table) : List Call := ts.flatMap fun t => t.2.1
def cleanO (h : Hand) (e : Int) : List Bool × Int := if askE h e ≠ 0 then ([], askE h e) else (cleanL h.1 h.2.2.1 e (callsOf h.2.2.2.1) h.1.length, 0)
theorem set_gen {f : Nat → Bool} {i n : Nat} (b : Bool) (hb : b = f i) (h : i < n) : ((List.range i).map f ++ List.replicate (n - i) false).set i b = (List.range (i + 1)).map f ++ List.replicate (n - (i + 1)) false := by
  obtain ⟨m, hm⟩ : ∃ m, n - i = m + 1 := ⟨n - i - 1, by omega⟩
  rw [hm, show n - (i + 1) = m by omega, List.replicate_succ, List.set_append_right _ _ (by simp), List.length_map, List.length_range, Nat.sub_self, List.set_cons_zero, List.range_succ, List.map_append, List.append_assoc, hb]
  rfl
theorem noC_app (D : List Call) (c : Call) (i : Nat) : noC (D ++ [c]) i = (noC D i && (hallB c || neI c.2.2.1 ((i : Int) + 1))) := by
  simp [noC]
theorem cleanL_len (ld : List Int) (inn : List Bool) (e : Int) (D : List Call) (n : Nat) : (cleanL ld inn e D n).length = n := by simp [cleanL]
theorem clean_set {ld : List Int} {inn : List Bool} {e : Int} {D : List Call} {n k : Nat} {c : Call} (hh : hallB c = false) (hc : c.2.2.1 = (k : Int) + 1) (hk : k < n) : (cleanL ld inn e D n).set k false = cleanL ld inn e (D ++ [c]) n := by
  apply List.ext_getElem
  · simp [cleanL]
  · intro i h1 h2
    rw [List.getElem_set]
    simp only [cleanL, List.getElem_map, List.getElem_range, noC_app, hh, Bool.false_or]
    by_cases q : k = i
    · subst q
      rw [if_pos rfl, show neI c.2.2.1 ((k : Int) + 1) = false by rw [neI_f]; exact hc]
      simp
    · rw [if_neg q, show neI c.2.2.1 ((i : Int) + 1) = true by rw [neI_t, hc]; omega]
      simp
theorem clean_skip {ld : List Int} {inn : List Bool} {e : Int} {D : List Call} {n : Nat} {c : Call} (h : hallB c = true ∨ (n : Int) < c.2.2.1) : cleanL ld inn e (D ++ [c]) n = cleanL ld inn e D n := by
  apply List.map_congr_left
  intro i hi
  rw [List.mem_range] at hi
  rw [noC_app]
  rcases h with h | h
  · rw [h]; simp
  · rw [show neI c.2.2.1 ((i : Int) + 1) = true by rw [neI_t]; omega]; simp
theorem tabs_ok : ∀ {l : List Table}, tabsE l = 0 → ∀ t ∈ l, tabE t = 0
  | [], _, t, h => by simp at h
  | a :: l, hk, t, h => by
    rw [tabsE] at hk
    split at hk
    · rename_i q; exact absurd hk q
    · rename_i q
      rcases List.mem_cons.1 h with rfl | h
      · simpa using q
      · exact tabs_ok hk t h
theorem tabFromU {l : List Call} : ∀ {n i : Nat}, (tabFrom l n i).1 = 0 → ∀ j, i ≤ j → j < i + n → checkAt l j = 0
  | 0, i, h, j, h1, h2 => by omega
  | n + 1, i, h, j, h1, h2 => by
    rw [tabFrom] at h
    split at h
    · rename_i hc; exact absurd h hc
    · rename_i hc
      by_cases e : j = i
      · subst e; simpa using hc
      · exact tabFromU h j (by omega) (by omega)
theorem tabU {t : Table} (h : tabE t = 0) : ∀ j, j < t.2.1.length → callErr (t.2.1.getD j zc) = 0 := by
  intro j hj
  rw [tabE, tabCheck] at h
  split at h
  · cases h
  · split at h
    · cases h
    · have := tabFromU h j (by omega) (by omega)
      rw [checkAt] at this
      split at this
      · rename_i q; exact absurd this q
      · rename_i q; simpa using q
theorem carU {c : Call} (h : callErr c = 0) (hh : hallB c = false) : 1 ≤ c.2.2.1 ∧ c.2.2.1 ≤ 8 := by
  have h3 : c.1 = 3 := by simpa [hallB] using hh
  rw [callErr] at h
  split at h
  · cases h
  · split at h
    · cases h
    · split at h
      · cases h
      · omega
theorem ask_hand {h : Hand} {e : Int} (hk : askE h e = 0) : handE h = 0 := by
  unfold askE at hk
  split at hk
  · rename_i h1; exact absurd hk h1
  · rename_i h1; simpa using h1
theorem hand_tabs {h : Hand} (hk : handE h = 0) : ∀ t ∈ h.2.2.2.1, tabE t = 0 := by
  unfold handE at hk
  split at hk
  · exact absurd hk (by decide)
  · split at hk
    · rename_i q; exact absurd hk q
    · exact tabs_ok hk
theorem callsOf_step {ts : List Table} {j : Nat} (h : j < ts.length) : callsOf (ts.take (j + 1)) = callsOf (ts.take j) ++ (ts.getD j zT).2.1 := by
  rw [callsOf, take_succG zT h, List.flatMap_append]
  simp [callsOf]
def S74 : List AV → Option FOut := sigSpec [HandK, I64] [BoolsK, I64] (fun x : Hand × Int × Unit => ((cleanO x.1 x.2.1).1, (cleanO x.1 x.2.1).2, ())) (fun x : Hand × Int × Unit => handL x.1)
set_option maxHeartbeats 8000000 in
theorem fn74 : FnOk Try.prog 74 S74 := by
  refine fn_ofB (rs := [.tmp 4, .tmp 5]) (env [(116, S116), (124, S124own), (126, S126)] ⟨fn116, fn124own, fn126, trivial⟩) Try.func74 (by kernel_rfl) rfl rfl Try.ntmps74 ?_
  rintro ⟨⟨(ld : List Int), (fl : List Bool), (inn : List Bool), (ts : List Table), ⟨⟩⟩, (e : Int), u2⟩ ⟨h1, h2, h3, h4, h5⟩ G hG hB hQ
  have hB := GB.of hB
  simp only at h1 h2 h3 h4 h5
  refine AM.run2 hG 100 (by cbv) ?_ ?_
  · (simp only [sxs, sxb, and_self, and_true, true_and, implies_true, imp_self, bne_eq_false_iff_eq, Nat.zero_add, Nat.le_refl, Int.toNat_natCast, Int.ofNat_lt, Int.natCast_nonneg, decide_eq_true_eq, decide_eq_false_iff_not, bne_iff_ne, ne_eq]; try dsimp only [Kd.T, Kds.T, AK.T, AKs.T])
    exact ⟨h1, by omega⟩
  refine AM.case 16 rfl (fun c => ?_) (fun c => ?_) <;> (simp only [sxs, sxb, and_self, and_true, true_and, implies_true, imp_self, bne_eq_false_iff_eq, Nat.zero_add, Nat.le_refl, Int.toNat_natCast, Int.ofNat_lt, Int.natCast_nonneg, decide_eq_true_eq, decide_eq_false_iff_not, bne_iff_ne, ne_eq] at c; try dsimp only [Kd.T, Kds.T, AK.T, AKs.T] at c)
  · replace c : ¬ askE (ld, fl, inn, ts, ()) e = 0 := c
    refine AM.run2 hG 100 (by cbv) ?_ ?_
    · (simp only [sxs, sxb, and_self, and_true, true_and, implies_true, imp_self, bne_eq_false_iff_eq, Nat.zero_add, Nat.le_refl, Int.toNat_natCast, Int.ofNat_lt, Int.natCast_nonneg, decide_eq_true_eq, decide_eq_false_iff_not, bne_iff_ne, ne_eq]; try dsimp only [Kd.T, Kds.T, AK.T, AKs.T])
    refine AM.ret2 hG (by cbv) (by (simp only [sxs, sxb, and_self, and_true, true_and, implies_true, imp_self, bne_eq_false_iff_eq, Nat.zero_add, Nat.le_refl, Int.toNat_natCast, Int.ofNat_lt, Int.natCast_nonneg, decide_eq_true_eq, decide_eq_false_iff_not, bne_iff_ne, ne_eq]; try dsimp only [Kd.T, Kds.T, AK.T, AKs.T])) (hQ _ _ (FinRo.of (by cbv) (by cbv) ?_ ?_))
    · (simp only [sxs, sxb, and_self, and_true, true_and, implies_true, imp_self, bne_eq_false_iff_eq, Nat.zero_add, Nat.le_refl, Int.toNat_natCast, Int.ofNat_lt, Int.natCast_nonneg, decide_eq_true_eq, decide_eq_false_iff_not, bne_iff_ne, ne_eq]; try dsimp only [Kd.T, Kds.T, AK.T, AKs.T])
    try (simp only [sxs, sxb, and_self, and_true, true_and, implies_true, imp_self, bne_eq_false_iff_eq, Nat.zero_add, Nat.le_refl, Int.toNat_natCast, Int.ofNat_lt, Int.natCast_nonneg, decide_eq_true_eq, decide_eq_false_iff_not, bne_iff_ne, ne_eq]; try dsimp only [Kd.T, Kds.T, AK.T, AKs.T])
    rw [cleanO, if_pos c]
    exact ⟨rfl, rfl⟩
  replace c : askE (ld, fl, inn, ts, ()) e = 0 := c
  have htabs := hand_tabs (ask_hand c)
  obtain ⟨⟨k1, k2, k3, k4⟩, k5⟩ := askE_ok c
  simp only at k1 k2 k3 k4 htabs
  obtain ⟨n, hn⟩ : ∃ n, ld.length = n := ⟨_, rfl⟩
  have hres : cleanO (ld, fl, inn, ts, ()) e = (cleanL ld inn e (callsOf ts) n, 0) := by rw [cleanO, if_neg (by rw [c]; decide)]; simp only [hn]
  refine AM.run2 hG 100 (by cbv) ?_ ?_
  · (simp only [sxs, sxb, and_self, and_true, true_and, implies_true, imp_self, bne_eq_false_iff_eq, Nat.zero_add, Nat.le_refl, Int.toNat_natCast, Int.ofNat_lt, Int.natCast_nonneg, decide_eq_true_eq, decide_eq_false_iff_not, bne_iff_ne, ne_eq]; try dsimp only [Kd.T, Kds.T, AK.T, AKs.T])
    rw [hn]
    omega
  refine AM.loopI (fun i : Nat => (frame 69 [(1, .int .i64 (.t fun _ => e)), (2, .ptr 0 0), (7, .ptr 2 0), (23, .int .i64 (.t fun _ => nI n)), (24, .int .i64 (.t fun _ => nI i))],
    [.box 78 [.ro I64 fun _ => ld, .ro .bool fun _ => fl, .ro .bool fun _ => inn, .ro TableK fun _ => ts], .row 4 .bool (fun _ => (List.range i).map (aB ld inn e) ++ List.replicate (n - i) false), .box 75 [.sl 1 1 (.l 0) (.t fun _ => n)]])) (fun i => i ≤ n) (fun i => n - i) 0 (Nat.zero_le _) ?_ ?_ ?_
  · cbv; (simp only [sxs, sxb, and_self, and_true, true_and, implies_true, imp_self, bne_eq_false_iff_eq, Nat.zero_add, Nat.le_refl, Int.toNat_natCast, Int.ofNat_lt, Int.natCast_nonneg, decide_eq_true_eq, decide_eq_false_iff_not, bne_iff_ne, ne_eq]; try dsimp only [Kd.T, Kds.T, AK.T, AKs.T])
    rw [hn]
    exact ⟨rfl, rfl⟩
  · cbv; (simp only [sxs, sxb, and_self, and_true, true_and, implies_true, imp_self, bne_eq_false_iff_eq, Nat.zero_add, Nat.le_refl, Int.toNat_natCast, Int.ofNat_lt, Int.natCast_nonneg, decide_eq_true_eq, decide_eq_false_iff_not, bne_iff_ne, ne_eq]; try dsimp only [Kd.T, Kds.T, AK.T, AKs.T])
    rw [hn]
    exact ⟨by rw [Nat.sub_zero]; rfl, rfl⟩
  rintro i hi ih
  refine AM.run2 hG 100 (by cbv) ?_ ?_
  · (simp only [sxs, sxb, and_self, and_true, true_and, implies_true, imp_self, bne_eq_false_iff_eq, Nat.zero_add, Nat.le_refl, Int.toNat_natCast, Int.ofNat_lt, Int.natCast_nonneg, decide_eq_true_eq, decide_eq_false_iff_not, bne_iff_ne, ne_eq]; try dsimp only [Kd.T, Kds.T, AK.T, AKs.T])
  refine AM.case 25 rfl (fun h6 => ?_) (fun h6 => ?_) <;> (simp only [sxs, sxb, and_self, and_true, true_and, implies_true, imp_self, bne_eq_false_iff_eq, Nat.zero_add, Nat.le_refl, Int.toNat_natCast, Int.ofNat_lt, Int.natCast_nonneg, decide_eq_true_eq, decide_eq_false_iff_not, bne_iff_ne, ne_eq] at h6; try dsimp only [Kd.T, Kds.T, AK.T, AKs.T] at h6)
  · refine AM.run2 hG 100 (by cbv) ?_ ?_
    · (simp only [sxs, sxb, and_self, and_true, true_and, implies_true, imp_self, bne_eq_false_iff_eq, Nat.zero_add, Nat.le_refl, Int.toNat_natCast, Int.ofNat_lt, Int.natCast_nonneg, decide_eq_true_eq, decide_eq_false_iff_not, bne_iff_ne, ne_eq, List.length_append, List.length_map, List.length_range, List.length_replicate]; try dsimp only [Kd.T, Kds.T, AK.T, AKs.T])
      exact ⟨by omega, by omega, fun _ => by omega, fun _ => by omega, h6, by omega⟩
    refine AM.imp2 (by cbv) (by cbv) ?_ ?_ (ih (i + 1) (by omega) (by omega))
    · (simp only [sxs, sxb, and_self, and_true, true_and, implies_true, imp_self, bne_eq_false_iff_eq, Nat.zero_add, Nat.le_refl, Int.toNat_natCast, Int.ofNat_lt, Int.natCast_nonneg, decide_eq_true_eq, decide_eq_false_iff_not, bne_iff_ne, ne_eq]; try dsimp only [Kd.T, Kds.T, AK.T, AKs.T])
      rw [w64s (by omega)]
    · (simp only [sxs, sxb, and_self, and_true, true_and, implies_true, imp_self, bne_eq_false_iff_eq, Nat.zero_add, Nat.le_refl, Int.toNat_natCast, Int.ofNat_lt, Int.natCast_nonneg, decide_eq_true_eq, decide_eq_false_iff_not, bne_iff_ne, ne_eq]; try dsimp only [Kd.T, Kds.T, AK.T, AKs.T])
      refine set_gen (f := aB ld inn e) _ ?_ (by omega)
      rw [aB]
      show (decide (inn.getD i false = false) || leI (ld.getD i 0) e) = _
      cases inn.getD i false <;> simp
  obtain rfl : i = n := by omega
  clear ih
  refine AM.run2 hG 100 (by cbv) ?_ ?_
  · (simp only [sxs, sxb, and_self, and_true, true_and, implies_true, imp_self, bne_eq_false_iff_eq, Nat.zero_add, Nat.le_refl, Int.toNat_natCast, Int.ofNat_lt, Int.natCast_nonneg, decide_eq_true_eq, decide_eq_false_iff_not, bne_iff_ne, ne_eq]; try dsimp only [Kd.T, Kds.T, AK.T, AKs.T])
  refine AM.loopI (fun j : Nat => (frame 69 [(2, .ptr 0 0), (7, .ptr 2 0), (47, .ro TableK fun _ => ts), (48, .int .i64 (.t fun _ => nI ts.length)), (49, .int .i64 (.t fun _ => nI j))],
    [.box 78 [.ro I64 fun _ => ld, .ro .bool fun _ => fl, .ro .bool fun _ => inn, .ro TableK fun _ => ts], .row 4 .bool (fun _ => cleanL ld inn e (callsOf (ts.take j)) i), .box 75 [.sl 1 1 (.l 0) (.t fun _ => i)]])) (fun j => j ≤ ts.length) (fun j => ts.length - j) 0 (Nat.zero_le _) ?_ ?_ ?_
  · cbv; (simp only [sxs, sxb, and_self, and_true, true_and, implies_true, imp_self, bne_eq_false_iff_eq, Nat.zero_add, Nat.le_refl, Int.toNat_natCast, Int.ofNat_lt, Int.natCast_nonneg, decide_eq_true_eq, decide_eq_false_iff_not, bne_iff_ne, ne_eq]; try dsimp only [Kd.T, Kds.T, AK.T, AKs.T]); all_goals ((repeat' apply And.intro) <;> first | rfl | assumption | exact trivial)
  · cbv; (simp only [sxs, sxb, and_self, and_true, true_and, implies_true, imp_self, bne_eq_false_iff_eq, Nat.zero_add, Nat.le_refl, Int.toNat_natCast, Int.ofNat_lt, Int.natCast_nonneg, decide_eq_true_eq, decide_eq_false_iff_not, bne_iff_ne, ne_eq]; try dsimp only [Kd.T, Kds.T, AK.T, AKs.T])
    rw [Nat.sub_self, List.replicate_zero, List.append_nil, cleanL]
    exact List.map_congr_left fun k _ => by simp [callsOf, noC]
  rintro j hj ih
  refine AM.run2 hG 100 (by cbv) ?_ ?_
  · (simp only [sxs, sxb, and_self, and_true, true_and, implies_true, imp_self, bne_eq_false_iff_eq, Nat.zero_add, Nat.le_refl, Int.toNat_natCast, Int.ofNat_lt, Int.natCast_nonneg, decide_eq_true_eq, decide_eq_false_iff_not, bne_iff_ne, ne_eq]; try dsimp only [Kd.T, Kds.T, AK.T, AKs.T])
  refine AM.case 50 rfl (fun h6 => ?_) (fun h6 => ?_) <;> (simp only [sxs, sxb, and_self, and_true, true_and, implies_true, imp_self, bne_eq_false_iff_eq, Nat.zero_add, Nat.le_refl, Int.toNat_natCast, Int.ofNat_lt, Int.natCast_nonneg, decide_eq_true_eq, decide_eq_false_iff_not, bne_iff_ne, ne_eq] at h6; try dsimp only [Kd.T, Kds.T, AK.T, AKs.T] at h6)
  · have hcs := callsOf_step h6
    refine AM.run2 hG 100 (by cbv) ?_ ?_
    · (simp only [sxs, sxb, and_self, and_true, true_and, implies_true, imp_self, bne_eq_false_iff_eq, Nat.zero_add, Nat.le_refl, Int.toNat_natCast, Int.ofNat_lt, Int.natCast_nonneg, decide_eq_true_eq, decide_eq_false_iff_not, bne_iff_ne, ne_eq]; try dsimp only [Kd.T, Kds.T, AK.T, AKs.T])
      exact h6
    obtain ⟨tb, htb⟩ : ∃ tb, ts.getD j zT = tb := ⟨_, rfl⟩
    have hlen := h5 j
    have htab := tabU (htabs (ts.getD j zT) (by rw [List.getD_eq_getElem?_getD, List.getElem?_eq_getElem h6]; exact List.getElem_mem h6))
    rw [htb] at hlen htab hcs
    obtain ⟨tc, tl, ⟨⟩⟩ := tb
    simp only at hlen htab hcs
    obtain ⟨D, hD⟩ : ∃ D, callsOf (ts.take j) = D := ⟨_, rfl⟩
    rw [hD] at hcs
    refine AM.imp2 (fr' := frame 69 [(2, .ptr 0 0), (7, .ptr 2 0), (47, .ro TableK fun _ => ts), (48, .int .i64 (.t fun _ => nI ts.length)), (49, .int .i64 (.t fun _ => nI j)), (55, .fn (.func 139) [] [.fb [.ro CallK fun _ => tl] 0, .fb [.fn (.func 126) [] []] 0])])
      (h' := [.box 78 [.ro I64 fun _ => ld, .ro .bool fun _ => fl, .ro .bool fun _ => inn, .ro TableK fun _ => ts], .row 4 .bool (fun _ => cleanL ld inn e D i), .box 75 [.sl 1 1 (.l 0) (.t fun _ => i)], .dead]) (by cbv) (by cbv) ?_ ?_ ?_
    · (simp only [sxs, sxb, and_self, and_true, true_and, implies_true, imp_self, bne_eq_false_iff_eq, Nat.zero_add, Nat.le_refl, Int.toNat_natCast, Int.ofNat_lt, Int.natCast_nonneg, decide_eq_true_eq, decide_eq_false_iff_not, bne_iff_ne, ne_eq]; try dsimp only [Kd.T, Kds.T, AK.T, AKs.T])
      exact congrArg (fun t : Table => t.2.1) htb
    · (simp only [sxs, sxb, and_self, and_true, true_and, implies_true, imp_self, bne_eq_false_iff_eq, Nat.zero_add, Nat.le_refl, Int.toNat_natCast, Int.ofNat_lt, Int.natCast_nonneg, decide_eq_true_eq, decide_eq_false_iff_not, bne_iff_ne, ne_eq]; try dsimp only [Kd.T, Kds.T, AK.T, AKs.T])
      rw [hD]
    refine AM.rangeFunc hG rfl Try.func139 (by kernel_rfl) rfl rfl Try.ntmps139 ?_
    intro L rec G2 hG2 hB2 hL hQ2
    replace hB2 : GB G2 5 := hB2
    replace hL : LoopOk G2 4 L rec _ _ _ _ := hL
    refine AM.run2 hG2 100 (by cbv) ?_ ?_
    · (simp only [sxs, sxb, and_self, and_true, true_and, implies_true, imp_self, bne_eq_false_iff_eq, Nat.zero_add, Nat.le_refl, Int.toNat_natCast, Int.ofNat_lt, Int.natCast_nonneg, decide_eq_true_eq, decide_eq_false_iff_not, bne_iff_ne, ne_eq]; try dsimp only [Kd.T, Kds.T, AK.T, AKs.T])
    refine AM.loopI (fun k : Nat => (frame 22 [(0, .fn (.yield L) [] []), (1, .fb [.ro CallK fun _ => tl] 0), (2, .fb [.fn (.func 126) [] []] 0), (6, .ro CallK fun _ => tl), (7, .int .i64 (.t fun _ => nI tl.length)), (8, .int .i64 (.t fun _ => nI k))],
      [.box 78 [.ro I64 fun _ => ld, .ro .bool fun _ => fl, .ro .bool fun _ => inn, .ro TableK fun _ => ts], .row 4 .bool (fun _ => cleanL ld inn e (D ++ tl.take k) i), .box 75 [.sl 1 1 (.l 0) (.t fun _ => i)], .dead, .obj fun _ => .loop rec]))
      (fun k => k ≤ tl.length) (fun k => tl.length - k) 0 (Nat.zero_le _) ?_ ?_ ?_
    · cbv; (simp only [sxs, sxb, and_self, and_true, true_and, implies_true, imp_self, bne_eq_false_iff_eq, Nat.zero_add, Nat.le_refl, Int.toNat_natCast, Int.ofNat_lt, Int.natCast_nonneg, decide_eq_true_eq, decide_eq_false_iff_not, bne_iff_ne, ne_eq]; try dsimp only [Kd.T, Kds.T, AK.T, AKs.T]); all_goals ((repeat' apply And.intro) <;> first | rfl | assumption | exact trivial)
    · cbv; (simp only [sxs, sxb, and_self, and_true, true_and, implies_true, imp_self, bne_eq_false_iff_eq, Nat.zero_add, Nat.le_refl, Int.toNat_natCast, Int.ofNat_lt, Int.natCast_nonneg, decide_eq_true_eq, decide_eq_false_iff_not, bne_iff_ne, ne_eq]; try dsimp only [Kd.T, Kds.T, AK.T, AKs.T])
      rw [List.take_zero, List.append_nil]
    · rintro k hk ih2
      refine AM.run2 hG2 100 (by cbv) ?_ ?_
      · (simp only [sxs, sxb, and_self, and_true, true_and, implies_true, imp_self, bne_eq_false_iff_eq, Nat.zero_add, Nat.le_refl, Int.toNat_natCast, Int.ofNat_lt, Int.natCast_nonneg, decide_eq_true_eq, decide_eq_false_iff_not, bne_iff_ne, ne_eq]; try dsimp only [Kd.T, Kds.T, AK.T, AKs.T])
      refine AM.case 9 rfl (fun h2 => ?_) (fun h2 => ?_) <;> (simp only [sxs, sxb, and_self, and_true, true_and, implies_true, imp_self, bne_eq_false_iff_eq, Nat.zero_add, Nat.le_refl, Int.toNat_natCast, Int.ofNat_lt, Int.natCast_nonneg, decide_eq_true_eq, decide_eq_false_iff_not, bne_iff_ne, ne_eq] at h2; try dsimp only [Kd.T, Kds.T, AK.T, AKs.T] at h2)
      · have hnext : D ++ tl.take (k + 1) = (D ++ tl.take k) ++ [tl.getD k zc] := by rw [take_succG zc h2, List.append_assoc]
        have hck := htab k h2
        refine AM.runTo2 hG2 16 100 (by cbv) ?_ ?_
        · (simp only [sxs, sxb, and_self, and_true, true_and, implies_true, imp_self, bne_eq_false_iff_eq, Nat.zero_add, Nat.le_refl, Int.toNat_natCast, Int.ofNat_lt, Int.natCast_nonneg, decide_eq_true_eq, decide_eq_false_iff_not, bne_iff_ne, ne_eq]; try dsimp only [Kd.T, Kds.T, AK.T, AKs.T])
          exact h2
        obtain ⟨cl, hcl⟩ : ∃ cl, tl.getD k zc = cl := ⟨_, rfl⟩
        rw [hcl] at hnext hck
        refine AM.case 15 rfl (fun (h3 : (!hallB (tl.getD k zc)) = true) => ?_) (fun (h3 : (!hallB (tl.getD k zc)) = false) => ?_)
        · rw [hcl, Bool.not_eq_true'] at h3
          have hcar := carU hck h3
          refine AM.runTo2 hG2 18 100 (by cbv) ?_ ?_
          · (simp only [sxs, sxb, and_self, and_true, true_and, implies_true, imp_self, bne_eq_false_iff_eq, Nat.zero_add, Nat.le_refl, Int.toNat_natCast, Int.ofNat_lt, Int.natCast_nonneg, decide_eq_true_eq, decide_eq_false_iff_not, bne_iff_ne, ne_eq]; try dsimp only [Kd.T, Kds.T, AK.T, AKs.T])
          refine AM.yield (g := fun _ => True) hG2 hL rfl rfl rfl rfl (by simp) rfl ?_
          intro G3 hG3 hB3 hL3 hr3 hQ3
          refine AM.run2 hG3 100 (by cbv) ?_ ?_
          · (simp only [sxs, sxb, and_self, and_true, true_and, implies_true, imp_self, bne_eq_false_iff_eq, Nat.zero_add, Nat.le_refl, Int.toNat_natCast, Int.ofNat_lt, Int.natCast_nonneg, decide_eq_true_eq, decide_eq_false_iff_not, bne_iff_ne, ne_eq]; try dsimp only [Kd.T, Kds.T, AK.T, AKs.T])
          refine AM.beg hL3 rfl (by simp) ?_
          refine AM.run2 hG3 100 (by cbv) ?_ ?_
          · (simp only [sxs, sxb, and_self, and_true, true_and, implies_true, imp_self, bne_eq_false_iff_eq, Nat.zero_add, Nat.le_refl, Int.toNat_natCast, Int.ofNat_lt, Int.natCast_nonneg, decide_eq_true_eq, decide_eq_false_iff_not, bne_iff_ne, ne_eq]; try dsimp only [Kd.T, Kds.T, AK.T, AKs.T])
          refine AM.case 61 rfl (fun h7 => ?_) (fun h7 => ?_) <;> (simp only [sxs, sxb, and_self, and_true, true_and, implies_true, imp_self, bne_eq_false_iff_eq, Nat.zero_add, Nat.le_refl, Int.toNat_natCast, Int.ofNat_lt, Int.natCast_nonneg, decide_eq_true_eq, decide_eq_false_iff_not, bne_iff_ne, ne_eq] at h7; try dsimp only [Kd.T, Kds.T, AK.T, AKs.T] at h7)
          · replace h7 : cl.2.2.1 ≤ (i : Int) := by rw [← hcl]; exact h7
            obtain ⟨q, hq⟩ : ∃ q : Nat, cl.2.2.1 = (q : Int) + 1 := ⟨(cl.2.2.1 - 1).toNat, by omega⟩
            have hq2 : q < i := by omega
            have hw1 : IntKind.i64.wrap ((tl.getD k (0, 0, 0, 0, ())).2.2.1 - 1) = (q : Int) := by
              rw [show tl.getD k (0, 0, 0, 0, ()) = cl from hcl, hq, w64 (by omega) (by omega)]
              omega
            refine AM.run2 hG3 100 (by cbv) ?_ ?_
            · (simp only [sxs, sxb, and_self, and_true, true_and, implies_true, imp_self, bne_eq_false_iff_eq, Nat.zero_add, Nat.le_refl, Int.toNat_natCast, Int.ofNat_lt, Int.natCast_nonneg, decide_eq_true_eq, decide_eq_false_iff_not, bne_iff_ne, ne_eq]; try dsimp only [Kd.T, Kds.T, AK.T, AKs.T])
              rw [hw1, cleanL_len, Int.toNat_natCast]
              exact ⟨hq2, by omega, by omega⟩
            refine AM.roundEnd hr3 (hQ3 _ _ rfl ?_)
            refine AM.run2 hG2 100 (by cbv) ?_ ?_
            · (simp only [sxs, sxb, and_self, and_true, true_and, implies_true, imp_self, bne_eq_false_iff_eq, Nat.zero_add, Nat.le_refl, Int.toNat_natCast, Int.ofNat_lt, Int.natCast_nonneg, decide_eq_true_eq, decide_eq_false_iff_not, bne_iff_ne, ne_eq]; try dsimp only [Kd.T, Kds.T, AK.T, AKs.T])
            refine AM.ren hB2 [0, 1, 2, 3, 4] (by cbv) (by cbv) (by cbv) ?_ ?_ (ih2 (k + 1) (by omega) (by omega))
            · (simp only [sxs, sxb, and_self, and_true, true_and, implies_true, imp_self, bne_eq_false_iff_eq, Nat.zero_add, Nat.le_refl, Int.toNat_natCast, Int.ofNat_lt, Int.natCast_nonneg, decide_eq_true_eq, decide_eq_false_iff_not, bne_iff_ne, ne_eq]; try dsimp only [Kd.T, Kds.T, AK.T, AKs.T])
              rw [w64s (by omega)]
            · (simp only [sxs, sxb, and_self, and_true, true_and, implies_true, imp_self, bne_eq_false_iff_eq, Nat.zero_add, Nat.le_refl, Int.toNat_natCast, Int.ofNat_lt, Int.natCast_nonneg, decide_eq_true_eq, decide_eq_false_iff_not, bne_iff_ne, ne_eq]; try dsimp only [Kd.T, Kds.T, AK.T, AKs.T])
              rw [hw1, Int.toNat_natCast, hnext]
              exact clean_set h3 hq hq2
          · replace h7 : ¬ cl.2.2.1 ≤ (i : Int) := by rw [← hcl]; exact h7
            refine AM.run2 hG3 100 (by cbv) ?_ ?_
            · (simp only [sxs, sxb, and_self, and_true, true_and, implies_true, imp_self, bne_eq_false_iff_eq, Nat.zero_add, Nat.le_refl, Int.toNat_natCast, Int.ofNat_lt, Int.natCast_nonneg, decide_eq_true_eq, decide_eq_false_iff_not, bne_iff_ne, ne_eq]; try dsimp only [Kd.T, Kds.T, AK.T, AKs.T])
            refine AM.roundEnd hr3 (hQ3 _ _ rfl ?_)
            refine AM.run2 hG2 100 (by cbv) ?_ ?_
            · (simp only [sxs, sxb, and_self, and_true, true_and, implies_true, imp_self, bne_eq_false_iff_eq, Nat.zero_add, Nat.le_refl, Int.toNat_natCast, Int.ofNat_lt, Int.natCast_nonneg, decide_eq_true_eq, decide_eq_false_iff_not, bne_iff_ne, ne_eq]; try dsimp only [Kd.T, Kds.T, AK.T, AKs.T])
            refine AM.ren hB2 [0, 1, 2, 3, 4] (by cbv) (by cbv) (by cbv) ?_ ?_ (ih2 (k + 1) (by omega) (by omega))
            · (simp only [sxs, sxb, and_self, and_true, true_and, implies_true, imp_self, bne_eq_false_iff_eq, Nat.zero_add, Nat.le_refl, Int.toNat_natCast, Int.ofNat_lt, Int.natCast_nonneg, decide_eq_true_eq, decide_eq_false_iff_not, bne_iff_ne, ne_eq]; try dsimp only [Kd.T, Kds.T, AK.T, AKs.T])
              rw [w64s (by omega)]
            · (simp only [sxs, sxb, and_self, and_true, true_and, implies_true, imp_self, bne_eq_false_iff_eq, Nat.zero_add, Nat.le_refl, Int.toNat_natCast, Int.ofNat_lt, Int.natCast_nonneg, decide_eq_true_eq, decide_eq_false_iff_not, bne_iff_ne, ne_eq]; try dsimp only [Kd.T, Kds.T, AK.T, AKs.T])
              rw [hnext, clean_skip (.inr (by omega))]
        · rw [hcl, Bool.not_eq_false'] at h3
          refine AM.run2 hG2 100 (by cbv) ?_ ?_
          · (simp only [sxs, sxb, and_self, and_true, true_and, implies_true, imp_self, bne_eq_false_iff_eq, Nat.zero_add, Nat.le_refl, Int.toNat_natCast, Int.ofNat_lt, Int.natCast_nonneg, decide_eq_true_eq, decide_eq_false_iff_not, bne_iff_ne, ne_eq]; try dsimp only [Kd.T, Kds.T, AK.T, AKs.T])
          refine AM.ren hB2 [0, 1, 2, 3, 4] (by cbv) (by cbv) (by cbv) ?_ ?_ (ih2 (k + 1) (by omega) (by omega))
          · (simp only [sxs, sxb, and_self, and_true, true_and, implies_true, imp_self, bne_eq_false_iff_eq, Nat.zero_add, Nat.le_refl, Int.toNat_natCast, Int.ofNat_lt, Int.natCast_nonneg, decide_eq_true_eq, decide_eq_false_iff_not, bne_iff_ne, ne_eq]; try dsimp only [Kd.T, Kds.T, AK.T, AKs.T])
            rw [w64s (by omega)]
          · (simp only [sxs, sxb, and_self, and_true, true_and, implies_true, imp_self, bne_eq_false_iff_eq, Nat.zero_add, Nat.le_refl, Int.toNat_natCast, Int.ofNat_lt, Int.natCast_nonneg, decide_eq_true_eq, decide_eq_false_iff_not, bne_iff_ne, ne_eq]; try dsimp only [Kd.T, Kds.T, AK.T, AKs.T])
            rw [hnext, clean_skip (.inl h3)]
      clear ih2
      obtain rfl : k = tl.length := by omega
      refine AM.run2 hG2 100 (by cbv) ?_ ?_
      · (simp only [sxs, sxb, and_self, and_true, true_and, implies_true, imp_self, bne_eq_false_iff_eq, Nat.zero_add, Nat.le_refl, Int.toNat_natCast, Int.ofNat_lt, Int.natCast_nonneg, decide_eq_true_eq, decide_eq_false_iff_not, bne_iff_ne, ne_eq]; try dsimp only [Kd.T, Kds.T, AK.T, AKs.T])
      refine AM.fall2 hG2 (by cbv) (by (simp only [sxs, sxb, and_self, and_true, true_and, implies_true, imp_self, bne_eq_false_iff_eq, Nat.zero_add, Nat.le_refl, Int.toNat_natCast, Int.ofNat_lt, Int.natCast_nonneg, decide_eq_true_eq, decide_eq_false_iff_not, bne_iff_ne, ne_eq]; try dsimp only [Kd.T, Kds.T, AK.T, AKs.T])) (hQ2 _ _ rfl ?_)
      refine AM.run2 hG 100 (by cbv) ?_ ?_
      · (simp only [sxs, sxb, and_self, and_true, true_and, implies_true, imp_self, bne_eq_false_iff_eq, Nat.zero_add, Nat.le_refl, Int.toNat_natCast, Int.ofNat_lt, Int.natCast_nonneg, decide_eq_true_eq, decide_eq_false_iff_not, bne_iff_ne, ne_eq]; try dsimp only [Kd.T, Kds.T, AK.T, AKs.T])
      refine AM.ren hB [0, 1, 2] (by cbv) (by cbv) (by cbv) ?_ ?_ (ih (j + 1) (by omega) (by omega))
      · (simp only [sxs, sxb, and_self, and_true, true_and, implies_true, imp_self, bne_eq_false_iff_eq, Nat.zero_add, Nat.le_refl, Int.toNat_natCast, Int.ofNat_lt, Int.natCast_nonneg, decide_eq_true_eq, decide_eq_false_iff_not, bne_iff_ne, ne_eq]; try dsimp only [Kd.T, Kds.T, AK.T, AKs.T])
        rw [w64s (by omega)]
      · (simp only [sxs, sxb, and_self, and_true, true_and, implies_true, imp_self, bne_eq_false_iff_eq, Nat.zero_add, Nat.le_refl, Int.toNat_natCast, Int.ofNat_lt, Int.natCast_nonneg, decide_eq_true_eq, decide_eq_false_iff_not, bne_iff_ne, ne_eq]; try dsimp only [Kd.T, Kds.T, AK.T, AKs.T])
        rw [List.take_length, hcs]
  clear ih
  obtain rfl : j = ts.length := by omega
  refine AM.run2 hG 100 (by cbv) ?_ ?_
  · (simp only [sxs, sxb, and_self, and_true, true_and, implies_true, imp_self, bne_eq_false_iff_eq, Nat.zero_add, Nat.le_refl, Int.toNat_natCast, Int.ofNat_lt, Int.natCast_nonneg, decide_eq_true_eq, decide_eq_false_iff_not, bne_iff_ne, ne_eq]; try dsimp only [Kd.T, Kds.T, AK.T, AKs.T])
  refine AM.ret2 hG (by cbv) (by (simp only [sxs, sxb, and_self, and_true, true_and, implies_true, imp_self, bne_eq_false_iff_eq, Nat.zero_add, Nat.le_refl, Int.toNat_natCast, Int.ofNat_lt, Int.natCast_nonneg, decide_eq_true_eq, decide_eq_false_iff_not, bne_iff_ne, ne_eq]; try dsimp only [Kd.T, Kds.T, AK.T, AKs.T])) (hQ _ _ (FinRo.of (by cbv) (by cbv) ?_ ?_))
  · (simp only [sxs, sxb, and_self, and_true, true_and, implies_true, imp_self, bne_eq_false_iff_eq, Nat.zero_add, Nat.le_refl, Int.toNat_natCast, Int.ofNat_lt, Int.natCast_nonneg, decide_eq_true_eq, decide_eq_false_iff_not, bne_iff_ne, ne_eq]; try dsimp only [Kd.T, Kds.T, AK.T, AKs.T])
    rw [cleanL_len]
    exact Nat.le_refl _
  (simp only [sxs, sxb, and_self, and_true, true_and, implies_true, imp_self, bne_eq_false_iff_eq, Nat.zero_add, Nat.le_refl, Int.toNat_natCast, Int.ofNat_lt, Int.natCast_nonneg, decide_eq_true_eq, decide_eq_false_iff_not, bne_iff_ne, ne_eq]; try dsimp only [Kd.T, Kds.T, AK.T, AKs.T])
  rw [hres, List.take_length, List.take_of_length_le (by rw [cleanL_len]; exact Nat.le_refl _)]
  exact ⟨rfl, rfl⟩
def S75 : List AV → Option FOut := sigSpec [HandK, I64] [BoolsK, I64] (fun x : Hand × Int × Unit => ((cleanO x.1 x.2.1).1, (cleanO x.1 x.2.1).2, ())) (fun x : Hand × Int × Unit => handL x.1)
theorem noC_step {D : List Call} {i k : Nat} (h : k < D.length) : noC (D.take (k + 1)) i = (noC (D.take k) i && (hallB (D.getD k zc) || neI (D.getD k zc).2.2.1 ((i : Int) + 1))) := by
  rw [take_succG zc h, noC_app]
theorem cleanL_succ (ld : List Int) (inn : List Bool) (e : Int) (D : List Call) (n : Nat) : cleanL ld inn e D (n + 1) = cleanL ld inn e D n ++ [aB ld inn e n && noC D n] := by
  rw [cleanL, List.range_succ, List.map_append]
  rfl
theorem noC_apps (D E : List Call) (i : Nat) : noC (D ++ E) i = (noC D i && noC E i) := by
  simp [noC]
set_option maxHeartbeats 8000000 in
theorem fn75 : FnOk Try.prog 75 S75 := by
  refine fn_ofB (rs := [.tmp 4, .tmp 5]) (env [(117, S117)] ⟨fn117, trivial⟩) Try.func75 (by kernel_rfl) rfl rfl Try.ntmps75 ?_
  rintro ⟨⟨(ld : List Int), (fl : List Bool), (inn : List Bool), (ts : List Table), ⟨⟩⟩, (e : Int), u2⟩ ⟨h1, h2, h3, h4, h5⟩ G hG hB hQ
  have hB := GB.of hB
  simp only at h1 h2 h3 h4 h5
  refine AM.run2 hG 100 (by cbv) ?_ ?_
  · (simp only [sxs, sxb, and_self, and_true, true_and, implies_true, imp_self, bne_eq_false_iff_eq, Nat.zero_add, Nat.le_refl, Int.toNat_natCast, Int.ofNat_lt, Int.natCast_nonneg, decide_eq_true_eq, decide_eq_false_iff_not, bne_iff_ne, ne_eq]; try dsimp only [Kd.T, Kds.T, AK.T, AKs.T])
    exact ⟨h1, by omega⟩
  refine AM.case 17 rfl (fun c => ?_) (fun c => ?_) <;> (simp only [sxs, sxb, and_self, and_true, true_and, implies_true, imp_self, bne_eq_false_iff_eq, Nat.zero_add, Nat.le_refl, Int.toNat_natCast, Int.ofNat_lt, Int.natCast_nonneg, decide_eq_true_eq, decide_eq_false_iff_not, bne_iff_ne, ne_eq] at c; try dsimp only [Kd.T, Kds.T, AK.T, AKs.T] at c)
  · replace c : ¬ askE (ld, fl, inn, ts, ()) e = 0 := c
    refine AM.run2 hG 100 (by cbv) ?_ ?_
    · (simp only [sxs, sxb, and_self, and_true, true_and, implies_true, imp_self, bne_eq_false_iff_eq, Nat.zero_add, Nat.le_refl, Int.toNat_natCast, Int.ofNat_lt, Int.natCast_nonneg, decide_eq_true_eq, decide_eq_false_iff_not, bne_iff_ne, ne_eq]; try dsimp only [Kd.T, Kds.T, AK.T, AKs.T])
    refine AM.ret2 hG (by cbv) (by (simp only [sxs, sxb, and_self, and_true, true_and, implies_true, imp_self, bne_eq_false_iff_eq, Nat.zero_add, Nat.le_refl, Int.toNat_natCast, Int.ofNat_lt, Int.natCast_nonneg, decide_eq_true_eq, decide_eq_false_iff_not, bne_iff_ne, ne_eq]; try dsimp only [Kd.T, Kds.T, AK.T, AKs.T])) (hQ _ _ (FinRo.of (by cbv) (by cbv) ?_ ?_))
    · (simp only [sxs, sxb, and_self, and_true, true_and, implies_true, imp_self, bne_eq_false_iff_eq, Nat.zero_add, Nat.le_refl, Int.toNat_natCast, Int.ofNat_lt, Int.natCast_nonneg, decide_eq_true_eq, decide_eq_false_iff_not, bne_iff_ne, ne_eq]; try dsimp only [Kd.T, Kds.T, AK.T, AKs.T])
    try (simp only [sxs, sxb, and_self, and_true, true_and, implies_true, imp_self, bne_eq_false_iff_eq, Nat.zero_add, Nat.le_refl, Int.toNat_natCast, Int.ofNat_lt, Int.natCast_nonneg, decide_eq_true_eq, decide_eq_false_iff_not, bne_iff_ne, ne_eq]; try dsimp only [Kd.T, Kds.T, AK.T, AKs.T])
    rw [cleanO, if_pos c]
    exact ⟨rfl, rfl⟩
  replace c : askE (ld, fl, inn, ts, ()) e = 0 := c
  obtain ⟨⟨k1, k2, k3, k4⟩, k5⟩ := askE_ok c
  simp only at k1 k2 k3 k4
  obtain ⟨n, hn⟩ : ∃ n, ld.length = n := ⟨_, rfl⟩
  have hres : cleanO (ld, fl, inn, ts, ()) e = (cleanL ld inn e (callsOf ts) n, 0) := by rw [cleanO, if_neg (by rw [c]; decide)]; simp only [hn]
  refine AM.run2 hG 100 (by cbv) ?_ ?_
  · (simp only [sxs, sxb, and_self, and_true, true_and, implies_true, imp_self, bne_eq_false_iff_eq, Nat.zero_add, Nat.le_refl, Int.toNat_natCast, Int.ofNat_lt, Int.natCast_nonneg, decide_eq_true_eq, decide_eq_false_iff_not, bne_iff_ne, ne_eq]; try dsimp only [Kd.T, Kds.T, AK.T, AKs.T])
  refine AM.emptySlot 7 4 .bool rfl ?_
  refine AM.loopI (fun i : Nat => (frame 83 [(1, .int .i64 (.t fun _ => e)), (2, .ptr 0 0), (7, .sl 1 1 (.l 0) (.t fun _ => i)), (8, .int .i64 (.t fun _ => nI i))],
    [.box 78 [.ro I64 fun _ => ld, .ro .bool fun _ => fl, .ro .bool fun _ => inn, .ro TableK fun _ => ts], .row 4 .bool (fun _ => cleanL ld inn e (callsOf ts) i)])) (fun i => i ≤ n) (fun i => n - i) 0 (Nat.zero_le _) ?_ ?_ ?_
  · cbv; (simp only [sxs, sxb, and_self, and_true, true_and, implies_true, imp_self, bne_eq_false_iff_eq, Nat.zero_add, Nat.le_refl, Int.toNat_natCast, Int.ofNat_lt, Int.natCast_nonneg, decide_eq_true_eq, decide_eq_false_iff_not, bne_iff_ne, ne_eq]; try dsimp only [Kd.T, Kds.T, AK.T, AKs.T]); all_goals ((repeat' apply And.intro) <;> first | rfl | assumption | exact trivial)
  · cbv; (simp only [sxs, sxb, and_self, and_true, true_and, implies_true, imp_self, bne_eq_false_iff_eq, Nat.zero_add, Nat.le_refl, Int.toNat_natCast, Int.ofNat_lt, Int.natCast_nonneg, decide_eq_true_eq, decide_eq_false_iff_not, bne_iff_ne, ne_eq]; try dsimp only [Kd.T, Kds.T, AK.T, AKs.T]); all_goals ((repeat' apply And.intro) <;> first | rfl | assumption | exact trivial)
  rintro i hi ih
  refine AM.run2 hG 100 (by cbv) ?_ ?_
  · (simp only [sxs, sxb, and_self, and_true, true_and, implies_true, imp_self, bne_eq_false_iff_eq, Nat.zero_add, Nat.le_refl, Int.toNat_natCast, Int.ofNat_lt, Int.natCast_nonneg, decide_eq_true_eq, decide_eq_false_iff_not, bne_iff_ne, ne_eq]; try dsimp only [Kd.T, Kds.T, AK.T, AKs.T])
  refine AM.case 23 rfl (fun h6 => ?_) (fun h6 => ?_) <;> (simp only [sxs, sxb, and_self, and_true, true_and, implies_true, imp_self, bne_eq_false_iff_eq, Nat.zero_add, Nat.le_refl, Int.toNat_natCast, Int.ofNat_lt, Int.natCast_nonneg, decide_eq_true_eq, decide_eq_false_iff_not, bne_iff_ne, ne_eq] at h6; try dsimp only [Kd.T, Kds.T, AK.T, AKs.T] at h6)
  · rw [hn] at h6
    refine AM.run2 hG 100 (by cbv) ?_ ?_
    · (simp only [sxs, sxb, and_self, and_true, true_and, implies_true, imp_self, bne_eq_false_iff_eq, Nat.zero_add, Nat.le_refl, Int.toNat_natCast, Int.ofNat_lt, Int.natCast_nonneg, decide_eq_true_eq, decide_eq_false_iff_not, bne_iff_ne, ne_eq]; try dsimp only [Kd.T, Kds.T, AK.T, AKs.T])
      exact ⟨fun _ => by omega, fun _ => by omega, by omega⟩
    refine AM.loopI (fun z : Nat × Bool => (frame 83 [(1, .int .i64 (.t fun _ => e)), (2, .ptr 0 0), (7, .sl 1 1 (.l 0) (.t fun _ => i)), (8, .int .i64 (.t fun _ => nI i)), (9, .bool (.t fun _ => z.2)), (10, .int .i64 (.t fun _ => nI z.1))],
      [.box 78 [.ro I64 fun _ => ld, .ro .bool fun _ => fl, .ro .bool fun _ => inn, .ro TableK fun _ => ts], .row 4 .bool (fun _ => cleanL ld inn e (callsOf ts) i)])) (fun z => z.1 ≤ 3 ∧ z.2 = (aB ld inn e i && noC (callsOf (ts.take z.1)) i)) (fun z => 3 - z.1) (0, aB ld inn e i) ⟨by simp, by simp [callsOf, noC]⟩ ?_ ?_ ?_
    · cbv; (simp only [sxs, sxb, and_self, and_true, true_and, implies_true, imp_self, bne_eq_false_iff_eq, Nat.zero_add, Nat.le_refl, Int.toNat_natCast, Int.ofNat_lt, Int.natCast_nonneg, decide_eq_true_eq, decide_eq_false_iff_not, bne_iff_ne, ne_eq]; try dsimp only [Kd.T, Kds.T, AK.T, AKs.T])
      refine ⟨?_, rfl⟩
      rw [aB]
      show (decide (inn.getD i false = false) || leI (ld.getD i 0) e) = _
      cases inn.getD i false <;> simp
    · cbv; (simp only [sxs, sxb, and_self, and_true, true_and, implies_true, imp_self, bne_eq_false_iff_eq, Nat.zero_add, Nat.le_refl, Int.toNat_natCast, Int.ofNat_lt, Int.natCast_nonneg, decide_eq_true_eq, decide_eq_false_iff_not, bne_iff_ne, ne_eq]; try dsimp only [Kd.T, Kds.T, AK.T, AKs.T]); all_goals ((repeat' apply And.intro) <;> first | rfl | assumption | exact trivial)
    · rintro ⟨j, b⟩ ⟨hj, hb⟩ ih2
      simp only at hj hb
      refine AM.run2 hG 100 (by cbv) ?_ ?_
      · (simp only [sxs, sxb, and_self, and_true, true_and, implies_true, imp_self, bne_eq_false_iff_eq, Nat.zero_add, Nat.le_refl, Int.toNat_natCast, Int.ofNat_lt, Int.natCast_nonneg, decide_eq_true_eq, decide_eq_false_iff_not, bne_iff_ne, ne_eq]; try dsimp only [Kd.T, Kds.T, AK.T, AKs.T])
      refine AM.case 42 rfl (fun h7 => ?_) (fun h7 => ?_) <;> (simp only [sxs, sxb, and_self, and_true, true_and, implies_true, imp_self, bne_eq_false_iff_eq, Nat.zero_add, Nat.le_refl, Int.toNat_natCast, Int.ofNat_lt, Int.natCast_nonneg, decide_eq_true_eq, decide_eq_false_iff_not, bne_iff_ne, ne_eq] at h7; try dsimp only [Kd.T, Kds.T, AK.T, AKs.T] at h7)
      · replace h7 : j < ts.length := by omega
        have hcs := callsOf_step h7
        have hlen := h5 j
        obtain ⟨D, hD⟩ : ∃ D, callsOf (ts.take j) = D := ⟨_, rfl⟩
        obtain ⟨tl, htl⟩ : ∃ tl, (ts.getD j zT).2.1 = tl := ⟨_, rfl⟩
        rw [hD] at hcs hb
        rw [htl] at hcs hlen
        refine AM.run2 hG 100 (by cbv) ?_ ?_
        · (simp only [sxs, sxb, and_self, and_true, true_and, implies_true, imp_self, bne_eq_false_iff_eq, Nat.zero_add, Nat.le_refl, Int.toNat_natCast, Int.ofNat_lt, Int.natCast_nonneg, decide_eq_true_eq, decide_eq_false_iff_not, bne_iff_ne, ne_eq]; try dsimp only [Kd.T, Kds.T, AK.T, AKs.T])
        refine AM.loopI (fun z : Nat × Bool => (frame 83 [(1, .int .i64 (.t fun _ => e)), (2, .ptr 0 0), (7, .sl 1 1 (.l 0) (.t fun _ => i)), (8, .int .i64 (.t fun _ => nI i)), (9, .bool (.t fun _ => z.2)), (10, .int .i64 (.t fun _ => nI j)), (11, .int .i64 (.t fun _ => nI z.1))],
          [.box 78 [.ro I64 fun _ => ld, .ro .bool fun _ => fl, .ro .bool fun _ => inn, .ro TableK fun _ => ts], .row 4 .bool (fun _ => cleanL ld inn e (callsOf ts) i)])) (fun z => z.1 ≤ tl.length ∧ z.2 = (b && noC (tl.take z.1) i)) (fun z => tl.length - z.1) (0, b) ⟨by simp, by simp [noC]⟩ ?_ ?_ ?_
        · cbv; (simp only [sxs, sxb, and_self, and_true, true_and, implies_true, imp_self, bne_eq_false_iff_eq, Nat.zero_add, Nat.le_refl, Int.toNat_natCast, Int.ofNat_lt, Int.natCast_nonneg, decide_eq_true_eq, decide_eq_false_iff_not, bne_iff_ne, ne_eq]; try dsimp only [Kd.T, Kds.T, AK.T, AKs.T]); all_goals ((repeat' apply And.intro) <;> first | rfl | assumption | exact trivial)
        · cbv; (simp only [sxs, sxb, and_self, and_true, true_and, implies_true, imp_self, bne_eq_false_iff_eq, Nat.zero_add, Nat.le_refl, Int.toNat_natCast, Int.ofNat_lt, Int.natCast_nonneg, decide_eq_true_eq, decide_eq_false_iff_not, bne_iff_ne, ne_eq]; try dsimp only [Kd.T, Kds.T, AK.T, AKs.T]); all_goals ((repeat' apply And.intro) <;> first | rfl | assumption | exact trivial)
        · rintro ⟨k, d⟩ ⟨hk, hd⟩ ih3
          simp only at hk hd
          refine AM.run2 hG 100 (by cbv) ?_ ?_
          · (simp only [sxs, sxb, and_self, and_true, true_and, implies_true, imp_self, bne_eq_false_iff_eq, Nat.zero_add, Nat.le_refl, Int.toNat_natCast, Int.ofNat_lt, Int.natCast_nonneg, decide_eq_true_eq, decide_eq_false_iff_not, bne_iff_ne, ne_eq]; try dsimp only [Kd.T, Kds.T, AK.T, AKs.T])
            exact h7
          refine AM.case 53 rfl (fun h8 => ?_) (fun h8 => ?_) <;> (simp only [sxs, sxb, and_self, and_true, true_and, implies_true, imp_self, bne_eq_false_iff_eq, Nat.zero_add, Nat.le_refl, Int.toNat_natCast, Int.ofNat_lt, Int.natCast_nonneg, decide_eq_true_eq, decide_eq_false_iff_not, bne_iff_ne, ne_eq] at h8; try dsimp only [Kd.T, Kds.T, AK.T, AKs.T] at h8)
          · have h8' := h8
            replace h8 : k < tl.length := by rw [← htl]; exact h8
            have hnc := noC_step (i := i) h8
            refine AM.run2 hG 100 (by cbv) ?_ ?_
            · (simp only [sxs, sxb, and_self, and_true, true_and, implies_true, imp_self, bne_eq_false_iff_eq, Nat.zero_add, Nat.le_refl, Int.toNat_natCast, Int.ofNat_lt, Int.natCast_nonneg, decide_eq_true_eq, decide_eq_false_iff_not, bne_iff_ne, ne_eq]; try dsimp only [Kd.T, Kds.T, AK.T, AKs.T])
              exact ⟨fun q1 q2 => ⟨q1, q2⟩, h8', h8', h7⟩
            refine AM.ren hB [0, 1] (by cbv) (by cbv) (by cbv) ?_ ?_ (ih3 (k + 1, d && (hallB (tl.getD k zc) || neI (tl.getD k zc).2.2.1 ((i : Int) + 1))) ⟨by simp only; omega, by rw [hnc, hd, Bool.and_assoc]⟩ (by simp only; omega))
            · (simp only [sxs, sxb, and_self, and_true, true_and, implies_true, imp_self, bne_eq_false_iff_eq, Nat.zero_add, Nat.le_refl, Int.toNat_natCast, Int.ofNat_lt, Int.natCast_nonneg, decide_eq_true_eq, decide_eq_false_iff_not, bne_iff_ne, ne_eq]; try dsimp only [Kd.T, Kds.T, AK.T, AKs.T])
              refine ⟨?_, w64s (by omega)⟩
              show (decide (d = true) && (decide (¬ ((ts.getD j zT).2.1.getD k zc).1 = 3) || neI ((ts.getD j zT).2.1.getD k zc).2.2.1 (IntKind.i64.wrap ((i : Int) + 1)))) = _
              rw [htl, w64s (by omega)]
              cases d <;> simp [hallB]
            · (simp only [sxs, sxb, and_self, and_true, true_and, implies_true, imp_self, bne_eq_false_iff_eq, Nat.zero_add, Nat.le_refl, Int.toNat_natCast, Int.ofNat_lt, Int.natCast_nonneg, decide_eq_true_eq, decide_eq_false_iff_not, bne_iff_ne, ne_eq]; try dsimp only [Kd.T, Kds.T, AK.T, AKs.T])
          · replace h8 : ¬ k < tl.length := by rw [← htl]; exact h8
            clear ih3
            rw [List.take_of_length_le (by omega)] at hd
            refine AM.run2 hG 100 (by cbv) ?_ ?_
            · (simp only [sxs, sxb, and_self, and_true, true_and, implies_true, imp_self, bne_eq_false_iff_eq, Nat.zero_add, Nat.le_refl, Int.toNat_natCast, Int.ofNat_lt, Int.natCast_nonneg, decide_eq_true_eq, decide_eq_false_iff_not, bne_iff_ne, ne_eq]; try dsimp only [Kd.T, Kds.T, AK.T, AKs.T])
            refine AM.ren hB [0, 1] (by cbv) (by cbv) (by cbv) ?_ ?_ (ih2 (j + 1, d) ⟨by simp only; omega, by rw [hcs, noC_apps, hd, hb, Bool.and_assoc]⟩ (by simp only; omega))
            · (simp only [sxs, sxb, and_self, and_true, true_and, implies_true, imp_self, bne_eq_false_iff_eq, Nat.zero_add, Nat.le_refl, Int.toNat_natCast, Int.ofNat_lt, Int.natCast_nonneg, decide_eq_true_eq, decide_eq_false_iff_not, bne_iff_ne, ne_eq]; try dsimp only [Kd.T, Kds.T, AK.T, AKs.T])
              rw [w64s (by omega)]
            · (simp only [sxs, sxb, and_self, and_true, true_and, implies_true, imp_self, bne_eq_false_iff_eq, Nat.zero_add, Nat.le_refl, Int.toNat_natCast, Int.ofNat_lt, Int.natCast_nonneg, decide_eq_true_eq, decide_eq_false_iff_not, bne_iff_ne, ne_eq]; try dsimp only [Kd.T, Kds.T, AK.T, AKs.T])
      · clear ih2
        rw [List.take_of_length_le (by omega)] at hb
        refine AM.run2 hG 100 (by cbv) ?_ ?_
        · (simp only [sxs, sxb, and_self, and_true, true_and, implies_true, imp_self, bne_eq_false_iff_eq, Nat.zero_add, Nat.le_refl, Int.toNat_natCast, Int.ofNat_lt, Int.natCast_nonneg, decide_eq_true_eq, decide_eq_false_iff_not, bne_iff_ne, ne_eq, cleanL_len]; try dsimp only [Kd.T, Kds.T, AK.T, AKs.T])
          simp only [maxLen, List.length_take, List.length_cons, List.length_nil]
          omega
        refine AM.ren hB [0, 3] (by cbv) (by cbv) (by cbv) ?_ ?_ (ih (i + 1) (by omega) (by omega))
        · (simp only [sxs, sxb, and_self, and_true, true_and, implies_true, imp_self, bne_eq_false_iff_eq, Nat.zero_add, Nat.le_refl, Int.toNat_natCast, Int.ofNat_lt, Int.natCast_nonneg, decide_eq_true_eq, decide_eq_false_iff_not, bne_iff_ne, ne_eq, cleanL_len]; try dsimp only [Kd.T, Kds.T, AK.T, AKs.T])
          rw [w64s (by omega)]
          exact ⟨rfl, rfl⟩
        · (simp only [sxs, sxb, and_self, and_true, true_and, implies_true, imp_self, bne_eq_false_iff_eq, Nat.zero_add, Nat.le_refl, Int.toNat_natCast, Int.ofNat_lt, Int.natCast_nonneg, decide_eq_true_eq, decide_eq_false_iff_not, bne_iff_ne, ne_eq]; try dsimp only [Kd.T, Kds.T, AK.T, AKs.T])
          rw [cleanL_succ, ← hb]
          rfl
  obtain rfl : i = n := by omega
  clear ih
  refine AM.run2 hG 100 (by cbv) ?_ ?_
  · (simp only [sxs, sxb, and_self, and_true, true_and, implies_true, imp_self, bne_eq_false_iff_eq, Nat.zero_add, Nat.le_refl, Int.toNat_natCast, Int.ofNat_lt, Int.natCast_nonneg, decide_eq_true_eq, decide_eq_false_iff_not, bne_iff_ne, ne_eq]; try dsimp only [Kd.T, Kds.T, AK.T, AKs.T])
  refine AM.ret2 hG (by cbv) (by (simp only [sxs, sxb, and_self, and_true, true_and, implies_true, imp_self, bne_eq_false_iff_eq, Nat.zero_add, Nat.le_refl, Int.toNat_natCast, Int.ofNat_lt, Int.natCast_nonneg, decide_eq_true_eq, decide_eq_false_iff_not, bne_iff_ne, ne_eq]; try dsimp only [Kd.T, Kds.T, AK.T, AKs.T])) (hQ _ _ (FinRo.of (by cbv) (by cbv) ?_ ?_))
  · (simp only [sxs, sxb, and_self, and_true, true_and, implies_true, imp_self, bne_eq_false_iff_eq, Nat.zero_add, Nat.le_refl, Int.toNat_natCast, Int.ofNat_lt, Int.natCast_nonneg, decide_eq_true_eq, decide_eq_false_iff_not, bne_iff_ne, ne_eq]; try dsimp only [Kd.T, Kds.T, AK.T, AKs.T])
    rw [cleanL_len]
    exact Nat.le_refl _
  (simp only [sxs, sxb, and_self, and_true, true_and, implies_true, imp_self, bne_eq_false_iff_eq, Nat.zero_add, Nat.le_refl, Int.toNat_natCast, Int.ofNat_lt, Int.natCast_nonneg, decide_eq_true_eq, decide_eq_false_iff_not, bne_iff_ne, ne_eq]; try dsimp only [Kd.T, Kds.T, AK.T, AKs.T])
  rw [hres, List.take_of_length_le (by rw [cleanL_len]; exact Nat.le_refl _)]
  exact ⟨rfl, rfl⟩
abbrev LIntsK : Kd := .slice IntsK
abbrev LBoolsK : Kd := .slice BoolsK
def nextH (h : Hand) (e : Int) (ld : List Int) (fl : List Bool) : Hand := (ld, fl, (overR h e).2.2.1, (overR h e).2.2.2.1, ())
def slotsP (e : Int) (L : List (List Int)) (F : List (List Bool)) : Nat → Nat → Hand → List Int → List Int × Int
  | 0, j, h, out => if askE h e ≠ 0 then ([], askE h e) else (out ++ [wordR h e], 0)
  | m + 1, j, h, out => if askE h e ≠ 0 then ([], askE h e) else slotsP e L F m (j + 1) (nextH h e (L.getD j []) (F.getD j [])) (out ++ [wordR h e])
def slotsR (h : Hand) (e : Int) (L : List (List Int)) (F : List (List Bool)) : List Int × Int :=
  if askE h e ≠ 0 then ([], askE h e) else if L.length ≠ F.length ∨ 100 < L.length then ([], 3) else slotsP e L F L.length 0 h []
def listsL (L : List (List Int)) (F : List (List Bool)) : Prop := (∀ i, (L.getD i []).length ≤ 1000000) ∧ ∀ i, (F.getD i []).length ≤ 1000000
theorem halls_len (t : Table) : (hallsR t).2.1.length ≤ t.2.1.length := List.length_filter_le _ _
theorem overO_ok {h : Hand} {e : Int} (ha : askE h e = 0) : overO h e = (overR h e, wordR h e, 0) := by
  rw [overO, if_neg (by rw [ha]; decide)]
theorem overO_no {h : Hand} {e : Int} (ha : ¬ askE h e = 0) : overO h e = (zHand, 0, askE h e) := by
  rw [overO, if_pos ha]
theorem next_L {h : Hand} {e : Int} {ld : List Int} {fl : List Bool} (hh : handL h) (hl : ld.length ≤ 1000000) (hf : fl.length ≤ 1000000) : handL (nextH h e ld fl) := by
  obtain ⟨h1, h2, h3, h4, h5⟩ := hh
  refine ⟨hl, hf, ?_, ?_, ?_⟩
  · simp only [nextH, overR, inL_len]; exact h1
  · simp only [nextH, overR, List.length_map]; exact h4
  · intro i
    simp only [nextH, overR]
    by_cases q : i < h.2.2.2.1.length
    · rw [List.getD_eq_getElem?_getD, List.getElem?_map, List.getElem?_eq_getElem q]
      have := h5 i
      rw [List.getD_eq_getElem?_getD, List.getElem?_eq_getElem q] at this
      exact Nat.le_trans (halls_len _) this
    · rw [List.getD_eq_getElem?_getD, List.getElem?_eq_none (by rw [List.length_map]; omega)]
      simp [zT, Kd.z, Kds.z]
theorem slotsP_no {e : Int} {L : List (List Int)} {F : List (List Bool)} {m j : Nat} {h : Hand} {out : List Int} (hk : ¬ askE h e = 0) : slotsP e L F m j h out = ([], askE h e) := by
  cases m <;> rw [slotsP, if_pos hk]
theorem slotsP_end {e : Int} {L : List (List Int)} {F : List (List Bool)} {j : Nat} {h : Hand} {out : List Int} (hk : askE h e = 0) : slotsP e L F 0 j h out = (out ++ [wordR h e], 0) := by
  rw [slotsP, if_neg (by rw [hk]; decide)]
theorem slotsP_step {e : Int} {L : List (List Int)} {F : List (List Bool)} {n j : Nat} {h : Hand} {out : List Int} (hk : askE h e = 0) (hj : j < n) : slotsP e L F (n - j) j h out = slotsP e L F (n - (j + 1)) (j + 1) (nextH h e (L.getD j []) (F.getD j [])) (out ++ [wordR h e]) := by
  obtain ⟨m, hm⟩ : ∃ m, n - j = m + 1 := ⟨n - j - 1, by omega⟩
  rw [hm, show n - (j + 1) = m by omega, slotsP, if_neg (by rw [hk]; decide)]
def S61 : List AV → Option FOut := sigSpec [HandK, I64, LIntsK, LBoolsK] [IntsK, I64] (fun x : Hand × Int × List (List Int) × List (List Bool) × Unit => ((slotsR x.1 x.2.1 x.2.2.1 x.2.2.2.1).1, (slotsR x.1 x.2.1 x.2.2.1 x.2.2.2.1).2, ())) (fun x : Hand × Int × List (List Int) × List (List Bool) × Unit => handL x.1 ∧ listsL x.2.2.1 x.2.2.2.1)
set_option maxHeartbeats 8000000 in
theorem fn61 : FnOk Try.prog 61 S61 := by
  refine fn_ofB (rs := [.tmp 8, .tmp 9]) (env [(116, S116), (72, S72)] ⟨fn116, fn72, trivial⟩) Try.func61 (by kernel_rfl) rfl rfl Try.ntmps61 ?_
  rintro ⟨⟨(ld : List Int), (fl : List Bool), (inn : List Bool), (ts : List Table), ⟨⟩⟩, (e : Int), (L : List (List Int)), (F : List (List Bool)), u2⟩ ⟨hh, hL, hF⟩ G hG hB hQ
  have hB := GB.of hB
  simp only at hh hL hF
  have hh0 := hh
  obtain ⟨h1, h2, h3, h4, h5⟩ := hh
  simp only at h1 h2 h3 h4 h5
  refine AM.run2 hG 100 (by cbv) ?_ ?_
  · (simp only [sxs, sxb, and_self, and_true, true_and, implies_true, imp_self, bne_eq_false_iff_eq, Nat.zero_add, Nat.le_refl, Int.toNat_natCast, Int.ofNat_lt, Int.natCast_nonneg, decide_eq_true_eq, decide_eq_false_iff_not, bne_iff_ne, ne_eq]; try dsimp only [Kd.T, Kds.T, AK.T, AKs.T])
    exact ⟨h1, by omega⟩
  refine AM.case 20 rfl (fun c => ?_) (fun c => ?_) <;> (simp only [sxs, sxb, and_self, and_true, true_and, implies_true, imp_self, bne_eq_false_iff_eq, Nat.zero_add, Nat.le_refl, Int.toNat_natCast, Int.ofNat_lt, Int.natCast_nonneg, decide_eq_true_eq, decide_eq_false_iff_not, bne_iff_ne, ne_eq] at c; try dsimp only [Kd.T, Kds.T, AK.T, AKs.T] at c)
  · replace c : ¬ askE (ld, fl, inn, ts, ()) e = 0 := c
    refine AM.run2 hG 100 (by cbv) ?_ ?_
    · (simp only [sxs, sxb, and_self, and_true, true_and, implies_true, imp_self, bne_eq_false_iff_eq, Nat.zero_add, Nat.le_refl, Int.toNat_natCast, Int.ofNat_lt, Int.natCast_nonneg, decide_eq_true_eq, decide_eq_false_iff_not, bne_iff_ne, ne_eq]; try dsimp only [Kd.T, Kds.T, AK.T, AKs.T])
    refine AM.ret2 hG (by cbv) (by (simp only [sxs, sxb, and_self, and_true, true_and, implies_true, imp_self, bne_eq_false_iff_eq, Nat.zero_add, Nat.le_refl, Int.toNat_natCast, Int.ofNat_lt, Int.natCast_nonneg, decide_eq_true_eq, decide_eq_false_iff_not, bne_iff_ne, ne_eq]; try dsimp only [Kd.T, Kds.T, AK.T, AKs.T])) (hQ _ _ (FinRo.of (by cbv) (by cbv) ?_ ?_))
    · (simp only [sxs, sxb, and_self, and_true, true_and, implies_true, imp_self, bne_eq_false_iff_eq, Nat.zero_add, Nat.le_refl, Int.toNat_natCast, Int.ofNat_lt, Int.natCast_nonneg, decide_eq_true_eq, decide_eq_false_iff_not, bne_iff_ne, ne_eq]; try dsimp only [Kd.T, Kds.T, AK.T, AKs.T])
    try (simp only [sxs, sxb, and_self, and_true, true_and, implies_true, imp_self, bne_eq_false_iff_eq, Nat.zero_add, Nat.le_refl, Int.toNat_natCast, Int.ofNat_lt, Int.natCast_nonneg, decide_eq_true_eq, decide_eq_false_iff_not, bne_iff_ne, ne_eq]; try dsimp only [Kd.T, Kds.T, AK.T, AKs.T])
    rw [slotsR, if_pos c]
    exact ⟨rfl, rfl⟩
  replace c : askE (ld, fl, inn, ts, ()) e = 0 := c
  refine AM.run2 hG 100 (by cbv) ?_ ?_
  · (simp only [sxs, sxb, and_self, and_true, true_and, implies_true, imp_self, bne_eq_false_iff_eq, Nat.zero_add, Nat.le_refl, Int.toNat_natCast, Int.ofNat_lt, Int.natCast_nonneg, decide_eq_true_eq, decide_eq_false_iff_not, bne_iff_ne, ne_eq]; try dsimp only [Kd.T, Kds.T, AK.T, AKs.T])
  refine AM.case 31 rfl (fun d => ?_) (fun d => ?_) <;> (simp only [sxs, sxb, and_self, and_true, true_and, implies_true, imp_self, bne_eq_false_iff_eq, Nat.zero_add, Nat.le_refl, Int.toNat_natCast, Int.ofNat_lt, Int.natCast_nonneg, decide_eq_true_eq, decide_eq_false_iff_not, bne_iff_ne, ne_eq] at d; try dsimp only [Kd.T, Kds.T, AK.T, AKs.T] at d)
  · refine AM.run2 hG 100 (by cbv) ?_ ?_
    · (simp only [sxs, sxb, and_self, and_true, true_and, implies_true, imp_self, bne_eq_false_iff_eq, Nat.zero_add, Nat.le_refl, Int.toNat_natCast, Int.ofNat_lt, Int.natCast_nonneg, decide_eq_true_eq, decide_eq_false_iff_not, bne_iff_ne, ne_eq]; try dsimp only [Kd.T, Kds.T, AK.T, AKs.T])
    refine AM.ret2 hG (by cbv) (by (simp only [sxs, sxb, and_self, and_true, true_and, implies_true, imp_self, bne_eq_false_iff_eq, Nat.zero_add, Nat.le_refl, Int.toNat_natCast, Int.ofNat_lt, Int.natCast_nonneg, decide_eq_true_eq, decide_eq_false_iff_not, bne_iff_ne, ne_eq]; try dsimp only [Kd.T, Kds.T, AK.T, AKs.T])) (hQ _ _ (FinRo.of (by cbv) (by cbv) ?_ ?_))
    · (simp only [sxs, sxb, and_self, and_true, true_and, implies_true, imp_self, bne_eq_false_iff_eq, Nat.zero_add, Nat.le_refl, Int.toNat_natCast, Int.ofNat_lt, Int.natCast_nonneg, decide_eq_true_eq, decide_eq_false_iff_not, bne_iff_ne, ne_eq]; try dsimp only [Kd.T, Kds.T, AK.T, AKs.T])
    try (simp only [sxs, sxb, and_self, and_true, true_and, implies_true, imp_self, bne_eq_false_iff_eq, Nat.zero_add, Nat.le_refl, Int.toNat_natCast, Int.ofNat_lt, Int.natCast_nonneg, decide_eq_true_eq, decide_eq_false_iff_not, bne_iff_ne, ne_eq]; try dsimp only [Kd.T, Kds.T, AK.T, AKs.T])
    rw [slotsR, if_neg (by rw [c]; decide), if_pos (by omega)]
    exact ⟨rfl, rfl⟩
  have hres : slotsR (ld, fl, inn, ts, ()) e L F = slotsP e L F L.length 0 (ld, fl, inn, ts, ()) [] := by rw [slotsR, if_neg (by rw [c]; decide), if_neg (by omega)]
  refine AM.run2 hG 100 (by cbv) ?_ ?_
  · (simp only [sxs, sxb, and_self, and_true, true_and, implies_true, imp_self, bne_eq_false_iff_eq, Nat.zero_add, Nat.le_refl, Int.toNat_natCast, Int.ofNat_lt, Int.natCast_nonneg, decide_eq_true_eq, decide_eq_false_iff_not, bne_iff_ne, ne_eq]; try dsimp only [Kd.T, Kds.T, AK.T, AKs.T])
  refine AM.emptySlot 11 3 I64 rfl ?_
  refine AM.loopI (fun z : Nat × Hand × List Int => (frame 64 [(1, .int .i64 (.t fun _ => e)), (2, .ro IntsK fun _ => L), (3, .ro BoolsK fun _ => F), (4, .ptr 0 0), (11, .sl 1 1 (.l 0) (.t fun _ => z.2.2.length)), (12, .int .i64 (.t fun _ => nI z.1))],
    [.box 78 [.ro I64 fun _ => z.2.1.1, .ro .bool fun _ => z.2.1.2.1, .ro .bool fun _ => z.2.1.2.2.1, .ro TableK fun _ => z.2.1.2.2.2.1], .row 3 I64 (fun _ => z.2.2)]))
    (fun z => z.1 ≤ L.length ∧ z.2.2.length = z.1 ∧ handL z.2.1 ∧ slotsP e L F (L.length - z.1) z.1 z.2.1 z.2.2 = slotsP e L F L.length 0 (ld, fl, inn, ts, ()) []) (fun z => L.length - z.1) (0, (ld, fl, inn, ts, ()), []) ⟨by simp, rfl, hh0, by simp⟩ ?_ ?_ ?_
  · cbv; (simp only [sxs, sxb, and_self, and_true, true_and, implies_true, imp_self, bne_eq_false_iff_eq, Nat.zero_add, Nat.le_refl, Int.toNat_natCast, Int.ofNat_lt, Int.natCast_nonneg, decide_eq_true_eq, decide_eq_false_iff_not, bne_iff_ne, ne_eq]; try dsimp only [Kd.T, Kds.T, AK.T, AKs.T]); all_goals ((repeat' apply And.intro) <;> first | rfl | assumption | exact trivial)
  · cbv; (simp only [sxs, sxb, and_self, and_true, true_and, implies_true, imp_self, bne_eq_false_iff_eq, Nat.zero_add, Nat.le_refl, Int.toNat_natCast, Int.ofNat_lt, Int.natCast_nonneg, decide_eq_true_eq, decide_eq_false_iff_not, bne_iff_ne, ne_eq]; try dsimp only [Kd.T, Kds.T, AK.T, AKs.T]); all_goals ((repeat' apply And.intro) <;> first | rfl | assumption | exact trivial)
  rintro ⟨j, ⟨ld', fl', inn', ts', ⟨⟩⟩, out⟩ ⟨hj, ho, hh', hs⟩ ih
  simp only at hj ho hs
  obtain ⟨X, hX⟩ : ∃ X, overO (ld', fl', inn', ts', ()) e = X := ⟨_, rfl⟩
  obtain ⟨⟨xl, xf, xi, xt, ⟨⟩⟩, xw, xe⟩ := X
  refine AM.runTo2 hG 41 100 (by cbv) ?_ ?_
  · (simp only [sxs, sxb, and_self, and_true, true_and, implies_true, imp_self, bne_eq_false_iff_eq, Nat.zero_add, Nat.le_refl, Int.toNat_natCast, Int.ofNat_lt, Int.natCast_nonneg, decide_eq_true_eq, decide_eq_false_iff_not, bne_iff_ne, ne_eq]; try dsimp only [Kd.T, Kds.T, AK.T, AKs.T])
    exact hh'
  refine AM.imp2 (fr' := frame 64 [(1, .int .i64 (.t fun _ => e)), (2, .ro IntsK fun _ => L), (3, .ro BoolsK fun _ => F), (4, .ptr 0 0), (11, .sl 1 1 (.l 0) (.t fun _ => out.length)), (12, .int .i64 (.t fun _ => nI j)), (13, .ptr 2 0), (14, .int .i64 (.t fun _ => xw)), (15, .int .i64 (.t fun _ => xe))])
    (h' := [.box 78 [.ro I64 fun _ => ld', .ro .bool fun _ => fl', .ro .bool fun _ => inn', .ro TableK fun _ => ts'], .row 3 I64 (fun _ => out), .box 78 [.ro I64 fun _ => xl, .ro .bool fun _ => xf, .ro .bool fun _ => xi, .ro TableK fun _ => xt]]) (by cbv) (by cbv) ?_ ?_ ?_
  · (simp only [sxs, sxb, and_self, and_true, true_and, implies_true, imp_self, bne_eq_false_iff_eq, Nat.zero_add, Nat.le_refl, Int.toNat_natCast, Int.ofNat_lt, Int.natCast_nonneg, decide_eq_true_eq, decide_eq_false_iff_not, bne_iff_ne, ne_eq]; try dsimp only [Kd.T, Kds.T, AK.T, AKs.T])
    rw [hX]
    exact ⟨rfl, rfl⟩
  · (simp only [sxs, sxb, and_self, and_true, true_and, implies_true, imp_self, bne_eq_false_iff_eq, Nat.zero_add, Nat.le_refl, Int.toNat_natCast, Int.ofNat_lt, Int.natCast_nonneg, decide_eq_true_eq, decide_eq_false_iff_not, bne_iff_ne, ne_eq]; try dsimp only [Kd.T, Kds.T, AK.T, AKs.T])
    rw [hX]
    exact ⟨rfl, rfl, rfl, rfl⟩
  refine AM.run2 hG 100 (by cbv) ?_ ?_
  · (simp only [sxs, sxb, and_self, and_true, true_and, implies_true, imp_self, bne_eq_false_iff_eq, Nat.zero_add, Nat.le_refl, Int.toNat_natCast, Int.ofNat_lt, Int.natCast_nonneg, decide_eq_true_eq, decide_eq_false_iff_not, bne_iff_ne, ne_eq]; try dsimp only [Kd.T, Kds.T, AK.T, AKs.T])
  have e1 : ∀ z : Int, List.take 1 [z] = [z] := fun _ => rfl
  refine AM.case 42 rfl (fun q => ?_) (fun q => ?_) <;> (simp only [sxs, sxb, and_self, and_true, true_and, implies_true, imp_self, bne_eq_false_iff_eq, Nat.zero_add, Nat.le_refl, Int.toNat_natCast, Int.ofNat_lt, Int.natCast_nonneg, decide_eq_true_eq, decide_eq_false_iff_not, bne_iff_ne, ne_eq] at q; try dsimp only [Kd.T, Kds.T, AK.T, AKs.T] at q)
  · have hk : ¬ askE (ld', fl', inn', ts', ()) e = 0 := fun hk => by
      rw [overO_ok hk] at hX
      obtain ⟨_, hX⟩ := Prod.mk.inj hX
      exact q (Prod.mk.inj hX).2.symm
    rw [overO_no hk] at hX
    obtain ⟨_, hX⟩ := Prod.mk.inj hX
    have hxe := (Prod.mk.inj hX).2
    refine AM.run2 hG 100 (by cbv) ?_ ?_
    · (simp only [sxs, sxb, and_self, and_true, true_and, implies_true, imp_self, bne_eq_false_iff_eq, Nat.zero_add, Nat.le_refl, Int.toNat_natCast, Int.ofNat_lt, Int.natCast_nonneg, decide_eq_true_eq, decide_eq_false_iff_not, bne_iff_ne, ne_eq]; try dsimp only [Kd.T, Kds.T, AK.T, AKs.T])
    refine AM.ret2 hG (by cbv) (by (simp only [sxs, sxb, and_self, and_true, true_and, implies_true, imp_self, bne_eq_false_iff_eq, Nat.zero_add, Nat.le_refl, Int.toNat_natCast, Int.ofNat_lt, Int.natCast_nonneg, decide_eq_true_eq, decide_eq_false_iff_not, bne_iff_ne, ne_eq]; try dsimp only [Kd.T, Kds.T, AK.T, AKs.T])) (hQ _ _ (FinRo.of (by cbv) (by cbv) ?_ ?_))
    · (simp only [sxs, sxb, and_self, and_true, true_and, implies_true, imp_self, bne_eq_false_iff_eq, Nat.zero_add, Nat.le_refl, Int.toNat_natCast, Int.ofNat_lt, Int.natCast_nonneg, decide_eq_true_eq, decide_eq_false_iff_not, bne_iff_ne, ne_eq]; try dsimp only [Kd.T, Kds.T, AK.T, AKs.T])
    try (simp only [sxs, sxb, and_self, and_true, true_and, implies_true, imp_self, bne_eq_false_iff_eq, Nat.zero_add, Nat.le_refl, Int.toNat_natCast, Int.ofNat_lt, Int.natCast_nonneg, decide_eq_true_eq, decide_eq_false_iff_not, bne_iff_ne, ne_eq]; try dsimp only [Kd.T, Kds.T, AK.T, AKs.T])
    rw [hres, ← hs, slotsP_no hk, ← hxe]
    exact ⟨rfl, rfl⟩
  have hk : askE (ld', fl', inn', ts', ()) e = 0 := Decidable.byContradiction fun hk => by
    rw [overO_no hk] at hX
    obtain ⟨_, hX⟩ := Prod.mk.inj hX
    have := (Prod.mk.inj hX).2
    rw [q] at this
    exact hk this
  rw [overO_ok hk] at hX
  obtain ⟨hX1, hX⟩ := Prod.mk.inj hX
  have hxw := (Prod.mk.inj hX).1
  refine AM.run2 hG 100 (by cbv) ?_ ?_
  · (simp only [sxs, sxb, and_self, and_true, true_and, implies_true, imp_self, bne_eq_false_iff_eq, Nat.zero_add, Nat.le_refl, Int.toNat_natCast, Int.ofNat_lt, Int.natCast_nonneg, decide_eq_true_eq, decide_eq_false_iff_not, bne_iff_ne, ne_eq]; try dsimp only [Kd.T, Kds.T, AK.T, AKs.T])
    simp only [maxLen, List.length_take, List.length_cons, List.length_nil]
    omega
  refine AM.case 51 rfl (fun q2 => ?_) (fun q2 => ?_) <;> (simp only [sxs, sxb, and_self, and_true, true_and, implies_true, imp_self, bne_eq_false_iff_eq, Nat.zero_add, Nat.le_refl, Int.toNat_natCast, Int.ofNat_lt, Int.natCast_nonneg, decide_eq_true_eq, decide_eq_false_iff_not, bne_iff_ne, ne_eq] at q2; try dsimp only [Kd.T, Kds.T, AK.T, AKs.T] at q2)
  · replace q2 : j = L.length := by omega
    refine AM.run2 hG 100 (by cbv) ?_ ?_
    · (simp only [sxs, sxb, and_self, and_true, true_and, implies_true, imp_self, bne_eq_false_iff_eq, Nat.zero_add, Nat.le_refl, Int.toNat_natCast, Int.ofNat_lt, Int.natCast_nonneg, decide_eq_true_eq, decide_eq_false_iff_not, bne_iff_ne, ne_eq]; try dsimp only [Kd.T, Kds.T, AK.T, AKs.T])
    refine AM.ret2 hG (by cbv) (by (simp only [sxs, sxb, and_self, and_true, true_and, implies_true, imp_self, bne_eq_false_iff_eq, Nat.zero_add, Nat.le_refl, Int.toNat_natCast, Int.ofNat_lt, Int.natCast_nonneg, decide_eq_true_eq, decide_eq_false_iff_not, bne_iff_ne, ne_eq]; try dsimp only [Kd.T, Kds.T, AK.T, AKs.T])) (hQ _ _ (FinRo.of (by cbv) (by cbv) ?_ ?_))
    · (simp only [sxs, sxb, and_self, and_true, true_and, implies_true, imp_self, bne_eq_false_iff_eq, Nat.zero_add, Nat.le_refl, Int.toNat_natCast, Int.ofNat_lt, Int.natCast_nonneg, decide_eq_true_eq, decide_eq_false_iff_not, bne_iff_ne, ne_eq]; try dsimp only [Kd.T, Kds.T, AK.T, AKs.T])
      rw [List.length_append]
      exact Nat.le_refl _
    (simp only [sxs, sxb, and_self, and_true, true_and, implies_true, imp_self, bne_eq_false_iff_eq, Nat.zero_add, Nat.le_refl, Int.toNat_natCast, Int.ofNat_lt, Int.natCast_nonneg, decide_eq_true_eq, decide_eq_false_iff_not, bne_iff_ne, ne_eq]; try dsimp only [Kd.T, Kds.T, AK.T, AKs.T])
    rw [hres, ← hs, q2, Nat.sub_self, slotsP_end hk, hxw, e1, ← List.length_append, List.take_length]
    exact ⟨rfl, rfl⟩
  replace q2 : j < L.length := by omega
  refine AM.run2 hG 100 (by cbv) ?_ ?_
  · (simp only [sxs, sxb, and_self, and_true, true_and, implies_true, imp_self, bne_eq_false_iff_eq, Nat.zero_add, Nat.le_refl, Int.toNat_natCast, Int.ofNat_lt, Int.natCast_nonneg, decide_eq_true_eq, decide_eq_false_iff_not, bne_iff_ne, ne_eq]; try dsimp only [Kd.T, Kds.T, AK.T, AKs.T])
    omega
  rw [slotsP_step hk q2, hxw] at hs
  have hnx : nextH (ld', fl', inn', ts', ()) e (L.getD j []) (F.getD j []) = (L.getD j [], F.getD j [], xi, xt, ()) := by rw [nextH, hX1]
  have hn2 := next_L (e := e) hh' (hL j) (hF j)
  rw [hnx] at hs hn2
  refine AM.ren hB [0, 4] (by cbv) (by cbv) (by cbv) ?_ ?_ (ih (j + 1, (L.getD j [], F.getD j [], xi, xt, ()), out ++ [xw]) ⟨by simp only; omega, by simp only [List.length_append, List.length_cons, List.length_nil]; omega, hn2, hs⟩ (by simp only; omega))
  · (simp only [sxs, sxb, and_self, and_true, true_and, implies_true, imp_self, bne_eq_false_iff_eq, Nat.zero_add, Nat.le_refl, Int.toNat_natCast, Int.ofNat_lt, Int.natCast_nonneg, decide_eq_true_eq, decide_eq_false_iff_not, bne_iff_ne, ne_eq]; try dsimp only [Kd.T, Kds.T, AK.T, AKs.T])
    rw [List.length_append, w64s (by omega)]
    exact ⟨rfl, rfl⟩
  · (simp only [sxs, sxb, and_self, and_true, true_and, implies_true, imp_self, bne_eq_false_iff_eq, Nat.zero_add, Nat.le_refl, Int.toNat_natCast, Int.ofNat_lt, Int.natCast_nonneg, decide_eq_true_eq, decide_eq_false_iff_not, bne_iff_ne, ne_eq]; try dsimp only [Kd.T, Kds.T, AK.T, AKs.T])
    exact ⟨⟨rfl, rfl⟩, rfl⟩
theorem ask_same {h : Hand} {e : Int} (h0 : 0 ≤ e) (h1 : e ≤ 10000) : askE h e = handE h := by
  unfold askE
  split
  · rfl
  · rename_i q
    rw [if_neg (by omega)]
    exact (Decidable.not_not.1 q).symm
def S62 : List AV → Option FOut := sigSpec [HandK, I64, LIntsK, LBoolsK] [IntsK, I64] (fun x : Hand × Int × List (List Int) × List (List Bool) × Unit => ((slotsR x.1 x.2.1 x.2.2.1 x.2.2.2.1).1, (slotsR x.1 x.2.1 x.2.2.1 x.2.2.2.1).2, ())) (fun x : Hand × Int × List (List Int) × List (List Bool) × Unit => handL x.1 ∧ listsL x.2.2.1 x.2.2.2.1)
set_option maxHeartbeats 8000000 in
theorem fn62 : FnOk Try.prog 62 S62 := by
  refine fn_ofB (rs := [.tmp 8, .tmp 9]) (env [(117, S117), (118, S118), (119, S119), (71, S71)] ⟨fn117, fn118, fn119, fn71, trivial⟩) Try.func62 (by kernel_rfl) rfl rfl Try.ntmps62 ?_
  rintro ⟨⟨(ld : List Int), (fl : List Bool), (inn : List Bool), (ts : List Table), ⟨⟩⟩, (e : Int), (L : List (List Int)), (F : List (List Bool)), u2⟩ ⟨hh, hL, hF⟩ G hG hB hQ
  have hB := GB.of hB
  simp only at hh hL hF
  have hh0 := hh
  obtain ⟨h1, h2, h3, h4, h5⟩ := hh
  simp only at h1 h2 h3 h4 h5
  refine AM.run2 hG 100 (by cbv) ?_ ?_
  · (simp only [sxs, sxb, and_self, and_true, true_and, implies_true, imp_self, bne_eq_false_iff_eq, Nat.zero_add, Nat.le_refl, Int.toNat_natCast, Int.ofNat_lt, Int.natCast_nonneg, decide_eq_true_eq, decide_eq_false_iff_not, bne_iff_ne, ne_eq]; try dsimp only [Kd.T, Kds.T, AK.T, AKs.T])
    all_goals ((repeat' first | apply And.intro | intro _) <;> first | assumption | omega)
  refine AM.case 29 rfl (fun c => ?_) (fun c => ?_) <;> (simp only [sxs, sxb, and_self, and_true, true_and, implies_true, imp_self, bne_eq_false_iff_eq, Nat.zero_add, Nat.le_refl, Int.toNat_natCast, Int.ofNat_lt, Int.natCast_nonneg, decide_eq_true_eq, decide_eq_false_iff_not, bne_iff_ne, ne_eq] at c; try dsimp only [Kd.T, Kds.T, AK.T, AKs.T] at c)
  · replace c : askE (ld, fl, inn, ts, ()) e = 0 ∧ _ := c
    refine AM.run2 hG 100 (by cbv) ?_ ?_
    · (simp only [sxs, sxb, and_self, and_true, true_and, implies_true, imp_self, bne_eq_false_iff_eq, Nat.zero_add, Nat.le_refl, Int.toNat_natCast, Int.ofNat_lt, Int.natCast_nonneg, decide_eq_true_eq, decide_eq_false_iff_not, bne_iff_ne, ne_eq]; try dsimp only [Kd.T, Kds.T, AK.T, AKs.T])
    refine AM.ret2 hG (by cbv) (by (simp only [sxs, sxb, and_self, and_true, true_and, implies_true, imp_self, bne_eq_false_iff_eq, Nat.zero_add, Nat.le_refl, Int.toNat_natCast, Int.ofNat_lt, Int.natCast_nonneg, decide_eq_true_eq, decide_eq_false_iff_not, bne_iff_ne, ne_eq]; try dsimp only [Kd.T, Kds.T, AK.T, AKs.T])) (hQ _ _ (FinRo.of (by cbv) (by cbv) ?_ ?_))
    · (simp only [sxs, sxb, and_self, and_true, true_and, implies_true, imp_self, bne_eq_false_iff_eq, Nat.zero_add, Nat.le_refl, Int.toNat_natCast, Int.ofNat_lt, Int.natCast_nonneg, decide_eq_true_eq, decide_eq_false_iff_not, bne_iff_ne, ne_eq]; try dsimp only [Kd.T, Kds.T, AK.T, AKs.T])
    try (simp only [sxs, sxb, and_self, and_true, true_and, implies_true, imp_self, bne_eq_false_iff_eq, Nat.zero_add, Nat.le_refl, Int.toNat_natCast, Int.ofNat_lt, Int.natCast_nonneg, decide_eq_true_eq, decide_eq_false_iff_not, bne_iff_ne, ne_eq]; try dsimp only [Kd.T, Kds.T, AK.T, AKs.T])
    rw [slotsR, if_neg (by rw [c.1]; decide), if_pos (by omega)]
    exact ⟨rfl, rfl⟩
  replace c : askE (ld, fl, inn, ts, ()) e = 0 → _ := c
  refine AM.run2 hG 100 (by cbv) ?_ ?_
  · (simp only [sxs, sxb, and_self, and_true, true_and, implies_true, imp_self, bne_eq_false_iff_eq, Nat.zero_add, Nat.le_refl, Int.toNat_natCast, Int.ofNat_lt, Int.natCast_nonneg, decide_eq_true_eq, decide_eq_false_iff_not, bne_iff_ne, ne_eq]; try dsimp only [Kd.T, Kds.T, AK.T, AKs.T])
  refine AM.case 31 rfl (fun d => ?_) (fun d => ?_) <;> (simp only [sxs, sxb, and_self, and_true, true_and, implies_true, imp_self, bne_eq_false_iff_eq, Nat.zero_add, Nat.le_refl, Int.toNat_natCast, Int.ofNat_lt, Int.natCast_nonneg, decide_eq_true_eq, decide_eq_false_iff_not, bne_iff_ne, ne_eq] at d; try dsimp only [Kd.T, Kds.T, AK.T, AKs.T] at d)
  · replace d : ¬ askE (ld, fl, inn, ts, ()) e = 0 := d
    refine AM.run2 hG 100 (by cbv) ?_ ?_
    · (simp only [sxs, sxb, and_self, and_true, true_and, implies_true, imp_self, bne_eq_false_iff_eq, Nat.zero_add, Nat.le_refl, Int.toNat_natCast, Int.ofNat_lt, Int.natCast_nonneg, decide_eq_true_eq, decide_eq_false_iff_not, bne_iff_ne, ne_eq]; try dsimp only [Kd.T, Kds.T, AK.T, AKs.T])
    refine AM.ret2 hG (by cbv) (by (simp only [sxs, sxb, and_self, and_true, true_and, implies_true, imp_self, bne_eq_false_iff_eq, Nat.zero_add, Nat.le_refl, Int.toNat_natCast, Int.ofNat_lt, Int.natCast_nonneg, decide_eq_true_eq, decide_eq_false_iff_not, bne_iff_ne, ne_eq]; try dsimp only [Kd.T, Kds.T, AK.T, AKs.T])) (hQ _ _ (FinRo.of (by cbv) (by cbv) ?_ ?_))
    · (simp only [sxs, sxb, and_self, and_true, true_and, implies_true, imp_self, bne_eq_false_iff_eq, Nat.zero_add, Nat.le_refl, Int.toNat_natCast, Int.ofNat_lt, Int.natCast_nonneg, decide_eq_true_eq, decide_eq_false_iff_not, bne_iff_ne, ne_eq]; try dsimp only [Kd.T, Kds.T, AK.T, AKs.T])
    try (simp only [sxs, sxb, and_self, and_true, true_and, implies_true, imp_self, bne_eq_false_iff_eq, Nat.zero_add, Nat.le_refl, Int.toNat_natCast, Int.ofNat_lt, Int.natCast_nonneg, decide_eq_true_eq, decide_eq_false_iff_not, bne_iff_ne, ne_eq]; try dsimp only [Kd.T, Kds.T, AK.T, AKs.T])
    rw [slotsR, if_pos d]
    exact ⟨rfl, rfl⟩
  replace d : askE (ld, fl, inn, ts, ()) e = 0 := d
  have c := c d
  have hres : slotsR (ld, fl, inn, ts, ()) e L F = slotsP e L F L.length 0 (ld, fl, inn, ts, ()) [] := by rw [slotsR, if_neg (by rw [d]; decide), if_neg (by omega)]
  obtain ⟨⟨k1, k2, k3, k4⟩, k5, k6⟩ := askE_ok d
  simp only at k1 k2 k3 k4
  have e1 : ∀ z : Int, List.take 1 [z] = [z] := fun _ => rfl
  refine AM.run2 hG 100 (by cbv) ?_ ?_
  · (simp only [sxs, sxb, and_self, and_true, true_and, implies_true, imp_self, bne_eq_false_iff_eq, Nat.zero_add, Nat.le_refl, Int.toNat_natCast, Int.ofNat_lt, Int.natCast_nonneg, decide_eq_true_eq, decide_eq_false_iff_not, bne_iff_ne, ne_eq]; try dsimp only [Kd.T, Kds.T, AK.T, AKs.T])
    exact ⟨k1, k2⟩
  refine AM.loopI (fun z : Nat × Hand × List Int × List Int => (frame 68 [(1, .int .i64 (.t fun _ => e)), (2, .ro IntsK fun _ => L), (3, .ro BoolsK fun _ => F), (4, .ptr 0 0), (11, .sl 1 1 (.l 0) (.t fun _ => z.2.2.2.length)), (12, .int .i64 (.t fun _ => nI z.1))],
    [.box 78 [.ro I64 fun _ => z.2.1.1, .ro .bool fun _ => z.2.1.2.1, .ro .bool fun _ => z.2.1.2.2.1, .ro TableK fun _ => z.2.1.2.2.2.1], .row 3 I64 (fun _ => z.2.2.2)]))
    (fun z => z.1 ≤ L.length ∧ z.2.2.1.length = z.1 ∧ z.2.2.2 = z.2.2.1 ++ [wordR z.2.1 e] ∧ handL z.2.1 ∧ askE z.2.1 e = 0 ∧ slotsP e L F (L.length - z.1) z.1 z.2.1 z.2.2.1 = slotsP e L F L.length 0 (ld, fl, inn, ts, ()) []) (fun z => L.length - z.1) (0, (ld, fl, inn, ts, ()), [], [wordR (ld, fl, inn, ts, ()) e]) ⟨by simp, rfl, rfl, hh0, d, by simp⟩ ?_ ?_ ?_
  · cbv; (simp only [sxs, sxb, and_self, and_true, true_and, implies_true, imp_self, bne_eq_false_iff_eq, Nat.zero_add, Nat.le_refl, Int.toNat_natCast, Int.ofNat_lt, Int.natCast_nonneg, decide_eq_true_eq, decide_eq_false_iff_not, bne_iff_ne, ne_eq]; try dsimp only [Kd.T, Kds.T, AK.T, AKs.T]); all_goals ((repeat' apply And.intro) <;> first | rfl | assumption | exact trivial)
  · cbv; (simp only [sxs, sxb, and_self, and_true, true_and, implies_true, imp_self, bne_eq_false_iff_eq, Nat.zero_add, Nat.le_refl, Int.toNat_natCast, Int.ofNat_lt, Int.natCast_nonneg, decide_eq_true_eq, decide_eq_false_iff_not, bne_iff_ne, ne_eq]; try dsimp only [Kd.T, Kds.T, AK.T, AKs.T]); all_goals ((repeat' apply And.intro) <;> first | rfl | assumption | exact trivial)
  rintro ⟨j, ⟨ld', fl', inn', ts', ⟨⟩⟩, out, outr⟩ ⟨hj, ho, hor, hh', hk, hs⟩ ih
  simp only at hj ho hor hk hs hh'
  have hol : outr.length = j + 1 := by rw [hor, List.length_append, ho]; rfl
  obtain ⟨⟨m1, m2, m3, m4⟩, m5, m6⟩ := askE_ok hk
  simp only at m1 m2 m3 m4
  refine AM.run2 hG 100 (by cbv) ?_ ?_
  · (simp only [sxs, sxb, and_self, and_true, true_and, implies_true, imp_self, bne_eq_false_iff_eq, Nat.zero_add, Nat.le_refl, Int.toNat_natCast, Int.ofNat_lt, Int.natCast_nonneg, decide_eq_true_eq, decide_eq_false_iff_not, bne_iff_ne, ne_eq]; try dsimp only [Kd.T, Kds.T, AK.T, AKs.T])
  refine AM.case 40 rfl (fun q2 => ?_) (fun q2 => ?_) <;> (simp only [sxs, sxb, and_self, and_true, true_and, implies_true, imp_self, bne_eq_false_iff_eq, Nat.zero_add, Nat.le_refl, Int.toNat_natCast, Int.ofNat_lt, Int.natCast_nonneg, decide_eq_true_eq, decide_eq_false_iff_not, bne_iff_ne, ne_eq] at q2; try dsimp only [Kd.T, Kds.T, AK.T, AKs.T] at q2)
  · rw [slotsP_step hk q2] at hs
    have hn2 := next_L (e := e) hh' (hL j) (hF j)
    obtain ⟨H, hH⟩ : ∃ H, nextH (ld', fl', inn', ts', ()) e (L.getD j []) (F.getD j []) = H := ⟨_, rfl⟩
    rw [hH] at hs hn2
    have hH1 : H.1 = L.getD j [] := by rw [← hH]; rfl
    have hH2 : H.2.1 = F.getD j [] := by rw [← hH]; rfl
    have hH3 : (overR (ld', fl', inn', ts', ()) e).2.2.1 = H.2.2.1 := by rw [← hH]; rfl
    have hH4 : (overR (ld', fl', inn', ts', ()) e).2.2.2.1 = H.2.2.2.1 := by rw [← hH]; rfl
    refine AM.runTo2 hG 56 200 (by cbv) ?_ ?_
    · (simp only [sxs, sxb, and_self, and_true, true_and, implies_true, imp_self, bne_eq_false_iff_eq, Nat.zero_add, Nat.le_refl, Int.toNat_natCast, Int.ofNat_lt, Int.natCast_nonneg, decide_eq_true_eq, decide_eq_false_iff_not, bne_iff_ne, ne_eq]; try dsimp only [Kd.T, Kds.T, AK.T, AKs.T])
      exact ⟨q2, q2, by omega, by omega, hh', m1, m2, m4⟩
    obtain ⟨n1, n2, n3, n4, ⟨⟩⟩ := H
    simp only at hH1 hH2 hH3 hH4
    refine AM.imp2 (fr' := frame 68 [(1, .int .i64 (.t fun _ => e)), (2, .ro IntsK fun _ => L), (3, .ro BoolsK fun _ => F), (4, .ptr 0 0), (11, .sl 1 1 (.l 0) (.t fun _ => outr.length)), (12, .int .i64 (.t fun _ => nI j))])
      (h' := [.box 78 [.ro I64 fun _ => n1, .ro .bool fun _ => n2, .ro .bool fun _ => n3, .ro TableK fun _ => n4], .row 3 I64 (fun _ => outr)]) (by cbv) (by cbv) ?_ ?_ ?_
    · (simp only [sxs, sxb, and_self, and_true, true_and, implies_true, imp_self, bne_eq_false_iff_eq, Nat.zero_add, Nat.le_refl, Int.toNat_natCast, Int.ofNat_lt, Int.natCast_nonneg, decide_eq_true_eq, decide_eq_false_iff_not, bne_iff_ne, ne_eq]; try dsimp only [Kd.T, Kds.T, AK.T, AKs.T])
    · (simp only [sxs, sxb, and_self, and_true, true_and, implies_true, imp_self, bne_eq_false_iff_eq, Nat.zero_add, Nat.le_refl, Int.toNat_natCast, Int.ofNat_lt, Int.natCast_nonneg, decide_eq_true_eq, decide_eq_false_iff_not, bne_iff_ne, ne_eq]; try dsimp only [Kd.T, Kds.T, AK.T, AKs.T])
      exact ⟨hH1.symm, hH2.symm, hH3, hH4⟩
    refine AM.run2 hG 100 (by cbv) ?_ ?_
    · (simp only [sxs, sxb, and_self, and_true, true_and, implies_true, imp_self, bne_eq_false_iff_eq, Nat.zero_add, Nat.le_refl, Int.toNat_natCast, Int.ofNat_lt, Int.natCast_nonneg, decide_eq_true_eq, decide_eq_false_iff_not, bne_iff_ne, ne_eq]; try dsimp only [Kd.T, Kds.T, AK.T, AKs.T])
      exact ⟨hn2.1, Nat.le_trans hn2.2.2.2.1 (by decide)⟩
    refine AM.case 59 rfl (fun q => ?_) (fun q => ?_) <;> (simp only [sxs, sxb, and_self, and_true, true_and, implies_true, imp_self, bne_eq_false_iff_eq, Nat.zero_add, Nat.le_refl, Int.toNat_natCast, Int.ofNat_lt, Int.natCast_nonneg, decide_eq_true_eq, decide_eq_false_iff_not, bne_iff_ne, ne_eq] at q; try dsimp only [Kd.T, Kds.T, AK.T, AKs.T] at q)
    · replace q : ¬ handE (n1, n2, n3, n4, ()) = 0 := q
      rw [← ask_same (e := e) k5 k6] at q
      refine AM.run2 hG 100 (by cbv) ?_ ?_
      · (simp only [sxs, sxb, and_self, and_true, true_and, implies_true, imp_self, bne_eq_false_iff_eq, Nat.zero_add, Nat.le_refl, Int.toNat_natCast, Int.ofNat_lt, Int.natCast_nonneg, decide_eq_true_eq, decide_eq_false_iff_not, bne_iff_ne, ne_eq]; try dsimp only [Kd.T, Kds.T, AK.T, AKs.T])
      refine AM.ret2 hG (by cbv) (by (simp only [sxs, sxb, and_self, and_true, true_and, implies_true, imp_self, bne_eq_false_iff_eq, Nat.zero_add, Nat.le_refl, Int.toNat_natCast, Int.ofNat_lt, Int.natCast_nonneg, decide_eq_true_eq, decide_eq_false_iff_not, bne_iff_ne, ne_eq]; try dsimp only [Kd.T, Kds.T, AK.T, AKs.T])) (hQ _ _ (FinRo.of (by cbv) (by cbv) ?_ ?_))
      · (simp only [sxs, sxb, and_self, and_true, true_and, implies_true, imp_self, bne_eq_false_iff_eq, Nat.zero_add, Nat.le_refl, Int.toNat_natCast, Int.ofNat_lt, Int.natCast_nonneg, decide_eq_true_eq, decide_eq_false_iff_not, bne_iff_ne, ne_eq]; try dsimp only [Kd.T, Kds.T, AK.T, AKs.T])
      try (simp only [sxs, sxb, and_self, and_true, true_and, implies_true, imp_self, bne_eq_false_iff_eq, Nat.zero_add, Nat.le_refl, Int.toNat_natCast, Int.ofNat_lt, Int.natCast_nonneg, decide_eq_true_eq, decide_eq_false_iff_not, bne_iff_ne, ne_eq]; try dsimp only [Kd.T, Kds.T, AK.T, AKs.T])
      rw [hres, ← hs, slotsP_no q, ask_same k5 k6]
      exact ⟨rfl, rfl⟩
    · replace q : handE (n1, n2, n3, n4, ()) = 0 := q
      obtain ⟨p1, p2, p3, p4⟩ := hand_ok q
      simp only at p1 p2
      refine AM.run2 hG 100 (by cbv) ?_ ?_
      · (simp only [sxs, sxb, and_self, and_true, true_and, implies_true, imp_self, bne_eq_false_iff_eq, Nat.zero_add, Nat.le_refl, Int.toNat_natCast, Int.ofNat_lt, Int.natCast_nonneg, decide_eq_true_eq, decide_eq_false_iff_not, bne_iff_ne, ne_eq]; try dsimp only [Kd.T, Kds.T, AK.T, AKs.T])
        simp only [maxLen, List.length_take, List.length_cons, List.length_nil]
        exact ⟨⟨by omega, by omega⟩, p1, p2⟩
      refine AM.ren hB [0, 3] (by cbv) (by cbv) (by cbv) ?_ ?_ (ih (j + 1, (n1, n2, n3, n4, ()), out ++ [wordR (ld', fl', inn', ts', ()) e], outr ++ [wordR (n1, n2, n3, n4, ()) e]) ⟨by simp only; omega, by simp only [List.length_append, List.length_cons, List.length_nil]; omega, by rw [hor], hn2, by rw [ask_same k5 k6]; exact q, hs⟩ (by simp only; omega))
      · (simp only [sxs, sxb, and_self, and_true, true_and, implies_true, imp_self, bne_eq_false_iff_eq, Nat.zero_add, Nat.le_refl, Int.toNat_natCast, Int.ofNat_lt, Int.natCast_nonneg, decide_eq_true_eq, decide_eq_false_iff_not, bne_iff_ne, ne_eq]; try dsimp only [Kd.T, Kds.T, AK.T, AKs.T])
        rw [List.length_append, w64s (by omega)]
        exact ⟨rfl, rfl⟩
      · (simp only [sxs, sxb, and_self, and_true, true_and, implies_true, imp_self, bne_eq_false_iff_eq, Nat.zero_add, Nat.le_refl, Int.toNat_natCast, Int.ofNat_lt, Int.natCast_nonneg, decide_eq_true_eq, decide_eq_false_iff_not, bne_iff_ne, ne_eq]; try dsimp only [Kd.T, Kds.T, AK.T, AKs.T])
        exact rfl
  clear ih
  obtain rfl : j = L.length := by omega
  rw [Nat.sub_self, slotsP_end hk, ← hor] at hs
  refine AM.run2 hG 100 (by cbv) ?_ ?_
  · (simp only [sxs, sxb, and_self, and_true, true_and, implies_true, imp_self, bne_eq_false_iff_eq, Nat.zero_add, Nat.le_refl, Int.toNat_natCast, Int.ofNat_lt, Int.natCast_nonneg, decide_eq_true_eq, decide_eq_false_iff_not, bne_iff_ne, ne_eq]; try dsimp only [Kd.T, Kds.T, AK.T, AKs.T])
  refine AM.ret2 hG (by cbv) (by (simp only [sxs, sxb, and_self, and_true, true_and, implies_true, imp_self, bne_eq_false_iff_eq, Nat.zero_add, Nat.le_refl, Int.toNat_natCast, Int.ofNat_lt, Int.natCast_nonneg, decide_eq_true_eq, decide_eq_false_iff_not, bne_iff_ne, ne_eq]; try dsimp only [Kd.T, Kds.T, AK.T, AKs.T])) (hQ _ _ (FinRo.of (by cbv) (by cbv) ?_ ?_))
  · (simp only [sxs, sxb, and_self, and_true, true_and, implies_true, imp_self, bne_eq_false_iff_eq, Nat.zero_add, Nat.le_refl, Int.toNat_natCast, Int.ofNat_lt, Int.natCast_nonneg, decide_eq_true_eq, decide_eq_false_iff_not, bne_iff_ne, ne_eq]; try dsimp only [Kd.T, Kds.T, AK.T, AKs.T])
  try (simp only [sxs, sxb, and_self, and_true, true_and, implies_true, imp_self, bne_eq_false_iff_eq, Nat.zero_add, Nat.le_refl, Int.toNat_natCast, Int.ofNat_lt, Int.natCast_nonneg, decide_eq_true_eq, decide_eq_false_iff_not, bne_iff_ne, ne_eq]; try dsimp only [Kd.T, Kds.T, AK.T, AKs.T])
  rw [hres, ← hs, List.take_length]
  exact ⟨rfl, rfl⟩
def shownH : Hand := ([3, 8], [true, false], [true, true], [(4, [(1, 2, 0, 4, ()), (3, 0, 1, 5, ()), (2, 0, 0, 6, ())], ()), (4, [], ()), (4, [], ())], ())
def S78 : List AV → Option FOut := sigSpec [] [HandK] (fun x : Unit => (shownH, ())) (fun _ => True)
theorem fn78 : FnOk Try.prog 78 S78 := by
  refine fn_of (rs := [.cell 0 78]) (env [] trivial) Try.func78 (by kernel_rfl) rfl rfl Try.ntmps78 ?_
  rintro u _ G hG hQ
  refine AM.run2 hG 100 (by cbv) ?_ ?_
  · (simp only [sxs, sxb, and_self, and_true, true_and, implies_true, imp_self, bne_eq_false_iff_eq, Nat.zero_add, Nat.le_refl, Int.toNat_natCast, Int.ofNat_lt, Int.natCast_nonneg, decide_eq_true_eq, decide_eq_false_iff_not, bne_iff_ne, ne_eq]; try dsimp only [Kd.T, Kds.T, AK.T, AKs.T])
  refine AM.ret2 hG (by cbv) (by (simp only [sxs, sxb, and_self, and_true, true_and, implies_true, imp_self, bne_eq_false_iff_eq, Nat.zero_add, Nat.le_refl, Int.toNat_natCast, Int.ofNat_lt, Int.natCast_nonneg, decide_eq_true_eq, decide_eq_false_iff_not, bne_iff_ne, ne_eq]; try dsimp only [Kd.T, Kds.T, AK.T, AKs.T])) (hQ _ _ (FinRo.of (by cbv) (by cbv) ?_ ?_))
  · (simp only [sxs, sxb, and_self, and_true, true_and, implies_true, imp_self, bne_eq_false_iff_eq, Nat.zero_add, Nat.le_refl, Int.toNat_natCast, Int.ofNat_lt, Int.natCast_nonneg, decide_eq_true_eq, decide_eq_false_iff_not, bne_iff_ne, ne_eq]; try dsimp only [Kd.T, Kds.T, AK.T, AKs.T])
  try (simp only [sxs, sxb, and_self, and_true, true_and, implies_true, imp_self, bne_eq_false_iff_eq, Nat.zero_add, Nat.le_refl, Int.toNat_natCast, Int.ofNat_lt, Int.natCast_nonneg, decide_eq_true_eq, decide_eq_false_iff_not, bne_iff_ne, ne_eq]; try dsimp only [Kd.T, Kds.T, AK.T, AKs.T])
  all_goals ((repeat' apply And.intro) <;> first | rfl | assumption | exact trivial)
def andU (a b : Bool) : Bool := if a = true then b else false
def wordB (e w : Int) : Bool := andU (eqI (wordO shownH e).2 0) (eqI (wordO shownH e).1 w)
def S80 : List AV → Option FOut := sigSpec [I64, I64] [.bool] (fun x : Int × Int × Unit => (wordB x.1 x.2.1, ())) (fun _ => True)
theorem fn80 : FnOk Try.prog 80 S80 := by
  refine fn_of (rs := [.tmp 4]) (env [(78, S78), (68, S68)] ⟨fn78, fn68, trivial⟩) Try.func80 (by kernel_rfl) rfl rfl Try.ntmps80 ?_
  rintro ⟨(e : Int), (w : Int), u⟩ _ G hG hQ
  refine AM.run2 hG 100 (by cbv) ?_ ?_
  · (simp only [sxs, sxb, and_self, and_true, true_and, implies_true, imp_self, bne_eq_false_iff_eq, Nat.zero_add, Nat.le_refl, Int.toNat_natCast, Int.ofNat_lt, Int.natCast_nonneg, decide_eq_true_eq, decide_eq_false_iff_not, bne_iff_ne, ne_eq]; try dsimp only [Kd.T, Kds.T, AK.T, AKs.T])
    decide
  refine AM.ret2 hG (by cbv) (by (simp only [sxs, sxb, and_self, and_true, true_and, implies_true, imp_self, bne_eq_false_iff_eq, Nat.zero_add, Nat.le_refl, Int.toNat_natCast, Int.ofNat_lt, Int.natCast_nonneg, decide_eq_true_eq, decide_eq_false_iff_not, bne_iff_ne, ne_eq]; try dsimp only [Kd.T, Kds.T, AK.T, AKs.T])) (hQ _ _ (FinRo.of (by cbv) (by cbv) ?_ ?_))
  · (simp only [sxs, sxb, and_self, and_true, true_and, implies_true, imp_self, bne_eq_false_iff_eq, Nat.zero_add, Nat.le_refl, Int.toNat_natCast, Int.ofNat_lt, Int.natCast_nonneg, decide_eq_true_eq, decide_eq_false_iff_not, bne_iff_ne, ne_eq]; try dsimp only [Kd.T, Kds.T, AK.T, AKs.T])
  exact ⟨rfl⟩
theorem shown_L : handL shownH := ⟨by decide, by decide, by decide, by decide, fun i => by
  rcases i with _ | _ | _ | i
  · decide
  · decide
  · decide
  · simp [shownH, zT, Kd.z, Kds.z]⟩
def S59 : List AV → Option FOut := sigSpec [] [.bool] (fun x : Unit => (true, ())) (fun _ => True)
set_option maxHeartbeats 8000000 in
theorem fn59 : FnOk Try.prog 59 S59 := by
  refine fn_of (rs := [.tmp 0]) (env [(78, S78), (72, S72), (61, S61), (80, S80), (66, S66), (65, S65)] ⟨fn78, fn72, fn61, fn80, fn66, fn65, trivial⟩) Try.func59 (by kernel_rfl) rfl rfl Try.ntmps59 ?_
  rintro u _ G hG hQ
  refine AM.runTo2 hG 20 100 (by cbv) ?_ ?_
  · (simp only [sxs, sxb, and_self, and_true, true_and, implies_true, imp_self, bne_eq_false_iff_eq, Nat.zero_add, Nat.le_refl, Int.toNat_natCast, Int.ofNat_lt, Int.natCast_nonneg, decide_eq_true_eq, decide_eq_false_iff_not, bne_iff_ne, ne_eq]; try dsimp only [Kd.T, Kds.T, AK.T, AKs.T])
    exact shown_L
  refine AM.frz [3, 6] (by cbv) (by (simp only [sxs, sxb, and_self, and_true, true_and, implies_true, imp_self, bne_eq_false_iff_eq, Nat.zero_add, Nat.le_refl, Int.toNat_natCast, Int.ofNat_lt, Int.natCast_nonneg, decide_eq_true_eq, decide_eq_false_iff_not, bne_iff_ne, ne_eq]; try dsimp only [Kd.T, Kds.T, AK.T, AKs.T])) ?_
  refine AM.run2 hG 100 (by cbv) ?_ ?_
  · (simp only [sxs, sxb, and_self, and_true, true_and, implies_true, imp_self, bne_eq_false_iff_eq, Nat.zero_add, Nat.le_refl, Int.toNat_natCast, Int.ofNat_lt, Int.natCast_nonneg, decide_eq_true_eq, decide_eq_false_iff_not, bne_iff_ne, ne_eq]; try dsimp only [Kd.T, Kds.T, AK.T, AKs.T])
    refine ⟨fun _ => ⟨?_, by decide⟩, fun _ => ?_, fun _ => ⟨by decide, ?_⟩, fun _ => ⟨?_, by decide⟩, shown_L, ?_⟩
    · all_goals ((repeat' apply And.intro) <;> first | kernel_rfl | decide | assumption)
    · all_goals ((repeat' apply And.intro) <;> first | kernel_rfl | decide | assumption)
    · all_goals ((repeat' apply And.intro) <;> first | kernel_rfl | decide | assumption)
    · all_goals ((repeat' apply And.intro) <;> first | kernel_rfl | decide | assumption)
    · refine ⟨fun i => ?_, fun i => ?_⟩ <;> rcases i with _ | _ | i <;> simp
  refine AM.ret2 hG (by cbv) (by (simp only [sxs, sxb, and_self, and_true, true_and, implies_true, imp_self, bne_eq_false_iff_eq, Nat.zero_add, Nat.le_refl, Int.toNat_natCast, Int.ofNat_lt, Int.natCast_nonneg, decide_eq_true_eq, decide_eq_false_iff_not, bne_iff_ne, ne_eq]; try dsimp only [Kd.T, Kds.T, AK.T, AKs.T])) (hQ _ _ (FinRo.of (by cbv) (by cbv) ?_ ?_))
  · (simp only [sxs, sxb, and_self, and_true, true_and, implies_true, imp_self, bne_eq_false_iff_eq, Nat.zero_add, Nat.le_refl, Int.toNat_natCast, Int.ofNat_lt, Int.natCast_nonneg, decide_eq_true_eq, decide_eq_false_iff_not, bne_iff_ne, ne_eq]; try dsimp only [Kd.T, Kds.T, AK.T, AKs.T])
  exact ⟨by kernel_rfl⟩
end Go.Sx.Yteiehkafkcggeaa
