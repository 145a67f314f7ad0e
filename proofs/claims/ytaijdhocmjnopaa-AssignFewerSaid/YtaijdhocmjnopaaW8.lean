/- The law AssignFewer. -/
import Derived.Test.YtaijdhocmjnopaaVC
namespace Go.Sx.Ytaijdhocmjnopaa
open Go Go.Sx Go.Proofs
set_option linter.unusedVariables false
set_option linter.unusedSimpArgs false
set_option maxRecDepth 100000

theorem goes_step {ch : List Choice} {i : Nat} (h : i < ch.length) (y : Call) : goesB (ch.take (i + 1)) y = (goesB (ch.take i) y || ((ch.getD i zCh).2.2.1 && serveP (ch.getD i zCh).2.1 (ch.getD i zCh).1 y)) := any_step _ h
theorem left_step {cs : List Call} {ch : List Choice} {i : Nat} (h : i < ch.length) : cs.filter (fun y => !goesB (ch.take (i + 1)) y) = (cs.filter (fun y => !goesB (ch.take i) y)).filter (fun y => !((ch.getD i zCh).2.2.1 && serveP (ch.getD i zCh).2.1 (ch.getD i zCh).1 y)) := by
  rw [List.filter_filter]
  congr 1
  funext y
  rw [goes_step h, Bool.not_or, Bool.and_comm]
theorem left_skip {cs : List Call} {ch : List Choice} {i : Nat} (h : i < ch.length) (hc : (ch.getD i zCh).2.2.1 = false) : cs.filter (fun y => !goesB (ch.take (i + 1)) y) = cs.filter (fun y => !goesB (ch.take i) y) := by
  rw [left_step h, hc]
  exact List.filter_eq_self.2 fun _ _ => rfl
theorem left_go {cs : List Call} {ch : List Choice} {i : Nat} (h : i < ch.length) (hc : (ch.getD i zCh).2.2.1 = true) : cs.filter (fun y => !goesB (ch.take (i + 1)) y) = (cs.filter (fun y => !goesB (ch.take i) y)).filter (fun y => !serveP (ch.getD i zCh).2.1 (ch.getD i zCh).1 y) := by
  rw [left_step h, hc]
  rfl
set_option maxHeartbeats 16000000 in
theorem law8 : FnOk Try.prog 8 (sigSpec [IntsK, I64, I64] [.bool] (fun _ => (true, ())) (Kds.wf [IntsK, I64, I64])) := by
  refine fn_ofB (rs := [.tmp 6]) (env [(10, S10), (34, S34), (11, S11), (29, S29), (24, S24), (35, S35), (12, S12), (32, S32), (14, S14)]
    ⟨fn10, fn34, fn11, fn29, fn24, fn35, fn12, fn32, fn14, trivial⟩) Try.func8 (by kernel_rfl) rfl rfl Try.ntmps8 ?_
  rintro ⟨(nums : List Int), (n : Int), (cut : Int), u2⟩ _ G hG hB hQ
  have hB := GB.of hB
  have hM := (madeM_ok nums).1
  have hE := tabM_ok nums
  obtain ⟨hT, hl1, hl4⟩ := turnM_ok nums n
  have htm : tabM nums = (32, (madeM nums).2, ()) := rfl
  obtain ⟨cs, hcs⟩ : ∃ x, (madeM nums).2 = x := ⟨_, rfl⟩
  obtain ⟨T, hTT⟩ : ∃ x, (madeM nums).1 = x := ⟨_, rfl⟩
  obtain ⟨l, hl⟩ : ∃ x, turnM nums n = x := ⟨_, rfl⟩
  rw [hcs] at htm hM
  rw [htm] at hE
  rw [hTT] at hM
  rw [hl] at hT hl1 hl4
  have hcsl : cs.length ≤ 20 := hM.len
  have hA := allR_ok hE hT
  have hfit := choices_fit hE l [] hT.range
  obtain ⟨ch, hch⟩ : ∃ x, choicesR (32, cs, ()) l [] = x := ⟨_, rfl⟩
  have hcl : ch.length = l.length := by rw [← hch, choicesR_len]
  have hsv := served_eq ch cs hM (by rw [← hch]; exact hfit)
  have hSO : serveO (32, cs, ()) l = ((32, cs.filter (fun y => !goesB ch y), ()), 0) := by
    rw [serveO, hA, if_neg (by simp)]
    simp only
    rw [hch, hsv]
  rw [hch] at hA hfit
  have hk0 := modS_in cut (show (0 : Int) < (l.length : Int) + 1 by omega)
  obtain ⟨k, hk⟩ : ∃ k : Nat, modS cut ((l.length : Int) + 1) = ((k : Nat) : Int) := ⟨(modS cut ((l.length : Int) + 1)).toNat, by omega⟩
  rw [hk] at hk0
  have hA2 : allR (32, cs, ()) (l.take k) = (ch.take k, 0) := by
    rw [allR_ok hE (hT.take k), choices_take, hch]
  have hwl : IntKind.i64.wrap ((l.length : Int) + 1) = (l.length : Int) + 1 := w64 (by omega) (by omega)
  refine AM.runTo2 hG 45 200 (by cbv) ?_ ?_
  · (simp only [sxs, sxb, and_self, and_true, true_and, implies_true, imp_self, bne_eq_false_iff_eq, Nat.zero_add, Nat.le_refl, Int.toNat_natCast, Int.ofNat_lt, Int.natCast_nonneg, decide_eq_true_eq, decide_eq_false_iff_not, bne_iff_ne, ne_eq]; try dsimp only [Kd.T, Kds.T, AK.T, AKs.T])
    simp only [htm, hl, hwl, hk]
    exact ⟨⟨by decide, by omega, by omega⟩, ⟨by omega, by rw [List.length_drop, List.length_take]; omega⟩, ⟨by omega, by omega⟩, by omega⟩
  refine AM.imp2 (fr' := frame 115 [(7, .ptr 0 0), (8, .ro AskK fun _ => l), (9, .int .i64 (.t fun _ => nI k)), (10, .ro ChoiceK fun _ => ch), (11, .int .i64 (.l 0)), (12, .ro ChoiceK fun _ => ch.take k), (13, .int .i64 (.l 0))])
    (h' := [.box 25 [.int .i64 (.t fun _ => 32), .ro CallK fun _ => cs]]) (by cbv) (by cbv) ?_ ?_ ?_
  · (simp only [sxs, sxb, and_self, and_true, true_and, implies_true, imp_self, bne_eq_false_iff_eq, Nat.zero_add, Nat.le_refl, Int.toNat_natCast, Int.ofNat_lt, Int.natCast_nonneg, decide_eq_true_eq, decide_eq_false_iff_not, bne_iff_ne, ne_eq]; try dsimp only [Kd.T, Kds.T, AK.T, AKs.T])
    simp only [htm, hl, hwl, hk, hA, Int.toNat_natCast, hA2]
    exact ⟨trivial, trivial, trivial, trivial, congrArg (fun z => z.1) hA2, congrArg (fun z => z.2) hA2⟩
  · (simp only [sxs, sxb, and_self, and_true, true_and, implies_true, imp_self, bne_eq_false_iff_eq, Nat.zero_add, Nat.le_refl, Int.toNat_natCast, Int.ofNat_lt, Int.natCast_nonneg, decide_eq_true_eq, decide_eq_false_iff_not, bne_iff_ne, ne_eq]; try dsimp only [Kd.T, Kds.T, AK.T, AKs.T])
    simp only [htm]
    exact ⟨trivial, trivial⟩
  refine AM.run2 hG 200 (by cbv) ?_ ?_
  · (simp only [sxs, sxb, and_self, and_true, true_and, implies_true, imp_self, bne_eq_false_iff_eq, Nat.zero_add, Nat.le_refl, Int.toNat_natCast, Int.ofNat_lt, Int.natCast_nonneg, decide_eq_true_eq, decide_eq_false_iff_not, bne_iff_ne, ne_eq]; try dsimp only [Kd.T, Kds.T, AK.T, AKs.T])
    exact ⟨fun _ => ⟨by rw [List.length_take]; omega, by rw [List.length_drop, List.length_take]; omega⟩, fun _ => ⟨by decide, by omega⟩⟩
  refine AM.sure 65 false rfl (by (simp only [sxs, sxb, and_self, and_true, true_and, implies_true, imp_self, bne_eq_false_iff_eq, Nat.zero_add, Nat.le_refl, Int.toNat_natCast, Int.ofNat_lt, Int.natCast_nonneg, decide_eq_true_eq, decide_eq_false_iff_not, bne_iff_ne, ne_eq]; try dsimp only [Kd.T, Kds.T, AK.T, AKs.T]); exact ⟨fun q => q (by rw [hcl]), rfl⟩) ?_
  refine AM.run2 hG 200 (by cbv) ?_ ?_
  · (simp only [sxs, sxb, and_self, and_true, true_and, implies_true, imp_self, bne_eq_false_iff_eq, Nat.zero_add, Nat.le_refl, Int.toNat_natCast, Int.ofNat_lt, Int.natCast_nonneg, decide_eq_true_eq, decide_eq_false_iff_not, bne_iff_ne, ne_eq]; try dsimp only [Kd.T, Kds.T, AK.T, AKs.T])
    omega
  refine AM.loopI (fun i : Nat => (frame 115 [(7, .ptr 0 0), (8, .ro AskK fun _ => l), (10, .ro ChoiceK fun _ => ch), (14, .ptr 1 0), (15, .int .i64 (.t fun _ => nI i))],
    [.box 25 [.int .i64 (.t fun _ => 32), .ro CallK fun _ => cs], .box 25 [.int .i64 (.t fun _ => 32), .ro CallK fun _ => cs.filter (fun y => !goesB (ch.take i) y)]])) (fun i => i ≤ l.length) (fun i => l.length - i) 0 (Nat.zero_le _) ?_ ?_ ?_
  · cbv; (simp only [sxs, sxb, and_self, and_true, true_and, implies_true, imp_self, bne_eq_false_iff_eq, Nat.zero_add, Nat.le_refl, Int.toNat_natCast, Int.ofNat_lt, Int.natCast_nonneg, decide_eq_true_eq, decide_eq_false_iff_not, bne_iff_ne, ne_eq]; try dsimp only [Kd.T, Kds.T, AK.T, AKs.T]); all_goals ((repeat' apply And.intro) <;> first | rfl | assumption | exact trivial)
  · cbv; (simp only [sxs, sxb, and_self, and_true, true_and, implies_true, imp_self, bne_eq_false_iff_eq, Nat.zero_add, Nat.le_refl, Int.toNat_natCast, Int.ofNat_lt, Int.natCast_nonneg, decide_eq_true_eq, decide_eq_false_iff_not, bne_iff_ne, ne_eq]; try dsimp only [Kd.T, Kds.T, AK.T, AKs.T])
    exact (List.filter_eq_self.2 fun _ _ => rfl).symm
  rintro i hi ih
  obtain ⟨F, hF⟩ : ∃ F, cs.filter (fun y => !goesB (ch.take i) y) = F := ⟨_, rfl⟩
  have hFok : OkT F T := by rw [← hF]; exact hM.filter _
  have hFl : F.length ≤ 20 := hFok.len
  refine AM.run2 hG 100 (by cbv) ?_ ?_
  · (simp only [sxs, sxb, and_self, and_true, true_and, implies_true, imp_self, bne_eq_false_iff_eq, Nat.zero_add, Nat.le_refl, Int.toNat_natCast, Int.ofNat_lt, Int.natCast_nonneg, decide_eq_true_eq, decide_eq_false_iff_not, bne_iff_ne, ne_eq]; try dsimp only [Kd.T, Kds.T, AK.T, AKs.T])
  refine AM.case 71 rfl (fun h => ?_) (fun h => ?_) <;> (simp only [sxs, sxb, and_self, and_true, true_and, implies_true, imp_self, bne_eq_false_iff_eq, Nat.zero_add, Nat.le_refl, Int.toNat_natCast, Int.ofNat_lt, Int.natCast_nonneg, decide_eq_true_eq, decide_eq_false_iff_not, bne_iff_ne, ne_eq] at h; try dsimp only [Kd.T, Kds.T, AK.T, AKs.T] at h)
  · replace h : i < ch.length := h
    refine AM.run2 hG 100 (by cbv) ?_ ?_
    · (simp only [sxs, sxb, and_self, and_true, true_and, implies_true, imp_self, bne_eq_false_iff_eq, Nat.zero_add, Nat.le_refl, Int.toNat_natCast, Int.ofNat_lt, Int.natCast_nonneg, decide_eq_true_eq, decide_eq_false_iff_not, bne_iff_ne, ne_eq]; try dsimp only [Kd.T, Kds.T, AK.T, AKs.T])
      exact h
    refine AM.case 79 rfl (fun (h1 : (!(ch.getD i zCh).2.2.1) = true) => ?_) (fun (h1 : (!(ch.getD i zCh).2.2.1) = false) => ?_)
    · rw [Bool.not_eq_true'] at h1
      refine AM.run2 hG 100 (by cbv) ?_ ?_
      · (simp only [sxs, sxb, and_self, and_true, true_and, implies_true, imp_self, bne_eq_false_iff_eq, Nat.zero_add, Nat.le_refl, Int.toNat_natCast, Int.ofNat_lt, Int.natCast_nonneg, decide_eq_true_eq, decide_eq_false_iff_not, bne_iff_ne, ne_eq]; try dsimp only [Kd.T, Kds.T, AK.T, AKs.T])
      refine AM.ren hB [0, 1] (by cbv) (by cbv) (by cbv) ?_ ?_ (ih (i + 1) (by omega) (by omega))
      · (simp only [sxs, sxb, and_self, and_true, true_and, implies_true, imp_self, bne_eq_false_iff_eq, Nat.zero_add, Nat.le_refl, Int.toNat_natCast, Int.ofNat_lt, Int.natCast_nonneg, decide_eq_true_eq, decide_eq_false_iff_not, bne_iff_ne, ne_eq]; try dsimp only [Kd.T, Kds.T, AK.T, AKs.T])
        rw [w64s (by omega)]
      · (simp only [sxs, sxb, and_self, and_true, true_and, implies_true, imp_self, bne_eq_false_iff_eq, Nat.zero_add, Nat.le_refl, Int.toNat_natCast, Int.ofNat_lt, Int.natCast_nonneg, decide_eq_true_eq, decide_eq_false_iff_not, bne_iff_ne, ne_eq]; try dsimp only [Kd.T, Kds.T, AK.T, AKs.T])
        rw [left_skip h h1]
    rw [Bool.not_eq_false'] at h1
    have hm : ch.getD i zCh ∈ ch := by rw [List.getD_eq_getElem?_getD, List.getElem?_eq_getElem h]; exact List.getElem_mem _
    have hsr := serveR_ok (hFok.check ()) (hfit _ hm h1)
    refine AM.runTo2 hG 96 200 (by cbv) ?_ ?_
    · (simp only [sxs, sxb, and_self, and_true, true_and, implies_true, imp_self, bne_eq_false_iff_eq, Nat.zero_add, Nat.le_refl, Int.toNat_natCast, Int.ofNat_lt, Int.natCast_nonneg, decide_eq_true_eq, decide_eq_false_iff_not, bne_iff_ne, ne_eq]; try dsimp only [Kd.T, Kds.T, AK.T, AKs.T])
      simp only [hF]
      exact ⟨h, h, h, h, by omega⟩
    have hst := left_go (cs := cs) h h1
    rw [hF] at hst
    refine AM.imp2 (fr' := frame 115 [(7, .ptr 0 0), (8, .ro AskK fun _ => l), (10, .ro ChoiceK fun _ => ch), (14, .ptr 1 0), (15, .int .i64 (.t fun _ => nI i)), (16, .ptr 2 0), (18, .int .i64 (.l 0))])
      (h' := [.box 25 [.int .i64 (.t fun _ => 32), .ro CallK fun _ => cs], .box 25 [.int .i64 (.t fun _ => 32), .ro CallK fun _ => F], .box 25 [.int .i64 (.t fun _ => 32), .ro CallK fun _ => cs.filter (fun y => !goesB (ch.take (i + 1)) y)]]) (by cbv) (by cbv) ?_ ?_ ?_
    · (simp only [sxs, sxb, and_self, and_true, true_and, implies_true, imp_self, bne_eq_false_iff_eq, Nat.zero_add, Nat.le_refl, Int.toNat_natCast, Int.ofNat_lt, Int.natCast_nonneg, decide_eq_true_eq, decide_eq_false_iff_not, bne_iff_ne, ne_eq]; try dsimp only [Kd.T, Kds.T, AK.T, AKs.T])
      simp only [hF]
      exact congrArg (fun z : Table × List Call × Int => z.2.2) hsr
    · (simp only [sxs, sxb, and_self, and_true, true_and, implies_true, imp_self, bne_eq_false_iff_eq, Nat.zero_add, Nat.le_refl, Int.toNat_natCast, Int.ofNat_lt, Int.natCast_nonneg, decide_eq_true_eq, decide_eq_false_iff_not, bne_iff_ne, ne_eq]; try dsimp only [Kd.T, Kds.T, AK.T, AKs.T])
      simp only [hF]
      rw [hst]
      exact ⟨trivial, congrArg (fun z : Table × List Call × Int => z.1.1) hsr, congrArg (fun z : Table × List Call × Int => z.1.2.1) hsr⟩
    refine AM.run2 hG 200 (by cbv) ?_ ?_
    · (simp only [sxs, sxb, and_self, and_true, true_and, implies_true, imp_self, bne_eq_false_iff_eq, Nat.zero_add, Nat.le_refl, Int.toNat_natCast, Int.ofNat_lt, Int.natCast_nonneg, decide_eq_true_eq, decide_eq_false_iff_not, bne_iff_ne, ne_eq]; try dsimp only [Kd.T, Kds.T, AK.T, AKs.T])
    refine AM.ren hB [0, 1] (by cbv) (by cbv) (by cbv) ?_ ?_ (ih (i + 1) (by omega) (by omega))
    · (simp only [sxs, sxb, and_self, and_true, true_and, implies_true, imp_self, bne_eq_false_iff_eq, Nat.zero_add, Nat.le_refl, Int.toNat_natCast, Int.ofNat_lt, Int.natCast_nonneg, decide_eq_true_eq, decide_eq_false_iff_not, bne_iff_ne, ne_eq]; try dsimp only [Kd.T, Kds.T, AK.T, AKs.T])
      rw [w64s (by omega)]
    · (simp only [sxs, sxb, and_self, and_true, true_and, implies_true, imp_self, bne_eq_false_iff_eq, Nat.zero_add, Nat.le_refl, Int.toNat_natCast, Int.ofNat_lt, Int.natCast_nonneg, decide_eq_true_eq, decide_eq_false_iff_not, bne_iff_ne, ne_eq]; try dsimp only [Kd.T, Kds.T, AK.T, AKs.T])
  clear ih
  have hil : l.length ≤ i := by rw [← hcl]; exact Nat.le_of_not_lt h
  have hF0 := hF
  rw [List.take_of_length_le (by omega)] at hF
  have hSO2 : serveO (32, cs, ()) l = ((32, F, ()), 0) := by rw [hSO, hF]
  refine AM.run2 hG 200 (by cbv) ?_ ?_
  · (simp only [sxs, sxb, and_self, and_true, true_and, implies_true, imp_self, bne_eq_false_iff_eq, Nat.zero_add, Nat.le_refl, Int.toNat_natCast, Int.ofNat_lt, Int.natCast_nonneg, decide_eq_true_eq, decide_eq_false_iff_not, bne_iff_ne, ne_eq]; try dsimp only [Kd.T, Kds.T, AK.T, AKs.T])
    simp only [hF0, hSO2]
    exact ⟨fun _ => ⟨by omega, by omega⟩, by omega, by omega⟩
  refine AM.ret2 hG (by cbv) (by (simp only [sxs, sxb, and_self, and_true, true_and, implies_true, imp_self, bne_eq_false_iff_eq, Nat.zero_add, Nat.le_refl, Int.toNat_natCast, Int.ofNat_lt, Int.natCast_nonneg, decide_eq_true_eq, decide_eq_false_iff_not, bne_iff_ne, ne_eq]; try dsimp only [Kd.T, Kds.T, AK.T, AKs.T])) (hQ _ _ (FinRo.of (by cbv) (by cbv) ?_ ?_))
  · (simp only [sxs, sxb, and_self, and_true, true_and, implies_true, imp_self, bne_eq_false_iff_eq, Nat.zero_add, Nat.le_refl, Int.toNat_natCast, Int.ofNat_lt, Int.natCast_nonneg, decide_eq_true_eq, decide_eq_false_iff_not, bne_iff_ne, ne_eq]; try dsimp only [Kd.T, Kds.T, AK.T, AKs.T])
  refine ⟨?_⟩
  (simp only [sxs, sxb, and_self, and_true, true_and, implies_true, imp_self, bne_eq_false_iff_eq, Nat.zero_add, Nat.le_refl, Int.toNat_natCast, Int.ofNat_lt, Int.natCast_nonneg, decide_eq_true_eq, decide_eq_false_iff_not, bne_iff_ne, ne_eq]; try dsimp only [Kd.T, Kds.T, AK.T, AKs.T])
  simp only [hF0, hSO2]
  exact ⟨trivial, trivial⟩
end Go.Sx.Ytaijdhocmjnopaa
