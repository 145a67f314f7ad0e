/- V11 V13 V14 V15, joined. -/
import Derived.Test.YtaijdhocmjnopaaVC
namespace Go.Sx.Ytaijdhocmjnopaa
open Go Go.Sx Go.Proofs
set_option linter.unusedVariables false
set_option linter.unusedSimpArgs false
set_option maxRecDepth 100000

def S45o : List AV → Option FOut := ownSpec (decArgs [AsksK]) (fun y => .sl 0 10 (.l 0) (.t fun _ => (y ()).1.length)) (fun y => [.row 42 AskK fun _ => (y ()).1]) (fun x : List Ask × Unit => x.1.length ≤ 1000000)
theorem fn45o : FnOk Try.prog 45 S45o := by
  refine fn_ofO (rs := [.tmp 2]) (env [] trivial) Try.func45 (by kernel_rfl) rfl rfl Try.ntmps45 (enc := encArgs [AsksK]) (dec := decArgs [AsksK]) encArgs_ok (encArgs_len [AsksK]) ?_
  rintro ⟨(l : List Ask), u⟩ hl G hG hB hQ
  simp only at hl
  refine AM.run2 hG 100 (by cbv) ?_ ?_
  · (simp only [sxs, sxb, and_self, and_true, true_and, implies_true, imp_self, bne_eq_false_iff_eq, Nat.zero_add, Nat.le_refl, Int.toNat_natCast, Int.ofNat_lt, Int.natCast_nonneg, decide_eq_true_eq, decide_eq_false_iff_not, bne_iff_ne, ne_eq]; try dsimp only [Kd.T, Kds.T, AK.T, AKs.T])
    simp only [maxLen]; omega
  refine AM.ret2 hG (by cbv) (by (simp only [sxs, sxb, and_self, and_true, true_and, implies_true, imp_self, bne_eq_false_iff_eq, Nat.zero_add, Nat.le_refl, Int.toNat_natCast, Int.ofNat_lt, Int.natCast_nonneg, decide_eq_true_eq, decide_eq_false_iff_not, bne_iff_ne, ne_eq]; try dsimp only [Kd.T, Kds.T, AK.T, AKs.T])) (hQ _ _ (FinOwn.mk' [0] (by cbv) (by cbv) (by cbv) ?_ ?_))
  · (simp only [sxs, sxb, and_self, and_true, true_and, implies_true, imp_self, bne_eq_false_iff_eq, Nat.zero_add, Nat.le_refl, Int.toNat_natCast, Int.ofNat_lt, Int.natCast_nonneg, decide_eq_true_eq, decide_eq_false_iff_not, bne_iff_ne, ne_eq]; try dsimp only [Kd.T, Kds.T, AK.T, AKs.T])
  · (simp only [sxs, sxb, and_self, and_true, true_and, implies_true, imp_self, bne_eq_false_iff_eq, Nat.zero_add, Nat.le_refl, Int.toNat_natCast, Int.ofNat_lt, Int.natCast_nonneg, decide_eq_true_eq, decide_eq_false_iff_not, bne_iff_ne, ne_eq]; try dsimp only [Kd.T, Kds.T, AK.T, AKs.T])
def S41o : List AV → Option FOut := ownSpec (decArgs [TableK, AsksK]) (fun y => .sl 0 7 (.l 0) (.t fun _ => (choicesR (y ()).1 (y ()).2.1 []).length)) (fun y => [.row 40 ChoiceK fun _ => choicesR (y ()).1 (y ()).2.1 []]) (fun x : Table × List Ask × Unit => x.1.2.1.length ≤ 1000000 ∧ x.2.1.length ≤ 1000)
set_option maxHeartbeats 8000000 in
theorem fn41o : FnOk Try.prog 41 S41o := by
  refine fn_ofO (rs := [.tmp 4]) (env [(66, S66), (67, S67)] ⟨fn66, fn67, trivial⟩) Try.func41 (by kernel_rfl) rfl rfl Try.ntmps41 (enc := encArgs [TableK, AsksK]) (dec := decArgs [TableK, AsksK]) encArgs_ok (encArgs_len [TableK, AsksK]) ?_
  rintro ⟨⟨(cap : Int), (cs : List Call), u⟩, (l : List Ask), u2⟩ ⟨hc, hl⟩ G hG hB hQ
  have hB := GB.of hB
  simp only at hc hl
  refine AM.run2 hG 100 (by cbv) ?_ ?_
  · (simp only [sxs, sxb, and_self, and_true, true_and, implies_true, imp_self, bne_eq_false_iff_eq, Nat.zero_add, Nat.le_refl, Int.toNat_natCast, Int.ofNat_lt, Int.natCast_nonneg, decide_eq_true_eq, decide_eq_false_iff_not, bne_iff_ne, ne_eq]; try dsimp only [Kd.T, Kds.T, AK.T, AKs.T])
  refine AM.emptySlot 7 40 ChoiceK rfl ?_
  refine AM.emptyRow 1 0 38 CallK rfl (by simp [hset]) rfl ?_
  refine AM.loopI (fun z : Nat × List Choice × List Call => (frame 25 [(4, .nils), (5, .ptr 1 0), (6, .fn (.func 65) [] [.ptr 1 0, .ptr 0 0]), (7, .sl 2 7 (.l 0) (.t fun _ => z.2.1.length)), (11, .ro AskK fun _ => l), (12, .int .i64 (.t fun _ => nI l.length)), (13, .int .i64 (.t fun _ => nI z.1))],
    [.box 25 [.int .i64 (.t fun _ => cap), .ro CallK fun _ => cs], .box 23 [.sl 3 4 (.l 0) (.t fun _ => z.2.2.length)], .row 40 ChoiceK (fun _ => z.2.1), .row 38 CallK (fun _ => z.2.2)]))
    (fun z => z.1 ≤ l.length ∧ z.2.1.length = z.1 ∧ z.2.2.length ≤ z.1 ∧ z.2.1 ++ choicesR (cap, cs, ()) (l.drop z.1) z.2.2 = choicesR (cap, cs, ()) l []) (fun z => l.length - z.1) (0, [], []) ⟨by simp, rfl, by simp, by simp⟩ ?_ ?_ ?_
  · cbv; (simp only [sxs, sxb, and_self, and_true, true_and, implies_true, imp_self, bne_eq_false_iff_eq, Nat.zero_add, Nat.le_refl, Int.toNat_natCast, Int.ofNat_lt, Int.natCast_nonneg, decide_eq_true_eq, decide_eq_false_iff_not, bne_iff_ne, ne_eq]; try dsimp only [Kd.T, Kds.T, AK.T, AKs.T]); all_goals ((repeat' apply And.intro) <;> first | rfl | assumption | exact trivial)
  · cbv; (simp only [sxs, sxb, and_self, and_true, true_and, implies_true, imp_self, bne_eq_false_iff_eq, Nat.zero_add, Nat.le_refl, Int.toNat_natCast, Int.ofNat_lt, Int.natCast_nonneg, decide_eq_true_eq, decide_eq_false_iff_not, bne_iff_ne, ne_eq]; try dsimp only [Kd.T, Kds.T, AK.T, AKs.T]); all_goals ((repeat' apply And.intro) <;> first | rfl | assumption | exact trivial)
  rintro ⟨i, out, taken⟩ ⟨hi, ho, ht, he⟩ ih
  simp only at hi ho ht he
  refine AM.run2 hG 100 (by cbv) ?_ ?_
  · (simp only [sxs, sxb, and_self, and_true, true_and, implies_true, imp_self, bne_eq_false_iff_eq, Nat.zero_add, Nat.le_refl, Int.toNat_natCast, Int.ofNat_lt, Int.natCast_nonneg, decide_eq_true_eq, decide_eq_false_iff_not, bne_iff_ne, ne_eq]; try dsimp only [Kd.T, Kds.T, AK.T, AKs.T])
  refine AM.case 14 rfl (fun h => ?_) (fun h => ?_) <;> (simp only [sxs, sxb, and_self, and_true, true_and, implies_true, imp_self, bne_eq_false_iff_eq, Nat.zero_add, Nat.le_refl, Int.toNat_natCast, Int.ofNat_lt, Int.natCast_nonneg, decide_eq_true_eq, decide_eq_false_iff_not, bne_iff_ne, ne_eq] at h; try dsimp only [Kd.T, Kds.T, AK.T, AKs.T] at h)
  · refine AM.run2 hG 100 (by cbv) ?_ ?_
    · (simp only [sxs, sxb, and_self, and_true, true_and, implies_true, imp_self, bne_eq_false_iff_eq, Nat.zero_add, Nat.le_refl, Int.toNat_natCast, Int.ofNat_lt, Int.natCast_nonneg, decide_eq_true_eq, decide_eq_false_iff_not, bne_iff_ne, ne_eq]; try dsimp only [Kd.T, Kds.T, AK.T, AKs.T])
      exact h
    refine AM.inline hG (by cbv) rfl (by cbv) Try.func65 (by kernel_rfl) rfl rfl Try.ntmps65 fun G1 hG1 hQ1 => ?_
    refine AM.runTo2 hG1 19 100 (by cbv) ?_ ?_
    · (simp only [sxs, sxb, and_self, and_true, true_and, implies_true, imp_self, bne_eq_false_iff_eq, Nat.zero_add, Nat.le_refl, Int.toNat_natCast, Int.ofNat_lt, Int.natCast_nonneg, decide_eq_true_eq, decide_eq_false_iff_not, bne_iff_ne, ne_eq]; try dsimp only [Kd.T, Kds.T, AK.T, AKs.T])
      rw [List.take_length]
      exact ⟨hc, by omega⟩
    obtain ⟨c, hcv⟩ : ∃ c, goalC (cap, cs, ()) (l.getD i zA) taken = c := ⟨_, rfl⟩
    have hstep := choices_step h he
    rw [hcv] at hstep
    have hnl := nextT_len taken c
    obtain ⟨cr, fl, b, ⟨d1, d2, d3, d4, ⟨⟩⟩, ⟨⟩⟩ := c
    refine AM.imp2 (fr' := frame 31 [(1, .ptr 1 0), (2, .ptr 0 0), (3, .ptr 5 0), (4, .ptr 6 0), (5, .int .i64 (.t fun _ => fl)), (6, .bool (.t fun _ => b)), (7, .ptr 7 0)])
      (h' := [.box 25 [.int .i64 (.t fun _ => cap), .ro CallK fun _ => cs], .box 23 [.sl 3 4 (.l 0) (.t fun _ => taken.length)], .row 40 ChoiceK (fun _ => out), .row 38 CallK (fun _ => taken),
        .dead, .box 42 [.int .i64 (.t fun _ => cr), .any, .any, .any, .any, .any, .any, .any, .any, .any], .box 40 [.int .i64 (.l 0), .int .i64 (.l 0), .bool (.l false), .int .i64 (.l 0), .int .i64 (.l 0), .int .i64 (.l 0), .int .i64 (.l 0)],
        .box 38 [.int .i64 (.t fun _ => d1), .int .i64 (.t fun _ => d2), .int .i64 (.t fun _ => d3), .int .i64 (.t fun _ => d4)]]) (by cbv) (by cbv) ?_ ?_ ?_
    · (simp only [sxs, sxb, and_self, and_true, true_and, implies_true, imp_self, bne_eq_false_iff_eq, Nat.zero_add, Nat.le_refl, Int.toNat_natCast, Int.ofNat_lt, Int.natCast_nonneg, decide_eq_true_eq, decide_eq_false_iff_not, bne_iff_ne, ne_eq]; try dsimp only [Kd.T, Kds.T, AK.T, AKs.T])
      rw [List.take_length]
      exact ⟨congrArg (fun z : Choice => z.2.1) hcv, congrArg (fun z : Choice => z.2.2.1) hcv⟩
    · (simp only [sxs, sxb, and_self, and_true, true_and, implies_true, imp_self, bne_eq_false_iff_eq, Nat.zero_add, Nat.le_refl, Int.toNat_natCast, Int.ofNat_lt, Int.natCast_nonneg, decide_eq_true_eq, decide_eq_false_iff_not, bne_iff_ne, ne_eq]; try dsimp only [Kd.T, Kds.T, AK.T, AKs.T])
      rw [List.take_length]
      exact ⟨congrArg (fun z : Choice => z.1) hcv, congrArg (fun z : Choice => z.2.2.2.1.1) hcv, congrArg (fun z : Choice => z.2.2.2.1.2.1) hcv, congrArg (fun z : Choice => z.2.2.2.1.2.2.1) hcv, congrArg (fun z : Choice => z.2.2.2.1.2.2.2.1) hcv⟩
    refine AM.run2 hG1 100 (by cbv) ?_ ?_
    · (simp only [sxs, sxb, and_self, and_true, true_and, implies_true, imp_self, bne_eq_false_iff_eq, Nat.zero_add, Nat.le_refl, Int.toNat_natCast, Int.ofNat_lt, Int.natCast_nonneg, decide_eq_true_eq, decide_eq_false_iff_not, bne_iff_ne, ne_eq]; try dsimp only [Kd.T, Kds.T, AK.T, AKs.T])
    refine AM.case 20 rfl (fun (h1 : hallN (d1, d2, d3, d4, ()) = true) => ?_) (fun (h1 : hallN (d1, d2, d3, d4, ()) = false) => ?_)
    · have hnx : nextT taken (cr, fl, b, (d1, d2, d3, d4, ()), ()) = taken ++ [(d1, d2, d3, d4, ())] := if_pos h1
      rw [hnx] at hstep hnl
      refine AM.run2 hG1 100 (by cbv) ?_ ?_
      · (simp only [sxs, sxb, and_self, and_true, true_and, implies_true, imp_self, bne_eq_false_iff_eq, Nat.zero_add, Nat.le_refl, Int.toNat_natCast, Int.ofNat_lt, Int.natCast_nonneg, decide_eq_true_eq, decide_eq_false_iff_not, bne_iff_ne, ne_eq]; try dsimp only [Kd.T, Kds.T, AK.T, AKs.T])
        simp only [maxLen, List.length_take, List.length_cons, List.length_nil]
        omega
      refine AM.ret2 hG1 (by cbv) (by (simp only [sxs, sxb, and_self, and_true, true_and, implies_true, imp_self, bne_eq_false_iff_eq, Nat.zero_add, Nat.le_refl, Int.toNat_natCast, Int.ofNat_lt, Int.natCast_nonneg, decide_eq_true_eq, decide_eq_false_iff_not, bne_iff_ne, ne_eq]; try dsimp only [Kd.T, Kds.T, AK.T, AKs.T])) (hQ1 _ _ ?_)
      refine AM.run2 hG 100 (by cbv) ?_ ?_
      · (simp only [sxs, sxb, and_self, and_true, true_and, implies_true, imp_self, bne_eq_false_iff_eq, Nat.zero_add, Nat.le_refl, Int.toNat_natCast, Int.ofNat_lt, Int.natCast_nonneg, decide_eq_true_eq, decide_eq_false_iff_not, bne_iff_ne, ne_eq]; try dsimp only [Kd.T, Kds.T, AK.T, AKs.T])
        simp only [maxLen, List.length_take, List.length_cons, List.length_nil]
        omega
      refine AM.ren hB [0, 1, 11, 9] (by cbv) (by cbv) (by cbv) ?_ ?_ (ih (i + 1, out ++ [(cr, fl, b, (d1, d2, d3, d4, ()), ())], taken ++ [(d1, d2, d3, d4, ())]) ⟨by simp only; omega, by simp only [List.length_append, List.length_cons, List.length_nil]; omega, by simp only; omega, hstep⟩ (by simp only; omega))
      · (simp only [sxs, sxb, and_self, and_true, true_and, implies_true, imp_self, bne_eq_false_iff_eq, Nat.zero_add, Nat.le_refl, Int.toNat_natCast, Int.ofNat_lt, Int.natCast_nonneg, decide_eq_true_eq, decide_eq_false_iff_not, bne_iff_ne, ne_eq]; try dsimp only [Kd.T, Kds.T, AK.T, AKs.T])
        rw [List.length_append, w64s (by omega)]
        exact ⟨rfl, rfl⟩
      · (simp only [sxs, sxb, and_self, and_true, true_and, implies_true, imp_self, bne_eq_false_iff_eq, Nat.zero_add, Nat.le_refl, Int.toNat_natCast, Int.ofNat_lt, Int.natCast_nonneg, decide_eq_true_eq, decide_eq_false_iff_not, bne_iff_ne, ne_eq]; try dsimp only [Kd.T, Kds.T, AK.T, AKs.T])
        first
        | (rw [List.length_append]; exact ⟨rfl, rfl, rfl⟩)
        | exact rfl
    · have hnx : nextT taken (cr, fl, b, (d1, d2, d3, d4, ()), ()) = taken := if_neg (by rw [h1]; decide)
      rw [hnx] at hstep hnl
      refine AM.run2 hG1 100 (by cbv) ?_ ?_
      · (simp only [sxs, sxb, and_self, and_true, true_and, implies_true, imp_self, bne_eq_false_iff_eq, Nat.zero_add, Nat.le_refl, Int.toNat_natCast, Int.ofNat_lt, Int.natCast_nonneg, decide_eq_true_eq, decide_eq_false_iff_not, bne_iff_ne, ne_eq]; try dsimp only [Kd.T, Kds.T, AK.T, AKs.T])
      refine AM.ret2 hG1 (by cbv) (by (simp only [sxs, sxb, and_self, and_true, true_and, implies_true, imp_self, bne_eq_false_iff_eq, Nat.zero_add, Nat.le_refl, Int.toNat_natCast, Int.ofNat_lt, Int.natCast_nonneg, decide_eq_true_eq, decide_eq_false_iff_not, bne_iff_ne, ne_eq]; try dsimp only [Kd.T, Kds.T, AK.T, AKs.T])) (hQ1 _ _ ?_)
      refine AM.run2 hG 100 (by cbv) ?_ ?_
      · (simp only [sxs, sxb, and_self, and_true, true_and, implies_true, imp_self, bne_eq_false_iff_eq, Nat.zero_add, Nat.le_refl, Int.toNat_natCast, Int.ofNat_lt, Int.natCast_nonneg, decide_eq_true_eq, decide_eq_false_iff_not, bne_iff_ne, ne_eq]; try dsimp only [Kd.T, Kds.T, AK.T, AKs.T])
        simp only [maxLen, List.length_take, List.length_cons, List.length_nil]
        omega
      refine AM.ren hB [0, 1, 9, 3] (by cbv) (by cbv) (by cbv) ?_ ?_ (ih (i + 1, out ++ [(cr, fl, b, (d1, d2, d3, d4, ()), ())], taken) ⟨by simp only; omega, by simp only [List.length_append, List.length_cons, List.length_nil]; omega, by simp only; omega, hstep⟩ (by simp only; omega))
      · (simp only [sxs, sxb, and_self, and_true, true_and, implies_true, imp_self, bne_eq_false_iff_eq, Nat.zero_add, Nat.le_refl, Int.toNat_natCast, Int.ofNat_lt, Int.natCast_nonneg, decide_eq_true_eq, decide_eq_false_iff_not, bne_iff_ne, ne_eq]; try dsimp only [Kd.T, Kds.T, AK.T, AKs.T])
        rw [List.length_append, w64s (by omega)]
        exact ⟨rfl, rfl⟩
      · (simp only [sxs, sxb, and_self, and_true, true_and, implies_true, imp_self, bne_eq_false_iff_eq, Nat.zero_add, Nat.le_refl, Int.toNat_natCast, Int.ofNat_lt, Int.natCast_nonneg, decide_eq_true_eq, decide_eq_false_iff_not, bne_iff_ne, ne_eq]; try dsimp only [Kd.T, Kds.T, AK.T, AKs.T])
        first
        | (rw [List.length_append]; exact ⟨rfl, rfl, rfl⟩)
        | exact rfl
  clear ih
  refine AM.run2 hG 100 (by cbv) ?_ ?_
  · (simp only [sxs, sxb, and_self, and_true, true_and, implies_true, imp_self, bne_eq_false_iff_eq, Nat.zero_add, Nat.le_refl, Int.toNat_natCast, Int.ofNat_lt, Int.natCast_nonneg, decide_eq_true_eq, decide_eq_false_iff_not, bne_iff_ne, ne_eq]; try dsimp only [Kd.T, Kds.T, AK.T, AKs.T])
  rw [List.drop_of_length_le (by omega), choicesR, List.append_nil] at he
  refine AM.ret2 hG (by cbv) (by (simp only [sxs, sxb, and_self, and_true, true_and, implies_true, imp_self, bne_eq_false_iff_eq, Nat.zero_add, Nat.le_refl, Int.toNat_natCast, Int.ofNat_lt, Int.natCast_nonneg, decide_eq_true_eq, decide_eq_false_iff_not, bne_iff_ne, ne_eq]; try dsimp only [Kd.T, Kds.T, AK.T, AKs.T])) (hQ _ _ (FinOwn.mk' [2] (by cbv) (by cbv) (by cbv) ?_ ?_))
  · (simp only [sxs, sxb, and_self, and_true, true_and, implies_true, imp_self, bne_eq_false_iff_eq, Nat.zero_add, Nat.le_refl, Int.toNat_natCast, Int.ofNat_lt, Int.natCast_nonneg, decide_eq_true_eq, decide_eq_false_iff_not, bne_iff_ne, ne_eq]; try dsimp only [Kd.T, Kds.T, AK.T, AKs.T])
    rw [he]
  · (simp only [sxs, sxb, and_self, and_true, true_and, implies_true, imp_self, bne_eq_false_iff_eq, Nat.zero_add, Nat.le_refl, Int.toNat_natCast, Int.ofNat_lt, Int.natCast_nonneg, decide_eq_true_eq, decide_eq_false_iff_not, bne_iff_ne, ne_eq]; try dsimp only [Kd.T, Kds.T, AK.T, AKs.T])
    exact he
def S56o : List AV → Option FOut := ownSpec (decArgs [TableK, AsksK]) (fun y => .sl 0 7 (.l 0) (.t fun _ => (choicesR (y ()).1 (y ()).2.1 []).length)) (fun y => [.row 40 ChoiceK fun _ => choicesR (y ()).1 (y ()).2.1 []]) (fun x : Table × List Ask × Unit => x.1.2.1.length ≤ 1000000 ∧ x.2.1.length ≤ 1000)
set_option maxHeartbeats 8000000 in
theorem fn56o : FnOk Try.prog 56 S56o := by
  refine fn_ofO (rs := [.tmp 4]) (env [(77, S77)] ⟨fn77, trivial⟩) Try.func56 (by kernel_rfl) rfl rfl Try.ntmps56 (enc := encArgs [TableK, AsksK]) (dec := decArgs [TableK, AsksK]) encArgs_ok (encArgs_len [TableK, AsksK]) ?_
  rintro ⟨⟨(cap : Int), (cs : List Call), u⟩, (l : List Ask), u2⟩ ⟨hc, hl⟩ G hG hB hQ
  have hB := GB.of hB
  simp only at hc hl
  refine AM.run2 hG 100 (by cbv) ?_ ?_
  · (simp only [sxs, sxb, and_self, and_true, true_and, implies_true, imp_self, bne_eq_false_iff_eq, Nat.zero_add, Nat.le_refl, Int.toNat_natCast, Int.ofNat_lt, Int.natCast_nonneg, decide_eq_true_eq, decide_eq_false_iff_not, bne_iff_ne, ne_eq]; try dsimp only [Kd.T, Kds.T, AK.T, AKs.T])
  refine AM.emptySlot 5 40 ChoiceK rfl ?_
  refine AM.emptySlot 6 38 CallK rfl ?_
  refine AM.loopI (fun z : Nat × List Choice × List Call => (frame 57 [(1, .ro AskK fun _ => l), (2, .ptr 0 0), (5, .sl 1 7 (.l 0) (.t fun _ => z.2.1.length)), (6, .sl 2 4 (.l 0) (.t fun _ => z.2.2.length)), (7, .int .i64 (.t fun _ => nI z.1))],
    [.box 25 [.int .i64 (.t fun _ => cap), .ro CallK fun _ => cs], .row 40 ChoiceK (fun _ => z.2.1), .row 38 CallK (fun _ => z.2.2)]))
    (fun z => z.1 ≤ l.length ∧ z.2.1.length = z.1 ∧ z.2.2.length ≤ z.1 ∧ z.2.1 ++ choicesR (cap, cs, ()) (l.drop z.1) z.2.2 = choicesR (cap, cs, ()) l []) (fun z => l.length - z.1) (0, [], []) ⟨by simp, rfl, by simp, by simp⟩ ?_ ?_ ?_
  · cbv; (simp only [sxs, sxb, and_self, and_true, true_and, implies_true, imp_self, bne_eq_false_iff_eq, Nat.zero_add, Nat.le_refl, Int.toNat_natCast, Int.ofNat_lt, Int.natCast_nonneg, decide_eq_true_eq, decide_eq_false_iff_not, bne_iff_ne, ne_eq]; try dsimp only [Kd.T, Kds.T, AK.T, AKs.T]); all_goals ((repeat' apply And.intro) <;> first | rfl | assumption | exact trivial)
  · cbv; (simp only [sxs, sxb, and_self, and_true, true_and, implies_true, imp_self, bne_eq_false_iff_eq, Nat.zero_add, Nat.le_refl, Int.toNat_natCast, Int.ofNat_lt, Int.natCast_nonneg, decide_eq_true_eq, decide_eq_false_iff_not, bne_iff_ne, ne_eq]; try dsimp only [Kd.T, Kds.T, AK.T, AKs.T]); all_goals ((repeat' apply And.intro) <;> first | rfl | assumption | exact trivial)
  rintro ⟨i, out, taken⟩ ⟨hi, ho, ht, he⟩ ih
  simp only at hi ho ht he
  refine AM.run2 hG 100 (by cbv) ?_ ?_
  · (simp only [sxs, sxb, and_self, and_true, true_and, implies_true, imp_self, bne_eq_false_iff_eq, Nat.zero_add, Nat.le_refl, Int.toNat_natCast, Int.ofNat_lt, Int.natCast_nonneg, decide_eq_true_eq, decide_eq_false_iff_not, bne_iff_ne, ne_eq]; try dsimp only [Kd.T, Kds.T, AK.T, AKs.T])
  refine AM.case 16 rfl (fun h => ?_) (fun h => ?_) <;> (simp only [sxs, sxb, and_self, and_true, true_and, implies_true, imp_self, bne_eq_false_iff_eq, Nat.zero_add, Nat.le_refl, Int.toNat_natCast, Int.ofNat_lt, Int.natCast_nonneg, decide_eq_true_eq, decide_eq_false_iff_not, bne_iff_ne, ne_eq] at h; try dsimp only [Kd.T, Kds.T, AK.T, AKs.T] at h)
  · refine AM.runTo2 hG 35 100 (by cbv) ?_ ?_
    · (simp only [sxs, sxb, and_self, and_true, true_and, implies_true, imp_self, bne_eq_false_iff_eq, Nat.zero_add, Nat.le_refl, Int.toNat_natCast, Int.ofNat_lt, Int.natCast_nonneg, decide_eq_true_eq, decide_eq_false_iff_not, bne_iff_ne, ne_eq]; try dsimp only [Kd.T, Kds.T, AK.T, AKs.T])
      simp only [maxLen, List.take_length]
      omega
    obtain ⟨c, hcv⟩ : ∃ c, goalC (cap, cs, ()) (l.getD i zA) taken = c := ⟨_, rfl⟩
    have hstep := choices_step h he
    rw [hcv] at hstep
    have hnl := nextT_len taken c
    obtain ⟨cr, fl, b, ⟨d1, d2, d3, d4, ⟨⟩⟩, ⟨⟩⟩ := c
    refine AM.imp2 (fr' := frame 57 [(1, .ro AskK fun _ => l), (2, .ptr 0 0), (5, .sl 1 7 (.l 0) (.t fun _ => out.length)), (6, .sl 2 4 (.l 0) (.t fun _ => taken.length)), (7, .int .i64 (.t fun _ => nI i)), (8, .ptr 3 0), (9, .int .i64 (.t fun _ => fl)), (10, .bool (.t fun _ => b)), (11, .ptr 6 0)])
      (h' := [.box 25 [.int .i64 (.t fun _ => cap), .ro CallK fun _ => cs], .row 40 ChoiceK (fun _ => out), .row 38 CallK (fun _ => taken),
        .box 42 [.int .i64 (.t fun _ => cr), .any, .any, .any, .any, .any, .any, .any, .any, .any], .dead, .dead,
        .box 38 [.int .i64 (.t fun _ => d1), .int .i64 (.t fun _ => d2), .int .i64 (.t fun _ => d3), .int .i64 (.t fun _ => d4)]]) (by cbv) (by cbv) ?_ ?_ ?_
    · (simp only [sxs, sxb, and_self, and_true, true_and, implies_true, imp_self, bne_eq_false_iff_eq, Nat.zero_add, Nat.le_refl, Int.toNat_natCast, Int.ofNat_lt, Int.natCast_nonneg, decide_eq_true_eq, decide_eq_false_iff_not, bne_iff_ne, ne_eq]; try dsimp only [Kd.T, Kds.T, AK.T, AKs.T])
      simp only [List.take_length]
      exact ⟨congrArg (fun z : Choice => z.2.1) hcv, congrArg (fun z : Choice => z.2.2.1) hcv⟩
    · (simp only [sxs, sxb, and_self, and_true, true_and, implies_true, imp_self, bne_eq_false_iff_eq, Nat.zero_add, Nat.le_refl, Int.toNat_natCast, Int.ofNat_lt, Int.natCast_nonneg, decide_eq_true_eq, decide_eq_false_iff_not, bne_iff_ne, ne_eq]; try dsimp only [Kd.T, Kds.T, AK.T, AKs.T])
      simp only [List.take_length]
      exact ⟨congrArg (fun z : Choice => z.1) hcv, congrArg (fun z : Choice => z.2.2.2.1.1) hcv, congrArg (fun z : Choice => z.2.2.2.1.2.1) hcv, congrArg (fun z : Choice => z.2.2.2.1.2.2.1) hcv, congrArg (fun z : Choice => z.2.2.2.1.2.2.2.1) hcv⟩
    refine AM.run2 hG 100 (by cbv) ?_ ?_
    · (simp only [sxs, sxb, and_self, and_true, true_and, implies_true, imp_self, bne_eq_false_iff_eq, Nat.zero_add, Nat.le_refl, Int.toNat_natCast, Int.ofNat_lt, Int.natCast_nonneg, decide_eq_true_eq, decide_eq_false_iff_not, bne_iff_ne, ne_eq]; try dsimp only [Kd.T, Kds.T, AK.T, AKs.T])
      simp only [maxLen, List.length_take, List.length_cons, List.length_nil]
      omega
    refine AM.case 51 rfl (fun (h1 : hallN (d1, d2, d3, d4, ()) = true) => ?_) (fun (h1 : hallN (d1, d2, d3, d4, ()) = false) => ?_)
    · have hnx : nextT taken (cr, fl, b, (d1, d2, d3, d4, ()), ()) = taken ++ [(d1, d2, d3, d4, ())] := if_pos h1
      rw [hnx] at hstep hnl
      refine AM.run2 hG 100 (by cbv) ?_ ?_
      · (simp only [sxs, sxb, and_self, and_true, true_and, implies_true, imp_self, bne_eq_false_iff_eq, Nat.zero_add, Nat.le_refl, Int.toNat_natCast, Int.ofNat_lt, Int.natCast_nonneg, decide_eq_true_eq, decide_eq_false_iff_not, bne_iff_ne, ne_eq]; try dsimp only [Kd.T, Kds.T, AK.T, AKs.T])
        simp only [maxLen, List.length_take, List.length_cons, List.length_nil]
        omega
      refine AM.ren hB [0, 8, 10] (by cbv) (by cbv) (by cbv) ?_ ?_ (ih (i + 1, out ++ [(cr, fl, b, (d1, d2, d3, d4, ()), ())], taken ++ [(d1, d2, d3, d4, ())]) ⟨by simp only; omega, by simp only [List.length_append, List.length_cons, List.length_nil]; omega, by simp only; omega, hstep⟩ (by simp only; omega))
      · (simp only [sxs, sxb, and_self, and_true, true_and, implies_true, imp_self, bne_eq_false_iff_eq, Nat.zero_add, Nat.le_refl, Int.toNat_natCast, Int.ofNat_lt, Int.natCast_nonneg, decide_eq_true_eq, decide_eq_false_iff_not, bne_iff_ne, ne_eq]; try dsimp only [Kd.T, Kds.T, AK.T, AKs.T])
        rw [List.length_append, List.length_append, w64s (by omega)]
        exact ⟨rfl, rfl, rfl⟩
      · (simp only [sxs, sxb, and_self, and_true, true_and, implies_true, imp_self, bne_eq_false_iff_eq, Nat.zero_add, Nat.le_refl, Int.toNat_natCast, Int.ofNat_lt, Int.natCast_nonneg, decide_eq_true_eq, decide_eq_false_iff_not, bne_iff_ne, ne_eq]; try dsimp only [Kd.T, Kds.T, AK.T, AKs.T])
        exact ⟨rfl, rfl⟩
    · have hnx : nextT taken (cr, fl, b, (d1, d2, d3, d4, ()), ()) = taken := if_neg (by rw [h1]; decide)
      rw [hnx] at hstep hnl
      refine AM.run2 hG 100 (by cbv) ?_ ?_
      · (simp only [sxs, sxb, and_self, and_true, true_and, implies_true, imp_self, bne_eq_false_iff_eq, Nat.zero_add, Nat.le_refl, Int.toNat_natCast, Int.ofNat_lt, Int.natCast_nonneg, decide_eq_true_eq, decide_eq_false_iff_not, bne_iff_ne, ne_eq]; try dsimp only [Kd.T, Kds.T, AK.T, AKs.T])
      refine AM.ren hB [0, 8, 2] (by cbv) (by cbv) (by cbv) ?_ ?_ (ih (i + 1, out ++ [(cr, fl, b, (d1, d2, d3, d4, ()), ())], taken) ⟨by simp only; omega, by simp only [List.length_append, List.length_cons, List.length_nil]; omega, by simp only; omega, hstep⟩ (by simp only; omega))
      · (simp only [sxs, sxb, and_self, and_true, true_and, implies_true, imp_self, bne_eq_false_iff_eq, Nat.zero_add, Nat.le_refl, Int.toNat_natCast, Int.ofNat_lt, Int.natCast_nonneg, decide_eq_true_eq, decide_eq_false_iff_not, bne_iff_ne, ne_eq]; try dsimp only [Kd.T, Kds.T, AK.T, AKs.T])
        rw [List.length_append, w64s (by omega)]
        exact ⟨rfl, rfl⟩
      · (simp only [sxs, sxb, and_self, and_true, true_and, implies_true, imp_self, bne_eq_false_iff_eq, Nat.zero_add, Nat.le_refl, Int.toNat_natCast, Int.ofNat_lt, Int.natCast_nonneg, decide_eq_true_eq, decide_eq_false_iff_not, bne_iff_ne, ne_eq]; try dsimp only [Kd.T, Kds.T, AK.T, AKs.T])
        exact rfl
  clear ih
  refine AM.run2 hG 100 (by cbv) ?_ ?_
  · (simp only [sxs, sxb, and_self, and_true, true_and, implies_true, imp_self, bne_eq_false_iff_eq, Nat.zero_add, Nat.le_refl, Int.toNat_natCast, Int.ofNat_lt, Int.natCast_nonneg, decide_eq_true_eq, decide_eq_false_iff_not, bne_iff_ne, ne_eq]; try dsimp only [Kd.T, Kds.T, AK.T, AKs.T])
  rw [List.drop_of_length_le (by omega), choicesR, List.append_nil] at he
  refine AM.ret2 hG (by cbv) (by (simp only [sxs, sxb, and_self, and_true, true_and, implies_true, imp_self, bne_eq_false_iff_eq, Nat.zero_add, Nat.le_refl, Int.toNat_natCast, Int.ofNat_lt, Int.natCast_nonneg, decide_eq_true_eq, decide_eq_false_iff_not, bne_iff_ne, ne_eq]; try dsimp only [Kd.T, Kds.T, AK.T, AKs.T])) (hQ _ _ (FinOwn.mk' [1] (by cbv) (by cbv) (by cbv) ?_ ?_))
  · (simp only [sxs, sxb, and_self, and_true, true_and, implies_true, imp_self, bne_eq_false_iff_eq, Nat.zero_add, Nat.le_refl, Int.toNat_natCast, Int.ofNat_lt, Int.natCast_nonneg, decide_eq_true_eq, decide_eq_false_iff_not, bne_iff_ne, ne_eq]; try dsimp only [Kd.T, Kds.T, AK.T, AKs.T])
    rw [he]
  · (simp only [sxs, sxb, and_self, and_true, true_and, implies_true, imp_self, bne_eq_false_iff_eq, Nat.zero_add, Nat.le_refl, Int.toNat_natCast, Int.ofNat_lt, Int.natCast_nonneg, decide_eq_true_eq, decide_eq_false_iff_not, bne_iff_ne, ne_eq]; try dsimp only [Kd.T, Kds.T, AK.T, AKs.T])
    exact he
def bumpA (a : Ask) (c : Choice) : Ask := (a.1, a.2.1, (IntKind.i64.wrap (a.2.2.1 + 1)).tmod 16, a.2.2.2.1, a.2.2.2.2.1, a.2.2.2.2.2.1, a.2.2.2.2.2.2.1, (if c.2.2.1 = true then c.2.1 else a.2.2.2.2.2.2.2.1), a.2.2.2.2.2.2.2.2.1, askL a, ())
def bumpL (l : List Ask) (ch : List Choice) : List Ask := List.zipWith bumpA l ch
def planGo : Nat → Table → List Ask → List Int
  | 0, _, _ => []
  | m + 1, t, l => nI (servedR t (choicesR t l [])).2.1.length :: planGo m (servedR t (choicesR t l [])) (bumpL l (choicesR t l []))
def planR (t : Table) (l : List Ask) (n : Int) : List Int × Int := if wrongE t l ≠ 0 then ([], wrongE t l) else if n < 0 ∨ 100 < n then ([], 2) else (planGo n.toNat t l, 0)
theorem bumpL_len {l : List Ask} {ch : List Choice} (h : ch.length = l.length) : (bumpL l ch).length = l.length := by
  rw [bumpL, List.length_zipWith, h, Nat.min_self]
theorem planGo_len : ∀ (m : Nat) (t : Table) (l : List Ask), (planGo m t l).length = m
  | 0, _, _ => rfl
  | m + 1, t, l => by rw [planGo, List.length_cons, planGo_len m]
theorem servedR_len : ∀ (l : List Choice) (t : Table), (servedR t l).2.1.length ≤ t.2.1.length
  | [], t => Nat.le_refl _
  | c :: l, t => by
    rw [servedR]
    split
    · exact Nat.le_trans (servedR_len l _) (serveR_len _ _ _)
    · exact servedR_len l t
theorem bump_set {l : List Ask} {ch : List Choice} {i : Nat} (hi : i < l.length) (hc : ch.length = l.length) : ((bumpL l ch).take i ++ l.drop i).set i (bumpA (l.getD i zA) (ch.getD i zCh)) = (bumpL l ch).take (i + 1) ++ l.drop (i + 1) := by
  have hb := bumpL_len hc
  rw [List.set_append_right _ _ (by rw [List.length_take, hb]; omega), List.length_take, hb, Nat.min_eq_left (by omega), Nat.sub_self, dropD hi zA, List.set_cons_zero, List.take_add_one, List.getElem?_eq_getElem (by omega)]
  rw [List.getD_eq_getElem?_getD, List.getElem?_eq_getElem hi, List.getD_eq_getElem?_getD, List.getElem?_eq_getElem (show i < ch.length by omega)]
  simp [bumpL]
theorem bump_get {l : List Ask} {ch : List Choice} {i : Nat} (hi : i < l.length) (hc : ch.length = l.length) (z : Ask) : ((bumpL l ch).take i ++ l.drop i).getD i z = l.getD i z := by
  have hb := bumpL_len hc
  rw [List.getD_eq_getElem?_getD, List.getD_eq_getElem?_getD, List.getElem?_append_right (by rw [List.length_take]; omega), List.length_take, hb, Nat.min_eq_left (by omega), Nat.sub_self, List.getElem?_drop]
  simp
def tripA (a : Ask) : Ask := (a.1, a.2.1, (IntKind.i64.wrap (a.2.2.1 + 1)).tmod 16, a.2.2.2.1, a.2.2.2.2.1, a.2.2.2.2.2.1, a.2.2.2.2.2.2.1, a.2.2.2.2.2.2.2.1, a.2.2.2.2.2.2.2.2.1, a.2.2.2.2.2.2.2.2.2.1, ())
def floorA (fl : Int) (a : Ask) : Ask := (a.1, a.2.1, a.2.2.1, a.2.2.2.1, a.2.2.2.2.1, a.2.2.2.2.2.1, a.2.2.2.2.2.2.1, fl, a.2.2.2.2.2.2.2.2.1, a.2.2.2.2.2.2.2.2.2.1, ())
theorem bump_is {a : Ask} {c : Choice} (h : c.2.2.1 = true) : bumpA a c = floorA c.2.1 (tripA a) := by
  rw [bumpA, if_pos h]; rfl
theorem bump_no {a : Ask} {c : Choice} (h : c.2.2.1 = false) : bumpA a c = tripA a := by
  rw [bumpA, if_neg (by rw [h]; decide)]; rfl
theorem set_twice {l : List Ask} {k : Nat} (h : k < l.length) (x : Ask) (f : Ask → Ask) (d : Ask) : (l.set k x).set k (f ((l.set k x).getD k d)) = l.set k (f x) := by
  rw [List.set_set, List.getD_eq_getElem?_getD, List.getElem?_set_self h]
  rfl
def S13 : List AV → Option FOut := sigSpec [TableK, AsksK, I64] [IntsK, I64] (fun x : Table × List Ask × Int × Unit => ((planR x.1 x.2.1 x.2.2.1).1, (planR x.1 x.2.1 x.2.2.1).2, ())) (fun x : Table × List Ask × Int × Unit => x.1.2.1.length ≤ 1000000 ∧ x.2.1.length ≤ 1000)
set_option maxHeartbeats 16000000 in
theorem fn13 : FnOk Try.prog 13 S13 := by
  refine fn_ofB (rs := [.tmp 6, .tmp 7]) (env [(40, S40), (45, S45o), (41, S41o), (42, S42)] ⟨fn40, fn45o, fn41o, fn42, trivial⟩) Try.func13 (by kernel_rfl) rfl rfl Try.ntmps13 ?_
  rintro ⟨⟨(cap : Int), (cs : List Call), ⟨⟩⟩, (l : List Ask), (n : Int), u2⟩ ⟨hc, hl⟩ G hG hB hQ
  have hB := GB.of hB
  simp only at hc hl
  refine AM.run2 hG 100 (by cbv) ?_ ?_
  · (simp only [sxs, sxb, and_self, and_true, true_and, implies_true, imp_self, bne_eq_false_iff_eq, Nat.zero_add, Nat.le_refl, Int.toNat_natCast, Int.ofNat_lt, Int.natCast_nonneg, decide_eq_true_eq, decide_eq_false_iff_not, bne_iff_ne, ne_eq]; try dsimp only [Kd.T, Kds.T, AK.T, AKs.T])
    omega
  refine AM.case 15 rfl (fun c => ?_) (fun c => ?_) <;> (simp only [sxs, sxb, and_self, and_true, true_and, implies_true, imp_self, bne_eq_false_iff_eq, Nat.zero_add, Nat.le_refl, Int.toNat_natCast, Int.ofNat_lt, Int.natCast_nonneg, decide_eq_true_eq, decide_eq_false_iff_not, bne_iff_ne, ne_eq] at c; try dsimp only [Kd.T, Kds.T, AK.T, AKs.T] at c)
  · replace c : ¬ wrongE (cap, cs, ()) l = 0 := c
    refine AM.run2 hG 100 (by cbv) ?_ ?_
    · (simp only [sxs, sxb, and_self, and_true, true_and, implies_true, imp_self, bne_eq_false_iff_eq, Nat.zero_add, Nat.le_refl, Int.toNat_natCast, Int.ofNat_lt, Int.natCast_nonneg, decide_eq_true_eq, decide_eq_false_iff_not, bne_iff_ne, ne_eq]; try dsimp only [Kd.T, Kds.T, AK.T, AKs.T])
    refine AM.ret2 hG (by cbv) (by (simp only [sxs, sxb, and_self, and_true, true_and, implies_true, imp_self, bne_eq_false_iff_eq, Nat.zero_add, Nat.le_refl, Int.toNat_natCast, Int.ofNat_lt, Int.natCast_nonneg, decide_eq_true_eq, decide_eq_false_iff_not, bne_iff_ne, ne_eq]; try dsimp only [Kd.T, Kds.T, AK.T, AKs.T])) (hQ _ _ (FinRo.of (by cbv) (by cbv) ?_ ?_))
    · (simp only [sxs, sxb, and_self, and_true, true_and, implies_true, imp_self, bne_eq_false_iff_eq, Nat.zero_add, Nat.le_refl, Int.toNat_natCast, Int.ofNat_lt, Int.natCast_nonneg, decide_eq_true_eq, decide_eq_false_iff_not, bne_iff_ne, ne_eq]; try dsimp only [Kd.T, Kds.T, AK.T, AKs.T])
    try (simp only [sxs, sxb, and_self, and_true, true_and, implies_true, imp_self, bne_eq_false_iff_eq, Nat.zero_add, Nat.le_refl, Int.toNat_natCast, Int.ofNat_lt, Int.natCast_nonneg, decide_eq_true_eq, decide_eq_false_iff_not, bne_iff_ne, ne_eq]; try dsimp only [Kd.T, Kds.T, AK.T, AKs.T])
    rw [planR, if_pos c]
    exact ⟨rfl, rfl⟩
  replace c : wrongE (cap, cs, ()) l = 0 := c
  refine AM.run2 hG 100 (by cbv) ?_ ?_
  · (simp only [sxs, sxb, and_self, and_true, true_and, implies_true, imp_self, bne_eq_false_iff_eq, Nat.zero_add, Nat.le_refl, Int.toNat_natCast, Int.ofNat_lt, Int.natCast_nonneg, decide_eq_true_eq, decide_eq_false_iff_not, bne_iff_ne, ne_eq]; try dsimp only [Kd.T, Kds.T, AK.T, AKs.T])
  refine AM.case 22 rfl (fun c2 => ?_) (fun c2 => ?_) <;> (simp only [sxs, sxb, and_self, and_true, true_and, implies_true, imp_self, bne_eq_false_iff_eq, Nat.zero_add, Nat.le_refl, Int.toNat_natCast, Int.ofNat_lt, Int.natCast_nonneg, decide_eq_true_eq, decide_eq_false_iff_not, bne_iff_ne, ne_eq] at c2; try dsimp only [Kd.T, Kds.T, AK.T, AKs.T] at c2)
  · refine AM.run2 hG 100 (by cbv) ?_ ?_
    · (simp only [sxs, sxb, and_self, and_true, true_and, implies_true, imp_self, bne_eq_false_iff_eq, Nat.zero_add, Nat.le_refl, Int.toNat_natCast, Int.ofNat_lt, Int.natCast_nonneg, decide_eq_true_eq, decide_eq_false_iff_not, bne_iff_ne, ne_eq]; try dsimp only [Kd.T, Kds.T, AK.T, AKs.T])
    refine AM.ret2 hG (by cbv) (by (simp only [sxs, sxb, and_self, and_true, true_and, implies_true, imp_self, bne_eq_false_iff_eq, Nat.zero_add, Nat.le_refl, Int.toNat_natCast, Int.ofNat_lt, Int.natCast_nonneg, decide_eq_true_eq, decide_eq_false_iff_not, bne_iff_ne, ne_eq]; try dsimp only [Kd.T, Kds.T, AK.T, AKs.T])) (hQ _ _ (FinRo.of (by cbv) (by cbv) ?_ ?_))
    · (simp only [sxs, sxb, and_self, and_true, true_and, implies_true, imp_self, bne_eq_false_iff_eq, Nat.zero_add, Nat.le_refl, Int.toNat_natCast, Int.ofNat_lt, Int.natCast_nonneg, decide_eq_true_eq, decide_eq_false_iff_not, bne_iff_ne, ne_eq]; try dsimp only [Kd.T, Kds.T, AK.T, AKs.T])
    try (simp only [sxs, sxb, and_self, and_true, true_and, implies_true, imp_self, bne_eq_false_iff_eq, Nat.zero_add, Nat.le_refl, Int.toNat_natCast, Int.ofNat_lt, Int.natCast_nonneg, decide_eq_true_eq, decide_eq_false_iff_not, bne_iff_ne, ne_eq]; try dsimp only [Kd.T, Kds.T, AK.T, AKs.T])
    rw [planR, if_neg (by rw [c]; decide), if_pos c2]
    exact ⟨rfl, rfl⟩
  obtain ⟨N, hN⟩ : ∃ N : Nat, n.toNat = N := ⟨_, rfl⟩
  have hnN : n = ((N : Nat) : Int) := by omega
  have hN1 : N ≤ 100 := by omega
  refine AM.runTo2 hG 23 100 (by cbv) (by (simp only [sxs, sxb, and_self, and_true, true_and, implies_true, imp_self, bne_eq_false_iff_eq, Nat.zero_add, Nat.le_refl, Int.toNat_natCast, Int.ofNat_lt, Int.natCast_nonneg, decide_eq_true_eq, decide_eq_false_iff_not, bne_iff_ne, ne_eq]; try dsimp only [Kd.T, Kds.T, AK.T, AKs.T])) ?_
  refine' AM.meetM (fun _ : Unit => (frame 36 [(9, .ptr 1 0), (27, .fn (.func 68) [] [.ptr 5 0, .ptr 3 0, .ptr 4 0])],
    [.dead, .box 22 [.nils], .row 42 AskK (fun _ => l), .box 25 [.int .i64 (.t fun _ => cap), .ro CallK fun _ => cs], .box 26 [.sl 2 10 (.l 0) (.t fun _ => l.length)], .box 3 [.int .i64 (.t fun _ => nI N)]])) (fun _ => True) ?_ ?_
  rotate_left 1
  · intro after
    refine AM.orders hG (by cbv) ?_
    intro o ho
    simp only [List.mem_cons, List.not_mem_nil, or_false] at ho
    rcases ho with rfl | rfl | rfl | rfl | rfl | rfl | rfl | rfl | rfl | rfl | rfl | rfl
    all_goals
      refine AM.runTo2 hG 27 100 (by cbv) (by (simp only [sxs, sxb, and_self, and_true, true_and, implies_true, imp_self, bne_eq_false_iff_eq, Nat.zero_add, Nat.le_refl, Int.toNat_natCast, Int.ofNat_lt, Int.natCast_nonneg, decide_eq_true_eq, decide_eq_false_iff_not, bne_iff_ne, ne_eq]; try dsimp only [Kd.T, Kds.T, AK.T, AKs.T]); omega) ?_
      refine AM.inlineB hG (by cbv) rfl (by cbv) Try.func44 (by kernel_rfl) rfl rfl Try.ntmps44 fun G1 hG1 hB1 hQ1 => ?_

      refine AM.run2 hG1 100 (by cbv) ?_ ?_
      · (simp only [sxs, sxb, and_self, and_true, true_and, implies_true, imp_self, bne_eq_false_iff_eq, Nat.zero_add, Nat.le_refl, Int.toNat_natCast, Int.ofNat_lt, Int.natCast_nonneg, decide_eq_true_eq, decide_eq_false_iff_not, bne_iff_ne, ne_eq]; try dsimp only [Kd.T, Kds.T, AK.T, AKs.T])
      refine AM.ret2 hG1 (by cbv) (by (simp only [sxs, sxb, and_self, and_true, true_and, implies_true, imp_self, bne_eq_false_iff_eq, Nat.zero_add, Nat.le_refl, Int.toNat_natCast, Int.ofNat_lt, Int.natCast_nonneg, decide_eq_true_eq, decide_eq_false_iff_not, bne_iff_ne, ne_eq]; try dsimp only [Kd.T, Kds.T, AK.T, AKs.T])) (hQ1 _ _ ?_)
      refine AM.run2 hG 100 (by cbv) ?_ ?_
      · (simp only [sxs, sxb, and_self, and_true, true_and, implies_true, imp_self, bne_eq_false_iff_eq, Nat.zero_add, Nat.le_refl, Int.toNat_natCast, Int.ofNat_lt, Int.natCast_nonneg, decide_eq_true_eq, decide_eq_false_iff_not, bne_iff_ne, ne_eq]; try dsimp only [Kd.T, Kds.T, AK.T, AKs.T])
      refine AM.imp2 (by cbv) (by cbv) ?_ ?_ (after () trivial)
      · (simp only [sxs, sxb, and_self, and_true, true_and, implies_true, imp_self, bne_eq_false_iff_eq, Nat.zero_add, Nat.le_refl, Int.toNat_natCast, Int.ofNat_lt, Int.natCast_nonneg, decide_eq_true_eq, decide_eq_false_iff_not, bne_iff_ne, ne_eq]; try dsimp only [Kd.T, Kds.T, AK.T, AKs.T])
      · (simp only [sxs, sxb, and_self, and_true, true_and, implies_true, imp_self, bne_eq_false_iff_eq, Nat.zero_add, Nat.le_refl, Int.toNat_natCast, Int.ofNat_lt, Int.natCast_nonneg, decide_eq_true_eq, decide_eq_false_iff_not, bne_iff_ne, ne_eq]; try dsimp only [Kd.T, Kds.T, AK.T, AKs.T])
        exact hnN
  intro _ _
  refine AM.rangeFunc hG rfl Try.func68 (by kernel_rfl) rfl rfl Try.ntmps68 ?_
  intro L rec G2 hG2 hB2 hL hQ2
  replace hB2 : GB G2 7 := hB2
  replace hL : LoopOk G2 6 L rec _ _ _ _ := hL
  refine AM.run2 hG2 100 (by cbv) ?_ ?_
  · (simp only [sxs, sxb, and_self, and_true, true_and, implies_true, imp_self, bne_eq_false_iff_eq, Nat.zero_add, Nat.le_refl, Int.toNat_natCast, Int.ofNat_lt, Int.natCast_nonneg, decide_eq_true_eq, decide_eq_false_iff_not, bne_iff_ne, ne_eq]; try dsimp only [Kd.T, Kds.T, AK.T, AKs.T])
  refine AM.emptyRow 1 0 3 I64 rfl (by simp) rfl ?_
  refine AM.loopI (fun z : Nat × Table × List Ask × List Int => (frame 49 [(0, .fn (.yield L) [] []), (1, .ptr 5 0), (2, .ptr 3 0), (3, .ptr 4 0), (8, .int .i64 (.t fun _ => nI N)), (9, .int .i64 (.t fun _ => nI z.1))],
    [.dead, .box 22 [.sl 7 1 (.l 0) (.t fun _ => z.2.2.2.length)], .row 42 AskK (fun _ => z.2.2.1), .box 25 [.int .i64 (.t fun _ => z.2.1.1), .ro CallK fun _ => z.2.1.2.1], .box 26 [.sl 2 10 (.l 0) (.t fun _ => l.length)], .box 3 [.int .i64 (.t fun _ => nI N)], .obj fun _ => .loop rec, .row 3 I64 (fun _ => z.2.2.2)]))
    (fun z => z.1 ≤ N ∧ z.2.2.1.length = l.length ∧ z.2.1.2.1.length ≤ 1000000 ∧ z.2.2.2.length = z.1 ∧ z.2.2.2 ++ planGo (N - z.1) z.2.1 z.2.2.1 = planGo N (cap, cs, ()) l) (fun z => N - z.1) (0, (cap, cs, ()), l, []) ⟨Nat.zero_le _, rfl, hc, rfl, rfl⟩ ?_ ?_ ?_
  · cbv; (simp only [sxs, sxb, and_self, and_true, true_and, implies_true, imp_self, bne_eq_false_iff_eq, Nat.zero_add, Nat.le_refl, Int.toNat_natCast, Int.ofNat_lt, Int.natCast_nonneg, decide_eq_true_eq, decide_eq_false_iff_not, bne_iff_ne, ne_eq]; try dsimp only [Kd.T, Kds.T, AK.T, AKs.T]); all_goals ((repeat' apply And.intro) <;> first | rfl | assumption | exact trivial)
  · cbv; (simp only [sxs, sxb, and_self, and_true, true_and, implies_true, imp_self, bne_eq_false_iff_eq, Nat.zero_add, Nat.le_refl, Int.toNat_natCast, Int.ofNat_lt, Int.natCast_nonneg, decide_eq_true_eq, decide_eq_false_iff_not, bne_iff_ne, ne_eq]; try dsimp only [Kd.T, Kds.T, AK.T, AKs.T]); all_goals ((repeat' apply And.intro) <;> first | rfl | assumption | exact trivial)
  rintro ⟨i, ⟨tc, tl, ⟨⟩⟩, l2, out⟩ ⟨hi, hl2, htl, ho, he⟩ ih
  simp only at hi hl2 htl ho he
  refine AM.run2 hG2 100 (by cbv) ?_ ?_
  · (simp only [sxs, sxb, and_self, and_true, true_and, implies_true, imp_self, bne_eq_false_iff_eq, Nat.zero_add, Nat.le_refl, Int.toNat_natCast, Int.ofNat_lt, Int.natCast_nonneg, decide_eq_true_eq, decide_eq_false_iff_not, bne_iff_ne, ne_eq]; try dsimp only [Kd.T, Kds.T, AK.T, AKs.T])
  refine AM.case 10 rfl (fun h => ?_) (fun h => ?_) <;> (simp only [sxs, sxb, and_self, and_true, true_and, implies_true, imp_self, bne_eq_false_iff_eq, Nat.zero_add, Nat.le_refl, Int.toNat_natCast, Int.ofNat_lt, Int.natCast_nonneg, decide_eq_true_eq, decide_eq_false_iff_not, bne_iff_ne, ne_eq] at h; try dsimp only [Kd.T, Kds.T, AK.T, AKs.T] at h)
  · refine AM.runTo2 hG2 14 100 (by cbv) ?_ ?_
    · (simp only [sxs, sxb, and_self, and_true, true_and, implies_true, imp_self, bne_eq_false_iff_eq, Nat.zero_add, Nat.le_refl, Int.toNat_natCast, Int.ofNat_lt, Int.natCast_nonneg, decide_eq_true_eq, decide_eq_false_iff_not, bne_iff_ne, ne_eq]; try dsimp only [Kd.T, Kds.T, AK.T, AKs.T])
      rw [List.length_take]
      exact ⟨⟨htl, by omega⟩, by omega⟩
    have htk : List.take l.length l2 = l2 := List.take_of_length_le (by omega)
    refine AM.frz [8] (by cbv) (by (simp only [sxs, sxb, and_self, and_true, true_and, implies_true, imp_self, bne_eq_false_iff_eq, Nat.zero_add, Nat.le_refl, Int.toNat_natCast, Int.ofNat_lt, Int.natCast_nonneg, decide_eq_true_eq, decide_eq_false_iff_not, bne_iff_ne, ne_eq]; try dsimp only [Kd.T, Kds.T, AK.T, AKs.T])) ?_
    obtain ⟨ch, hch⟩ : ∃ x, choicesR (tc, tl, ()) l2 [] = x := ⟨_, rfl⟩
    have hcl : ch.length = l2.length := by rw [← hch, choicesR_len]
    obtain ⟨⟨sc, sl, ⟨⟩⟩, hsv⟩ : ∃ x, servedR (tc, tl, ()) ch = x := ⟨_, rfl⟩
    have hsl : sl.length ≤ 1000000 := by
      have := servedR_len ch (tc, tl, ())
      rw [hsv] at this
      exact Nat.le_trans this htl
    refine AM.runTo2 hG2 19 100 (by cbv) ?_ ?_
    · (simp only [sxs, sxb, and_self, and_true, true_and, implies_true, imp_self, bne_eq_false_iff_eq, Nat.zero_add, Nat.le_refl, Int.toNat_natCast, Int.ofNat_lt, Int.natCast_nonneg, decide_eq_true_eq, decide_eq_false_iff_not, bne_iff_ne, ne_eq]; try dsimp only [Kd.T, Kds.T, AK.T, AKs.T])
      rw [htk, hch, List.length_take]
      exact ⟨htl, by omega⟩
    have hst : planGo (N - i) (tc, tl, ()) l2 = nI sl.length :: planGo (N - (i + 1)) (sc, sl, ()) (bumpL l2 ch) := by
      rw [show N - i = (N - (i + 1)) + 1 by omega, planGo, hch, hsv]
    refine AM.imp2 (fr' := frame 49 [(0, .fn (.yield L) [] []), (1, .ptr 5 0), (2, .ptr 3 0), (3, .ptr 4 0), (5, .ro ChoiceK fun _ => ch), (8, .int .i64 (.t fun _ => nI N)), (9, .int .i64 (.t fun _ => nI i)), (17, .fn (.yield L) [] []), (18, .agg [.int .i64 (.t fun _ => sc), .ro CallK fun _ => sl])])
      (h' := [.dead, .box 22 [.sl 7 1 (.l 0) (.t fun _ => out.length)], .row 42 AskK (fun _ => l2), .box 25 [.int .i64 (.t fun _ => sc), .ro CallK fun _ => sl], .box 26 [.sl 2 10 (.l 0) (.t fun _ => l.length)], .box 3 [.int .i64 (.t fun _ => nI N)], .obj fun _ => .loop rec, .row 3 I64 (fun _ => out), .dead]) (by cbv) (by cbv) ?_ ?_ ?_
    · (simp only [sxs, sxb, and_self, and_true, true_and, implies_true, imp_self, bne_eq_false_iff_eq, Nat.zero_add, Nat.le_refl, Int.toNat_natCast, Int.ofNat_lt, Int.natCast_nonneg, decide_eq_true_eq, decide_eq_false_iff_not, bne_iff_ne, ne_eq]; try dsimp only [Kd.T, Kds.T, AK.T, AKs.T])
      simp only [htk, hch, List.take_length, hsv]
      exact ⟨trivial, trivial, trivial⟩
    · (simp only [sxs, sxb, and_self, and_true, true_and, implies_true, imp_self, bne_eq_false_iff_eq, Nat.zero_add, Nat.le_refl, Int.toNat_natCast, Int.ofNat_lt, Int.natCast_nonneg, decide_eq_true_eq, decide_eq_false_iff_not, bne_iff_ne, ne_eq]; try dsimp only [Kd.T, Kds.T, AK.T, AKs.T])
      simp only [htk, hch, List.take_length, hsv]
      exact ⟨trivial, trivial⟩
    refine AM.yield (g := fun _ => True) hG2 hL rfl rfl rfl rfl (by simp) rfl ?_
    intro G3 hG3 hB3 hL3 hr3 hQ3
    refine AM.run2 hG3 100 (by cbv) ?_ ?_
    · (simp only [sxs, sxb, and_self, and_true, true_and, implies_true, imp_self, bne_eq_false_iff_eq, Nat.zero_add, Nat.le_refl, Int.toNat_natCast, Int.ofNat_lt, Int.natCast_nonneg, decide_eq_true_eq, decide_eq_false_iff_not, bne_iff_ne, ne_eq]; try dsimp only [Kd.T, Kds.T, AK.T, AKs.T])
    refine AM.beg hL3 rfl (by simp) ?_
    refine AM.run2 hG3 100 (by cbv) ?_ ?_
    · (simp only [sxs, sxb, and_self, and_true, true_and, implies_true, imp_self, bne_eq_false_iff_eq, Nat.zero_add, Nat.le_refl, Int.toNat_natCast, Int.ofNat_lt, Int.natCast_nonneg, decide_eq_true_eq, decide_eq_false_iff_not, bne_iff_ne, ne_eq]; try dsimp only [Kd.T, Kds.T, AK.T, AKs.T])
      simp only [maxLen, List.length_take, List.length_cons, List.length_nil]
      omega
    refine AM.roundEnd hr3 (hQ3 _ _ rfl ?_)
    refine AM.run2 hG2 100 (by cbv) ?_ ?_
    · (simp only [sxs, sxb, and_self, and_true, true_and, implies_true, imp_self, bne_eq_false_iff_eq, Nat.zero_add, Nat.le_refl, Int.toNat_natCast, Int.ofNat_lt, Int.natCast_nonneg, decide_eq_true_eq, decide_eq_false_iff_not, bne_iff_ne, ne_eq]; try dsimp only [Kd.T, Kds.T, AK.T, AKs.T])
    have hb0 : (bumpL l2 ch).length = l2.length := bumpL_len hcl
    refine AM.loopI (fun z : Nat × List Ask => (frame 49 [(0, .fn (.yield L) [] []), (1, .ptr 5 0), (2, .ptr 3 0), (3, .ptr 4 0), (8, .int .i64 (.t fun _ => nI N)), (9, .int .i64 (.t fun _ => nI i)), (21, .ro ChoiceK fun _ => ch), (22, .int .i64 (.t fun _ => nI ch.length)), (23, .int .i64 (.t fun _ => nI z.1))],
      [.dead, .box 22 [.sl 11 1 (.l 0) (.t fun _ => (out ++ [nI sl.length]).length)], .row 42 AskK (fun _ => z.2), .box 25 [.int .i64 (.t fun _ => sc), .ro CallK fun _ => sl], .box 26 [.sl 2 10 (.l 0) (.t fun _ => l.length)], .box 3 [.int .i64 (.t fun _ => nI N)], .obj fun _ => .loop rec, .dead, .dead, .dead, .dead, .row 3 I64 (fun _ => (out ++ [nI sl.length]))]))
      (fun z => z.1 ≤ l2.length ∧ z.2 = (bumpL l2 ch).take z.1 ++ l2.drop z.1) (fun z => l2.length - z.1) (0, l2) ⟨Nat.zero_le _, by simp⟩ ?_ ?_ ?_
    · cbv; (simp only [sxs, sxb, and_self, and_true, true_and, implies_true, imp_self, bne_eq_false_iff_eq, Nat.zero_add, Nat.le_refl, Int.toNat_natCast, Int.ofNat_lt, Int.natCast_nonneg, decide_eq_true_eq, decide_eq_false_iff_not, bne_iff_ne, ne_eq]; try dsimp only [Kd.T, Kds.T, AK.T, AKs.T]); all_goals ((repeat' apply And.intro) <;> first | rfl | assumption | exact trivial)
    · cbv; (simp only [sxs, sxb, and_self, and_true, true_and, implies_true, imp_self, bne_eq_false_iff_eq, Nat.zero_add, Nat.le_refl, Int.toNat_natCast, Int.ofNat_lt, Int.natCast_nonneg, decide_eq_true_eq, decide_eq_false_iff_not, bne_iff_ne, ne_eq]; try dsimp only [Kd.T, Kds.T, AK.T, AKs.T])
      rw [List.length_append]
      exact ⟨rfl, rfl⟩
    rintro ⟨k, lk⟩ ⟨hk, hlk⟩ ih2
    simp only at hk hlk
    have hlkl : lk.length = l2.length := by rw [hlk, List.length_append, List.length_take, List.length_drop, hb0]; omega
    refine AM.run2 hG2 100 (by cbv) ?_ ?_
    · (simp only [sxs, sxb, and_self, and_true, true_and, implies_true, imp_self, bne_eq_false_iff_eq, Nat.zero_add, Nat.le_refl, Int.toNat_natCast, Int.ofNat_lt, Int.natCast_nonneg, decide_eq_true_eq, decide_eq_false_iff_not, bne_iff_ne, ne_eq]; try dsimp only [Kd.T, Kds.T, AK.T, AKs.T])
    refine AM.case 24 rfl (fun h3 => ?_) (fun h3 => ?_) <;> (simp only [sxs, sxb, and_self, and_true, true_and, implies_true, imp_self, bne_eq_false_iff_eq, Nat.zero_add, Nat.le_refl, Int.toNat_natCast, Int.ofNat_lt, Int.natCast_nonneg, decide_eq_true_eq, decide_eq_false_iff_not, bne_iff_ne, ne_eq] at h3; try dsimp only [Kd.T, Kds.T, AK.T, AKs.T] at h3)
    · have hget : ∀ z, lk.getD k z = l2.getD k z := fun z => by rw [hlk]; exact bump_get (by omega) hcl z
      have hset : lk.set k (bumpA (l2.getD k zA) (ch.getD k zCh)) = (bumpL l2 ch).take (k + 1) ++ l2.drop (k + 1) := by rw [hlk]; exact bump_set (by omega) hcl
      refine AM.run2 hG2 100 (by cbv) ?_ ?_
      · (simp only [sxs, sxb, and_self, and_true, true_and, implies_true, imp_self, bne_eq_false_iff_eq, Nat.zero_add, Nat.le_refl, Int.toNat_natCast, Int.ofNat_lt, Int.natCast_nonneg, decide_eq_true_eq, decide_eq_false_iff_not, bne_iff_ne, ne_eq]; try dsimp only [Kd.T, Kds.T, AK.T, AKs.T])
        exact ⟨by omega, by omega, by decide, by omega, by omega, by omega⟩
      refine AM.case 40 rfl (fun (h4 : (ch.getD k zCh).2.2.1 = true) => ?_) (fun (h4 : (ch.getD k zCh).2.2.1 = false) => ?_)
      · rw [bump_is h4, ← hget zA] at hset
        refine AM.run2 hG2 100 (by cbv) ?_ ?_
        · (simp only [sxs, sxb, and_self, and_true, true_and, implies_true, imp_self, bne_eq_false_iff_eq, Nat.zero_add, Nat.le_refl, Int.toNat_natCast, Int.ofNat_lt, Int.natCast_nonneg, decide_eq_true_eq, decide_eq_false_iff_not, bne_iff_ne, ne_eq]; try dsimp only [Kd.T, Kds.T, AK.T, AKs.T])
          rw [List.length_set]
          exact ⟨by omega, by omega⟩
        refine AM.ren hB2 [0, 1, 2, 3, 4, 5, 6, 7, 8, 9, 10, 11] (by cbv) (by cbv) (by cbv) ?_ ?_ (ih2 (k + 1, lk.set k (floorA (ch.getD k zCh).2.1 (tripA (lk.getD k zA)))) ⟨by simp only; omega, hset⟩ (by simp only; omega))
        · (simp only [sxs, sxb, and_self, and_true, true_and, implies_true, imp_self, bne_eq_false_iff_eq, Nat.zero_add, Nat.le_refl, Int.toNat_natCast, Int.ofNat_lt, Int.natCast_nonneg, decide_eq_true_eq, decide_eq_false_iff_not, bne_iff_ne, ne_eq]; try dsimp only [Kd.T, Kds.T, AK.T, AKs.T])
          rw [w64s (by omega)]
        · (simp only [sxs, sxb, and_self, and_true, true_and, implies_true, imp_self, bne_eq_false_iff_eq, Nat.zero_add, Nat.le_refl, Int.toNat_natCast, Int.ofNat_lt, Int.natCast_nonneg, decide_eq_true_eq, decide_eq_false_iff_not, bne_iff_ne, ne_eq]; try dsimp only [Kd.T, Kds.T, AK.T, AKs.T])
          exact set_twice (by omega) (tripA (lk.getD k zA)) (floorA (ch.getD k zCh).2.1) zA
      · rw [bump_no h4, ← hget zA] at hset
        refine AM.run2 hG2 100 (by cbv) ?_ ?_
        · (simp only [sxs, sxb, and_self, and_true, true_and, implies_true, imp_self, bne_eq_false_iff_eq, Nat.zero_add, Nat.le_refl, Int.toNat_natCast, Int.ofNat_lt, Int.natCast_nonneg, decide_eq_true_eq, decide_eq_false_iff_not, bne_iff_ne, ne_eq]; try dsimp only [Kd.T, Kds.T, AK.T, AKs.T])
        refine AM.ren hB2 [0, 1, 2, 3, 4, 5, 6, 7, 8, 9, 10, 11] (by cbv) (by cbv) (by cbv) ?_ ?_ (ih2 (k + 1, lk.set k (tripA (lk.getD k zA))) ⟨by simp only; omega, hset⟩ (by simp only; omega))
        · (simp only [sxs, sxb, and_self, and_true, true_and, implies_true, imp_self, bne_eq_false_iff_eq, Nat.zero_add, Nat.le_refl, Int.toNat_natCast, Int.ofNat_lt, Int.natCast_nonneg, decide_eq_true_eq, decide_eq_false_iff_not, bne_iff_ne, ne_eq]; try dsimp only [Kd.T, Kds.T, AK.T, AKs.T])
          rw [w64s (by omega)]
        · (simp only [sxs, sxb, and_self, and_true, true_and, implies_true, imp_self, bne_eq_false_iff_eq, Nat.zero_add, Nat.le_refl, Int.toNat_natCast, Int.ofNat_lt, Int.natCast_nonneg, decide_eq_true_eq, decide_eq_false_iff_not, bne_iff_ne, ne_eq]; try dsimp only [Kd.T, Kds.T, AK.T, AKs.T])
          rfl
    clear ih2
    obtain rfl : k = l2.length := by omega
    rw [List.take_of_length_le (by omega), List.drop_length, List.append_nil] at hlk
    subst hlk
    refine AM.run2 hG2 100 (by cbv) ?_ ?_
    · (simp only [sxs, sxb, and_self, and_true, true_and, implies_true, imp_self, bne_eq_false_iff_eq, Nat.zero_add, Nat.le_refl, Int.toNat_natCast, Int.ofNat_lt, Int.natCast_nonneg, decide_eq_true_eq, decide_eq_false_iff_not, bne_iff_ne, ne_eq]; try dsimp only [Kd.T, Kds.T, AK.T, AKs.T])
    refine AM.ren hB2 [0, 1, 2, 3, 4, 5, 6, 11] (by cbv) (by cbv) (by cbv) ?_ ?_ (ih (i + 1, (sc, sl, ()), bumpL l2 ch, out ++ [nI sl.length]) ⟨by simp only; omega, by simp only; omega, hsl, by simp only [List.length_append, List.length_cons, List.length_nil]; omega, by rw [← he, hst, List.append_assoc]; rfl⟩ (by simp only; omega))
    · (simp only [sxs, sxb, and_self, and_true, true_and, implies_true, imp_self, bne_eq_false_iff_eq, Nat.zero_add, Nat.le_refl, Int.toNat_natCast, Int.ofNat_lt, Int.natCast_nonneg, decide_eq_true_eq, decide_eq_false_iff_not, bne_iff_ne, ne_eq]; try dsimp only [Kd.T, Kds.T, AK.T, AKs.T])
      rw [w64s (by omega)]
    · (simp only [sxs, sxb, and_self, and_true, true_and, implies_true, imp_self, bne_eq_false_iff_eq, Nat.zero_add, Nat.le_refl, Int.toNat_natCast, Int.ofNat_lt, Int.natCast_nonneg, decide_eq_true_eq, decide_eq_false_iff_not, bne_iff_ne, ne_eq]; try dsimp only [Kd.T, Kds.T, AK.T, AKs.T])
  clear ih
  obtain rfl : i = N := by omega
  rw [Nat.sub_self, planGo, List.append_nil] at he
  refine AM.run2 hG2 100 (by cbv) ?_ ?_
  · (simp only [sxs, sxb, and_self, and_true, true_and, implies_true, imp_self, bne_eq_false_iff_eq, Nat.zero_add, Nat.le_refl, Int.toNat_natCast, Int.ofNat_lt, Int.natCast_nonneg, decide_eq_true_eq, decide_eq_false_iff_not, bne_iff_ne, ne_eq]; try dsimp only [Kd.T, Kds.T, AK.T, AKs.T])
  refine AM.fall2 hG2 (by cbv) (by (simp only [sxs, sxb, and_self, and_true, true_and, implies_true, imp_self, bne_eq_false_iff_eq, Nat.zero_add, Nat.le_refl, Int.toNat_natCast, Int.ofNat_lt, Int.natCast_nonneg, decide_eq_true_eq, decide_eq_false_iff_not, bne_iff_ne, ne_eq]; try dsimp only [Kd.T, Kds.T, AK.T, AKs.T])) (hQ2 _ _ rfl ?_)
  refine AM.run2 hG 100 (by cbv) ?_ ?_
  · (simp only [sxs, sxb, and_self, and_true, true_and, implies_true, imp_self, bne_eq_false_iff_eq, Nat.zero_add, Nat.le_refl, Int.toNat_natCast, Int.ofNat_lt, Int.natCast_nonneg, decide_eq_true_eq, decide_eq_false_iff_not, bne_iff_ne, ne_eq]; try dsimp only [Kd.T, Kds.T, AK.T, AKs.T])
  refine AM.ret2 hG (by cbv) (by (simp only [sxs, sxb, and_self, and_true, true_and, implies_true, imp_self, bne_eq_false_iff_eq, Nat.zero_add, Nat.le_refl, Int.toNat_natCast, Int.ofNat_lt, Int.natCast_nonneg, decide_eq_true_eq, decide_eq_false_iff_not, bne_iff_ne, ne_eq]; try dsimp only [Kd.T, Kds.T, AK.T, AKs.T])) (hQ _ _ (FinRo.of (by cbv) (by cbv) ?_ ?_))
  · (simp only [sxs, sxb, and_self, and_true, true_and, implies_true, imp_self, bne_eq_false_iff_eq, Nat.zero_add, Nat.le_refl, Int.toNat_natCast, Int.ofNat_lt, Int.natCast_nonneg, decide_eq_true_eq, decide_eq_false_iff_not, bne_iff_ne, ne_eq]; try dsimp only [Kd.T, Kds.T, AK.T, AKs.T])
  try (simp only [sxs, sxb, and_self, and_true, true_and, implies_true, imp_self, bne_eq_false_iff_eq, Nat.zero_add, Nat.le_refl, Int.toNat_natCast, Int.ofNat_lt, Int.natCast_nonneg, decide_eq_true_eq, decide_eq_false_iff_not, bne_iff_ne, ne_eq]; try dsimp only [Kd.T, Kds.T, AK.T, AKs.T])
  rw [planR, if_neg (by rw [c]; decide), if_neg (by omega), hN, List.take_length]
  exact ⟨he, rfl⟩
def S37 : List AV → Option FOut := sigSpec [TableK, AsksK, I64] [IntsK, I64] (fun x : Table × List Ask × Int × Unit => ((planR x.1 x.2.1 x.2.2.1).1, (planR x.1 x.2.1 x.2.2.1).2, ())) (fun x : Table × List Ask × Int × Unit => x.1.2.1.length ≤ 1000000 ∧ x.2.1.length ≤ 1000)
set_option maxHeartbeats 16000000 in
theorem fn37 : FnOk Try.prog 37 S37 := by
  refine fn_ofB (rs := [.tmp 6, .tmp 7]) (env [(55, S55), (56, S56o), (64, S64)] ⟨fn55, fn56o, fn64, trivial⟩) Try.func37 (by kernel_rfl) rfl rfl Try.ntmps37 ?_
  rintro ⟨⟨(cap : Int), (cs : List Call), ⟨⟩⟩, (l : List Ask), (n : Int), u2⟩ ⟨hc, hl⟩ G hG hB hQ
  have hB := GB.of hB
  simp only at hc hl
  refine AM.run2 hG 100 (by cbv) ?_ ?_
  · (simp only [sxs, sxb, and_self, and_true, true_and, implies_true, imp_self, bne_eq_false_iff_eq, Nat.zero_add, Nat.le_refl, Int.toNat_natCast, Int.ofNat_lt, Int.natCast_nonneg, decide_eq_true_eq, decide_eq_false_iff_not, bne_iff_ne, ne_eq]; try dsimp only [Kd.T, Kds.T, AK.T, AKs.T])
    omega
  refine AM.case 26 rfl (fun c => ?_) (fun c => ?_) <;> (simp only [sxs, sxb, and_self, and_true, true_and, implies_true, imp_self, bne_eq_false_iff_eq, Nat.zero_add, Nat.le_refl, Int.toNat_natCast, Int.ofNat_lt, Int.natCast_nonneg, decide_eq_true_eq, decide_eq_false_iff_not, bne_iff_ne, ne_eq] at c; try dsimp only [Kd.T, Kds.T, AK.T, AKs.T] at c)
  · refine AM.run2 hG 100 (by cbv) ?_ ?_
    · (simp only [sxs, sxb, and_self, and_true, true_and, implies_true, imp_self, bne_eq_false_iff_eq, Nat.zero_add, Nat.le_refl, Int.toNat_natCast, Int.ofNat_lt, Int.natCast_nonneg, decide_eq_true_eq, decide_eq_false_iff_not, bne_iff_ne, ne_eq]; try dsimp only [Kd.T, Kds.T, AK.T, AKs.T])
    refine AM.ret2 hG (by cbv) (by (simp only [sxs, sxb, and_self, and_true, true_and, implies_true, imp_self, bne_eq_false_iff_eq, Nat.zero_add, Nat.le_refl, Int.toNat_natCast, Int.ofNat_lt, Int.natCast_nonneg, decide_eq_true_eq, decide_eq_false_iff_not, bne_iff_ne, ne_eq]; try dsimp only [Kd.T, Kds.T, AK.T, AKs.T])) (hQ _ _ (FinRo.of (by cbv) (by cbv) ?_ ?_))
    · (simp only [sxs, sxb, and_self, and_true, true_and, implies_true, imp_self, bne_eq_false_iff_eq, Nat.zero_add, Nat.le_refl, Int.toNat_natCast, Int.ofNat_lt, Int.natCast_nonneg, decide_eq_true_eq, decide_eq_false_iff_not, bne_iff_ne, ne_eq]; try dsimp only [Kd.T, Kds.T, AK.T, AKs.T])
    try (simp only [sxs, sxb, and_self, and_true, true_and, implies_true, imp_self, bne_eq_false_iff_eq, Nat.zero_add, Nat.le_refl, Int.toNat_natCast, Int.ofNat_lt, Int.natCast_nonneg, decide_eq_true_eq, decide_eq_false_iff_not, bne_iff_ne, ne_eq]; try dsimp only [Kd.T, Kds.T, AK.T, AKs.T])
    rw [planR, if_neg (by have q : wrongE (cap, cs, ()) l = 0 := c.1; rw [q]; decide), if_pos c.2]
    exact ⟨rfl, rfl⟩
  refine AM.run2 hG 100 (by cbv) ?_ ?_
  · (simp only [sxs, sxb, and_self, and_true, true_and, implies_true, imp_self, bne_eq_false_iff_eq, Nat.zero_add, Nat.le_refl, Int.toNat_natCast, Int.ofNat_lt, Int.natCast_nonneg, decide_eq_true_eq, decide_eq_false_iff_not, bne_iff_ne, ne_eq]; try dsimp only [Kd.T, Kds.T, AK.T, AKs.T])
  refine AM.case 28 rfl (fun c2 => ?_) (fun c2 => ?_) <;> (simp only [sxs, sxb, and_self, and_true, true_and, implies_true, imp_self, bne_eq_false_iff_eq, Nat.zero_add, Nat.le_refl, Int.toNat_natCast, Int.ofNat_lt, Int.natCast_nonneg, decide_eq_true_eq, decide_eq_false_iff_not, bne_iff_ne, ne_eq] at c2; try dsimp only [Kd.T, Kds.T, AK.T, AKs.T] at c2)
  · refine AM.run2 hG 100 (by cbv) ?_ ?_
    · (simp only [sxs, sxb, and_self, and_true, true_and, implies_true, imp_self, bne_eq_false_iff_eq, Nat.zero_add, Nat.le_refl, Int.toNat_natCast, Int.ofNat_lt, Int.natCast_nonneg, decide_eq_true_eq, decide_eq_false_iff_not, bne_iff_ne, ne_eq]; try dsimp only [Kd.T, Kds.T, AK.T, AKs.T])
    refine AM.ret2 hG (by cbv) (by (simp only [sxs, sxb, and_self, and_true, true_and, implies_true, imp_self, bne_eq_false_iff_eq, Nat.zero_add, Nat.le_refl, Int.toNat_natCast, Int.ofNat_lt, Int.natCast_nonneg, decide_eq_true_eq, decide_eq_false_iff_not, bne_iff_ne, ne_eq]; try dsimp only [Kd.T, Kds.T, AK.T, AKs.T])) (hQ _ _ (FinRo.of (by cbv) (by cbv) ?_ ?_))
    · (simp only [sxs, sxb, and_self, and_true, true_and, implies_true, imp_self, bne_eq_false_iff_eq, Nat.zero_add, Nat.le_refl, Int.toNat_natCast, Int.ofNat_lt, Int.natCast_nonneg, decide_eq_true_eq, decide_eq_false_iff_not, bne_iff_ne, ne_eq]; try dsimp only [Kd.T, Kds.T, AK.T, AKs.T])
    try (simp only [sxs, sxb, and_self, and_true, true_and, implies_true, imp_self, bne_eq_false_iff_eq, Nat.zero_add, Nat.le_refl, Int.toNat_natCast, Int.ofNat_lt, Int.natCast_nonneg, decide_eq_true_eq, decide_eq_false_iff_not, bne_iff_ne, ne_eq]; try dsimp only [Kd.T, Kds.T, AK.T, AKs.T])
    rw [planR, if_pos c2]
    exact ⟨rfl, rfl⟩
  replace c2 : wrongE (cap, cs, ()) l = 0 := c2
  obtain ⟨c3, c4⟩ := c c2
  obtain ⟨N, hN⟩ : ∃ N : Nat, n.toNat = N := ⟨_, rfl⟩
  have hnN : n = ((N : Nat) : Int) := by omega
  have hN1 : N ≤ 100 := by omega
  refine AM.run2 hG 100 (by cbv) ?_ ?_
  · (simp only [sxs, sxb, and_self, and_true, true_and, implies_true, imp_self, bne_eq_false_iff_eq, Nat.zero_add, Nat.le_refl, Int.toNat_natCast, Int.ofNat_lt, Int.natCast_nonneg, decide_eq_true_eq, decide_eq_false_iff_not, bne_iff_ne, ne_eq]; try dsimp only [Kd.T, Kds.T, AK.T, AKs.T])
    simp only [maxLen]
    omega
  refine AM.emptySlot 10 3 I64 rfl ?_
  refine AM.loopI (fun z : Nat × Table × List Ask × List Int => (frame 82 [(2, .int .i64 (.t fun _ => nI N)), (3, .ptr 0 0), (9, .sl 2 10 (.l 0) (.t fun _ => l.length)), (10, .sl 3 1 (.l 0) (.t fun _ => z.2.2.2.length)), (11, .int .i64 (.t fun _ => nI z.1))],
    [.box 25 [.int .i64 (.t fun _ => z.2.1.1), .ro CallK fun _ => z.2.1.2.1], .dead, .row 42 AskK (fun _ => z.2.2.1), .row 3 I64 (fun _ => z.2.2.2)]))
    (fun z => z.1 ≤ N ∧ z.2.2.1.length = l.length ∧ z.2.1.2.1.length ≤ 1000000 ∧ z.2.2.2.length = z.1 ∧ z.2.2.2 ++ planGo (N - z.1) z.2.1 z.2.2.1 = planGo N (cap, cs, ()) l) (fun z => N - z.1) (0, (cap, cs, ()), l, []) ⟨Nat.zero_le _, rfl, hc, rfl, rfl⟩ ?_ ?_ ?_
  · cbv; (simp only [sxs, sxb, and_self, and_true, true_and, implies_true, imp_self, bne_eq_false_iff_eq, Nat.zero_add, Nat.le_refl, Int.toNat_natCast, Int.ofNat_lt, Int.natCast_nonneg, decide_eq_true_eq, decide_eq_false_iff_not, bne_iff_ne, ne_eq]; try dsimp only [Kd.T, Kds.T, AK.T, AKs.T])
    exact ⟨hnN, rfl⟩
  · cbv; (simp only [sxs, sxb, and_self, and_true, true_and, implies_true, imp_self, bne_eq_false_iff_eq, Nat.zero_add, Nat.le_refl, Int.toNat_natCast, Int.ofNat_lt, Int.natCast_nonneg, decide_eq_true_eq, decide_eq_false_iff_not, bne_iff_ne, ne_eq]; try dsimp only [Kd.T, Kds.T, AK.T, AKs.T]); all_goals ((repeat' apply And.intro) <;> first | rfl | assumption | exact trivial)
  rintro ⟨i, ⟨tc, tl, ⟨⟩⟩, l2, out⟩ ⟨hi, hl2, htl, ho, he⟩ ih
  simp only at hi hl2 htl ho he
  refine AM.run2 hG 100 (by cbv) ?_ ?_
  · (simp only [sxs, sxb, and_self, and_true, true_and, implies_true, imp_self, bne_eq_false_iff_eq, Nat.zero_add, Nat.le_refl, Int.toNat_natCast, Int.ofNat_lt, Int.natCast_nonneg, decide_eq_true_eq, decide_eq_false_iff_not, bne_iff_ne, ne_eq]; try dsimp only [Kd.T, Kds.T, AK.T, AKs.T])
  refine AM.case 35 rfl (fun h => ?_) (fun h => ?_) <;> (simp only [sxs, sxb, and_self, and_true, true_and, implies_true, imp_self, bne_eq_false_iff_eq, Nat.zero_add, Nat.le_refl, Int.toNat_natCast, Int.ofNat_lt, Int.natCast_nonneg, decide_eq_true_eq, decide_eq_false_iff_not, bne_iff_ne, ne_eq] at h; try dsimp only [Kd.T, Kds.T, AK.T, AKs.T] at h)
  · have htk : List.take l.length l2 = l2 := List.take_of_length_le (by omega)
    refine AM.runTo2 hG 41 100 (by cbv) ?_ ?_
    · (simp only [sxs, sxb, and_self, and_true, true_and, implies_true, imp_self, bne_eq_false_iff_eq, Nat.zero_add, Nat.le_refl, Int.toNat_natCast, Int.ofNat_lt, Int.natCast_nonneg, decide_eq_true_eq, decide_eq_false_iff_not, bne_iff_ne, ne_eq]; try dsimp only [Kd.T, Kds.T, AK.T, AKs.T])
      rw [htk]
      exact ⟨⟨htl, by omega⟩, by omega⟩
    refine AM.frz [4] (by cbv) (by (simp only [sxs, sxb, and_self, and_true, true_and, implies_true, imp_self, bne_eq_false_iff_eq, Nat.zero_add, Nat.le_refl, Int.toNat_natCast, Int.ofNat_lt, Int.natCast_nonneg, decide_eq_true_eq, decide_eq_false_iff_not, bne_iff_ne, ne_eq]; try dsimp only [Kd.T, Kds.T, AK.T, AKs.T])) ?_
    obtain ⟨ch, hch⟩ : ∃ x, choicesR (tc, tl, ()) l2 [] = x := ⟨_, rfl⟩
    have hcl : ch.length = l2.length := by rw [← hch, choicesR_len]
    obtain ⟨⟨sc, sl, ⟨⟩⟩, hsv⟩ : ∃ x, servedR (tc, tl, ()) ch = x := ⟨_, rfl⟩
    have hsl : sl.length ≤ 1000000 := by
      have := servedR_len ch (tc, tl, ())
      rw [hsv] at this
      exact Nat.le_trans this htl
    have hst : planGo (N - i) (tc, tl, ()) l2 = nI sl.length :: planGo (N - (i + 1)) (sc, sl, ()) (bumpL l2 ch) := by
      rw [show N - i = (N - (i + 1)) + 1 by omega, planGo, hch, hsv]
    refine AM.runTo2 hG 44 100 (by cbv) ?_ ?_
    · (simp only [sxs, sxb, and_self, and_true, true_and, implies_true, imp_self, bne_eq_false_iff_eq, Nat.zero_add, Nat.le_refl, Int.toNat_natCast, Int.ofNat_lt, Int.natCast_nonneg, decide_eq_true_eq, decide_eq_false_iff_not, bne_iff_ne, ne_eq]; try dsimp only [Kd.T, Kds.T, AK.T, AKs.T])
      rw [htk, hch, List.length_take]
      exact ⟨htl, by omega⟩
    refine AM.imp2 (fr' := frame 82 [(2, .int .i64 (.t fun _ => nI N)), (3, .ptr 0 0), (9, .sl 2 10 (.l 0) (.t fun _ => l.length)), (10, .sl 3 1 (.l 0) (.t fun _ => out.length)), (11, .int .i64 (.t fun _ => nI i)), (12, .ro ChoiceK fun _ => ch)])
      (h' := [.box 25 [.int .i64 (.t fun _ => sc), .ro CallK fun _ => sl], .dead, .row 42 AskK (fun _ => l2), .row 3 I64 (fun _ => out), .dead]) (by cbv) (by cbv) ?_ ?_ ?_
    · (simp only [sxs, sxb, and_self, and_true, true_and, implies_true, imp_self, bne_eq_false_iff_eq, Nat.zero_add, Nat.le_refl, Int.toNat_natCast, Int.ofNat_lt, Int.natCast_nonneg, decide_eq_true_eq, decide_eq_false_iff_not, bne_iff_ne, ne_eq]; try dsimp only [Kd.T, Kds.T, AK.T, AKs.T])
      simp only [htk, hch, List.take_length]
    · (simp only [sxs, sxb, and_self, and_true, true_and, implies_true, imp_self, bne_eq_false_iff_eq, Nat.zero_add, Nat.le_refl, Int.toNat_natCast, Int.ofNat_lt, Int.natCast_nonneg, decide_eq_true_eq, decide_eq_false_iff_not, bne_iff_ne, ne_eq]; try dsimp only [Kd.T, Kds.T, AK.T, AKs.T])
      simp only [htk, hch, List.take_length, hsv]
      exact ⟨trivial, trivial⟩
    refine AM.run2 hG 100 (by cbv) ?_ ?_
    · (simp only [sxs, sxb, and_self, and_true, true_and, implies_true, imp_self, bne_eq_false_iff_eq, Nat.zero_add, Nat.le_refl, Int.toNat_natCast, Int.ofNat_lt, Int.natCast_nonneg, decide_eq_true_eq, decide_eq_false_iff_not, bne_iff_ne, ne_eq]; try dsimp only [Kd.T, Kds.T, AK.T, AKs.T])
      simp only [maxLen, List.length_take, List.length_cons, List.length_nil]
      omega
    have hb0 : (bumpL l2 ch).length = l2.length := bumpL_len hcl
    refine AM.loopI (fun z : Nat × List Ask => (frame 82 [(2, .int .i64 (.t fun _ => nI N)), (3, .ptr 0 0), (9, .sl 2 10 (.l 0) (.t fun _ => l.length)), (10, .sl 6 1 (.l 0) (.t fun _ => (out ++ [nI sl.length]).length)), (11, .int .i64 (.t fun _ => nI i)), (12, .ro ChoiceK fun _ => ch), (13, .int .i64 (.t fun _ => nI z.1))],
      [.box 25 [.int .i64 (.t fun _ => sc), .ro CallK fun _ => sl], .dead, .row 42 AskK (fun _ => z.2), .dead, .dead, .dead, .row 3 I64 (fun _ => (out ++ [nI sl.length]))]))
      (fun z => z.1 ≤ l2.length ∧ z.2 = (bumpL l2 ch).take z.1 ++ l2.drop z.1) (fun z => l2.length - z.1) (0, l2) ⟨Nat.zero_le _, by simp⟩ ?_ ?_ ?_
    · cbv; (simp only [sxs, sxb, and_self, and_true, true_and, implies_true, imp_self, bne_eq_false_iff_eq, Nat.zero_add, Nat.le_refl, Int.toNat_natCast, Int.ofNat_lt, Int.natCast_nonneg, decide_eq_true_eq, decide_eq_false_iff_not, bne_iff_ne, ne_eq]; try dsimp only [Kd.T, Kds.T, AK.T, AKs.T])
      rw [List.length_append]
      exact ⟨rfl, rfl⟩
    · cbv; (simp only [sxs, sxb, and_self, and_true, true_and, implies_true, imp_self, bne_eq_false_iff_eq, Nat.zero_add, Nat.le_refl, Int.toNat_natCast, Int.ofNat_lt, Int.natCast_nonneg, decide_eq_true_eq, decide_eq_false_iff_not, bne_iff_ne, ne_eq]; try dsimp only [Kd.T, Kds.T, AK.T, AKs.T])
      rfl
    rintro ⟨k, lk⟩ ⟨hk, hlk⟩ ih2
    simp only at hk hlk
    have hlkl : lk.length = l2.length := by rw [hlk, List.length_append, List.length_take, List.length_drop, hb0]; omega
    refine AM.run2 hG 100 (by cbv) ?_ ?_
    · (simp only [sxs, sxb, and_self, and_true, true_and, implies_true, imp_self, bne_eq_false_iff_eq, Nat.zero_add, Nat.le_refl, Int.toNat_natCast, Int.ofNat_lt, Int.natCast_nonneg, decide_eq_true_eq, decide_eq_false_iff_not, bne_iff_ne, ne_eq]; try dsimp only [Kd.T, Kds.T, AK.T, AKs.T])
    refine AM.case 53 rfl (fun h3 => ?_) (fun h3 => ?_) <;> (simp only [sxs, sxb, and_self, and_true, true_and, implies_true, imp_self, bne_eq_false_iff_eq, Nat.zero_add, Nat.le_refl, Int.toNat_natCast, Int.ofNat_lt, Int.natCast_nonneg, decide_eq_true_eq, decide_eq_false_iff_not, bne_iff_ne, ne_eq] at h3; try dsimp only [Kd.T, Kds.T, AK.T, AKs.T] at h3)
    · have hget : ∀ z, lk.getD k z = l2.getD k z := fun z => by rw [hlk]; exact bump_get (by omega) hcl z
      have hset : lk.set k (bumpA (l2.getD k zA) (ch.getD k zCh)) = (bumpL l2 ch).take (k + 1) ++ l2.drop (k + 1) := by rw [hlk]; exact bump_set (by omega) hcl
      refine AM.run2 hG 100 (by cbv) ?_ ?_
      · (simp only [sxs, sxb, and_self, and_true, true_and, implies_true, imp_self, bne_eq_false_iff_eq, Nat.zero_add, Nat.le_refl, Int.toNat_natCast, Int.ofNat_lt, Int.natCast_nonneg, decide_eq_true_eq, decide_eq_false_iff_not, bne_iff_ne, ne_eq]; try dsimp only [Kd.T, Kds.T, AK.T, AKs.T])
        exact ⟨by omega, by omega, by omega, by omega, by decide, by omega, by omega⟩
      refine AM.case 71 rfl (fun (h4 : (ch.getD k zCh).2.2.1 = true) => ?_) (fun (h4 : (ch.getD k zCh).2.2.1 = false) => ?_)
      · rw [bump_is h4, ← hget zA] at hset
        refine AM.run2 hG 100 (by cbv) ?_ ?_
        · (simp only [sxs, sxb, and_self, and_true, true_and, implies_true, imp_self, bne_eq_false_iff_eq, Nat.zero_add, Nat.le_refl, Int.toNat_natCast, Int.ofNat_lt, Int.natCast_nonneg, decide_eq_true_eq, decide_eq_false_iff_not, bne_iff_ne, ne_eq]; try dsimp only [Kd.T, Kds.T, AK.T, AKs.T])
          rw [List.length_set]
          exact ⟨by omega, by omega, by omega⟩
        refine AM.ren hB [0, 1, 2, 3, 4, 5, 6] (by cbv) (by cbv) (by cbv) ?_ ?_ (ih2 (k + 1, lk.set k (floorA (ch.getD k zCh).2.1 (tripA (lk.getD k zA)))) ⟨by simp only; omega, hset⟩ (by simp only; omega))
        · (simp only [sxs, sxb, and_self, and_true, true_and, implies_true, imp_self, bne_eq_false_iff_eq, Nat.zero_add, Nat.le_refl, Int.toNat_natCast, Int.ofNat_lt, Int.natCast_nonneg, decide_eq_true_eq, decide_eq_false_iff_not, bne_iff_ne, ne_eq]; try dsimp only [Kd.T, Kds.T, AK.T, AKs.T])
          rw [w64s (by omega)]
        · (simp only [sxs, sxb, and_self, and_true, true_and, implies_true, imp_self, bne_eq_false_iff_eq, Nat.zero_add, Nat.le_refl, Int.toNat_natCast, Int.ofNat_lt, Int.natCast_nonneg, decide_eq_true_eq, decide_eq_false_iff_not, bne_iff_ne, ne_eq]; try dsimp only [Kd.T, Kds.T, AK.T, AKs.T])
          exact set_twice (by omega) (tripA (lk.getD k zA)) (floorA (ch.getD k zCh).2.1) zA
      · rw [bump_no h4, ← hget zA] at hset
        refine AM.run2 hG 100 (by cbv) ?_ ?_
        · (simp only [sxs, sxb, and_self, and_true, true_and, implies_true, imp_self, bne_eq_false_iff_eq, Nat.zero_add, Nat.le_refl, Int.toNat_natCast, Int.ofNat_lt, Int.natCast_nonneg, decide_eq_true_eq, decide_eq_false_iff_not, bne_iff_ne, ne_eq]; try dsimp only [Kd.T, Kds.T, AK.T, AKs.T])
        refine AM.ren hB [0, 1, 2, 3, 4, 5, 6] (by cbv) (by cbv) (by cbv) ?_ ?_ (ih2 (k + 1, lk.set k (tripA (lk.getD k zA))) ⟨by simp only; omega, hset⟩ (by simp only; omega))
        · (simp only [sxs, sxb, and_self, and_true, true_and, implies_true, imp_self, bne_eq_false_iff_eq, Nat.zero_add, Nat.le_refl, Int.toNat_natCast, Int.ofNat_lt, Int.natCast_nonneg, decide_eq_true_eq, decide_eq_false_iff_not, bne_iff_ne, ne_eq]; try dsimp only [Kd.T, Kds.T, AK.T, AKs.T])
          rw [w64s (by omega)]
        · (simp only [sxs, sxb, and_self, and_true, true_and, implies_true, imp_self, bne_eq_false_iff_eq, Nat.zero_add, Nat.le_refl, Int.toNat_natCast, Int.ofNat_lt, Int.natCast_nonneg, decide_eq_true_eq, decide_eq_false_iff_not, bne_iff_ne, ne_eq]; try dsimp only [Kd.T, Kds.T, AK.T, AKs.T])
          rfl
    clear ih2
    obtain rfl : k = l2.length := by omega
    rw [List.take_of_length_le (by omega), List.drop_length, List.append_nil] at hlk
    subst hlk
    refine AM.run2 hG 100 (by cbv) ?_ ?_
    · (simp only [sxs, sxb, and_self, and_true, true_and, implies_true, imp_self, bne_eq_false_iff_eq, Nat.zero_add, Nat.le_refl, Int.toNat_natCast, Int.ofNat_lt, Int.natCast_nonneg, decide_eq_true_eq, decide_eq_false_iff_not, bne_iff_ne, ne_eq]; try dsimp only [Kd.T, Kds.T, AK.T, AKs.T])
    refine AM.ren hB [0, 1, 2, 6] (by cbv) (by cbv) (by cbv) ?_ ?_ (ih (i + 1, (sc, sl, ()), bumpL l2 ch, out ++ [nI sl.length]) ⟨by simp only; omega, by simp only; omega, hsl, by simp only [List.length_append, List.length_cons, List.length_nil]; omega, by rw [← he, hst, List.append_assoc]; rfl⟩ (by simp only; omega))
    · (simp only [sxs, sxb, and_self, and_true, true_and, implies_true, imp_self, bne_eq_false_iff_eq, Nat.zero_add, Nat.le_refl, Int.toNat_natCast, Int.ofNat_lt, Int.natCast_nonneg, decide_eq_true_eq, decide_eq_false_iff_not, bne_iff_ne, ne_eq]; try dsimp only [Kd.T, Kds.T, AK.T, AKs.T])
      rw [w64s (by omega)]
    · (simp only [sxs, sxb, and_self, and_true, true_and, implies_true, imp_self, bne_eq_false_iff_eq, Nat.zero_add, Nat.le_refl, Int.toNat_natCast, Int.ofNat_lt, Int.natCast_nonneg, decide_eq_true_eq, decide_eq_false_iff_not, bne_iff_ne, ne_eq]; try dsimp only [Kd.T, Kds.T, AK.T, AKs.T])
  clear ih
  obtain rfl : i = N := by omega
  rw [Nat.sub_self, planGo, List.append_nil] at he
  refine AM.run2 hG 100 (by cbv) ?_ ?_
  · (simp only [sxs, sxb, and_self, and_true, true_and, implies_true, imp_self, bne_eq_false_iff_eq, Nat.zero_add, Nat.le_refl, Int.toNat_natCast, Int.ofNat_lt, Int.natCast_nonneg, decide_eq_true_eq, decide_eq_false_iff_not, bne_iff_ne, ne_eq]; try dsimp only [Kd.T, Kds.T, AK.T, AKs.T])
  refine AM.ret2 hG (by cbv) (by (simp only [sxs, sxb, and_self, and_true, true_and, implies_true, imp_self, bne_eq_false_iff_eq, Nat.zero_add, Nat.le_refl, Int.toNat_natCast, Int.ofNat_lt, Int.natCast_nonneg, decide_eq_true_eq, decide_eq_false_iff_not, bne_iff_ne, ne_eq]; try dsimp only [Kd.T, Kds.T, AK.T, AKs.T])) (hQ _ _ (FinRo.of (by cbv) (by cbv) ?_ ?_))
  · (simp only [sxs, sxb, and_self, and_true, true_and, implies_true, imp_self, bne_eq_false_iff_eq, Nat.zero_add, Nat.le_refl, Int.toNat_natCast, Int.ofNat_lt, Int.natCast_nonneg, decide_eq_true_eq, decide_eq_false_iff_not, bne_iff_ne, ne_eq]; try dsimp only [Kd.T, Kds.T, AK.T, AKs.T])
  try (simp only [sxs, sxb, and_self, and_true, true_and, implies_true, imp_self, bne_eq_false_iff_eq, Nat.zero_add, Nat.le_refl, Int.toNat_natCast, Int.ofNat_lt, Int.natCast_nonneg, decide_eq_true_eq, decide_eq_false_iff_not, bne_iff_ne, ne_eq]; try dsimp only [Kd.T, Kds.T, AK.T, AKs.T])
  rw [planR, if_neg (by rw [c2]; decide), if_neg (by omega), hN, List.take_length]
  exact ⟨he, rfl⟩
theorem take_succG {α : Type} {l : List α} {i : Nat} (d : α) (h : i < l.length) : l.take (i + 1) = l.take i ++ [l.getD i d] := by
  rw [List.take_add_one, List.getElem?_eq_getElem h, List.getD_eq_getElem?_getD, List.getElem?_eq_getElem h]; rfl
theorem take_sameG {α : Type} (d : α) {a b : List α} {i : Nat} (he : a.take i = b.take i) (h1 : i < a.length) (h2 : i < b.length) (h3 : a.getD i d = b.getD i d) : a.take (i + 1) = b.take (i + 1) := by
  rw [take_succG d h1, take_succG d h2, he, h3]
def S21 : List AV → Option FOut := sigSpec [IntsK, IntsK] [.bool] (fun x : List Int × List Int × Unit => (decide (x.1 = x.2.1), ())) (fun x : List Int × List Int × Unit => x.1.length ≤ 1000000 ∧ x.2.1.length ≤ 1000000)
theorem fn21 : FnOk Try.prog 21 S21 := by
  refine fn_of (rs := [.tmp 4]) (env [] trivial) Try.func21 (by kernel_rfl) rfl rfl Try.ntmps21 ?_
  rintro ⟨(a : List Int), (b : List Int), u⟩ ⟨ha, hb⟩ G hG hQ
  simp only at ha hb
  refine AM.run2 hG 100 (by cbv) ?_ ?_
  · (simp only [sxs, sxb, and_self, and_true, true_and, implies_true, imp_self, bne_eq_false_iff_eq, Nat.zero_add, Nat.le_refl, Int.toNat_natCast, Int.ofNat_lt, Int.natCast_nonneg, decide_eq_true_eq, decide_eq_false_iff_not, bne_iff_ne, ne_eq]; try dsimp only [Kd.T, Kds.T, AK.T, AKs.T])
  refine AM.case 10 rfl (fun h => ?_) (fun h => ?_)
  · refine AM.run2 hG 100 (by cbv) ?_ ?_
    · (simp only [sxs, sxb, and_self, and_true, true_and, implies_true, imp_self, bne_eq_false_iff_eq, Nat.zero_add, Nat.le_refl, Int.toNat_natCast, Int.ofNat_lt, Int.natCast_nonneg, decide_eq_true_eq, decide_eq_false_iff_not, bne_iff_ne, ne_eq]; try dsimp only [Kd.T, Kds.T, AK.T, AKs.T])
    refine AM.ret2 hG (by cbv) (by (simp only [sxs, sxb, and_self, and_true, true_and, implies_true, imp_self, bne_eq_false_iff_eq, Nat.zero_add, Nat.le_refl, Int.toNat_natCast, Int.ofNat_lt, Int.natCast_nonneg, decide_eq_true_eq, decide_eq_false_iff_not, bne_iff_ne, ne_eq]; try dsimp only [Kd.T, Kds.T, AK.T, AKs.T])) (hQ _ _ (FinRo.of (by cbv) (by cbv) ?_ ?_))
    · (simp only [sxs, sxb, and_self, and_true, true_and, implies_true, imp_self, bne_eq_false_iff_eq, Nat.zero_add, Nat.le_refl, Int.toNat_natCast, Int.ofNat_lt, Int.natCast_nonneg, decide_eq_true_eq, decide_eq_false_iff_not, bne_iff_ne, ne_eq]; try dsimp only [Kd.T, Kds.T, AK.T, AKs.T])
    try (simp only [sxs, sxb, and_self, and_true, true_and, implies_true, imp_self, bne_eq_false_iff_eq, Nat.zero_add, Nat.le_refl, Int.toNat_natCast, Int.ofNat_lt, Int.natCast_nonneg, decide_eq_true_eq, decide_eq_false_iff_not, bne_iff_ne, ne_eq] at h ⊢; try dsimp only [Kd.T, Kds.T, AK.T, AKs.T] at h ⊢)
    try rw [eq_comm, decide_eq_false_iff_not]
    rintro rfl
    simp at h
  · refine AM.run2 hG 100 (by cbv) ?_ ?_
    · (simp only [sxs, sxb, and_self, and_true, true_and, implies_true, imp_self, bne_eq_false_iff_eq, Nat.zero_add, Nat.le_refl, Int.toNat_natCast, Int.ofNat_lt, Int.natCast_nonneg, decide_eq_true_eq, decide_eq_false_iff_not, bne_iff_ne, ne_eq]; try dsimp only [Kd.T, Kds.T, AK.T, AKs.T])
    refine AM.loopI (fun i : Nat => (frame 26 [(0, .ro I64 fun _ => a), (1, .ro I64 fun _ => b), (5, .int .i64 (.t fun _ => nI i))], [])) (fun i => i ≤ a.length ∧ a.take i = b.take i) (fun i => a.length - i) 0 ⟨by simp, rfl⟩ ?_ ?_ ?_
    · cbv; (simp only [sxs, sxb, and_self, and_true, true_and, implies_true, imp_self, bne_eq_false_iff_eq, Nat.zero_add, Nat.le_refl, Int.toNat_natCast, Int.ofNat_lt, Int.natCast_nonneg, decide_eq_true_eq, decide_eq_false_iff_not, bne_iff_ne, ne_eq]; try dsimp only [Kd.T, Kds.T, AK.T, AKs.T]); rfl
    · cbv
    · rintro i ⟨hi, he⟩ ih
      refine AM.run2 hG 100 (by cbv) ?_ ?_
      · (simp only [sxs, sxb, and_self, and_true, true_and, implies_true, imp_self, bne_eq_false_iff_eq, Nat.zero_add, Nat.le_refl, Int.toNat_natCast, Int.ofNat_lt, Int.natCast_nonneg, decide_eq_true_eq, decide_eq_false_iff_not, bne_iff_ne, ne_eq]; try dsimp only [Kd.T, Kds.T, AK.T, AKs.T])
      refine AM.case 14 rfl (fun h1 => ?_) (fun h1 => ?_)
      · refine AM.run2 hG 100 (by cbv) ?_ ?_
        · (simp only [sxs, sxb, and_self, and_true, true_and, implies_true, imp_self, bne_eq_false_iff_eq, Nat.zero_add, Nat.le_refl, Int.toNat_natCast, Int.ofNat_lt, Int.natCast_nonneg, decide_eq_true_eq, decide_eq_false_iff_not, bne_iff_ne, ne_eq] at h h1 ⊢; try dsimp only [Kd.T, Kds.T, AK.T, AKs.T] at h h1 ⊢)
          omega
        refine AM.case 25 rfl (fun h2 => ?_) (fun h2 => ?_)
        · have h2 : ¬ a.getD i (0 : Int) = b.getD i (0 : Int) := by
            replace h2 : neI (a.getD i (0 : Int)) (b.getD i (0 : Int)) = true := h2
            rw [neI_t] at h2
            exact h2
          refine AM.run2 hG 100 (by cbv) ?_ ?_
          · (simp only [sxs, sxb, and_self, and_true, true_and, implies_true, imp_self, bne_eq_false_iff_eq, Nat.zero_add, Nat.le_refl, Int.toNat_natCast, Int.ofNat_lt, Int.natCast_nonneg, decide_eq_true_eq, decide_eq_false_iff_not, bne_iff_ne, ne_eq]; try dsimp only [Kd.T, Kds.T, AK.T, AKs.T])
          refine AM.ret2 hG (by cbv) (by (simp only [sxs, sxb, and_self, and_true, true_and, implies_true, imp_self, bne_eq_false_iff_eq, Nat.zero_add, Nat.le_refl, Int.toNat_natCast, Int.ofNat_lt, Int.natCast_nonneg, decide_eq_true_eq, decide_eq_false_iff_not, bne_iff_ne, ne_eq]; try dsimp only [Kd.T, Kds.T, AK.T, AKs.T])) (hQ _ _ (FinRo.of (by cbv) (by cbv) ?_ ?_))
          · (simp only [sxs, sxb, and_self, and_true, true_and, implies_true, imp_self, bne_eq_false_iff_eq, Nat.zero_add, Nat.le_refl, Int.toNat_natCast, Int.ofNat_lt, Int.natCast_nonneg, decide_eq_true_eq, decide_eq_false_iff_not, bne_iff_ne, ne_eq]; try dsimp only [Kd.T, Kds.T, AK.T, AKs.T])
          try (simp only [sxs, sxb, and_self, and_true, true_and, implies_true, imp_self, bne_eq_false_iff_eq, Nat.zero_add, Nat.le_refl, Int.toNat_natCast, Int.ofNat_lt, Int.natCast_nonneg, decide_eq_true_eq, decide_eq_false_iff_not, bne_iff_ne, ne_eq] at h1 h2 ⊢; try dsimp only [Kd.T, Kds.T, AK.T, AKs.T] at h1 h2 ⊢)
          try rw [eq_comm, decide_eq_false_iff_not]
          rintro rfl
          exact h2 rfl
        · have h2 : a.getD i (0 : Int) = b.getD i (0 : Int) := by
            replace h2 : neI (a.getD i (0 : Int)) (b.getD i (0 : Int)) = false := h2
            rw [neI_f] at h2
            exact h2
          refine AM.run2 hG 100 (by cbv) ?_ ?_
          · (simp only [sxs, sxb, and_self, and_true, true_and, implies_true, imp_self, bne_eq_false_iff_eq, Nat.zero_add, Nat.le_refl, Int.toNat_natCast, Int.ofNat_lt, Int.natCast_nonneg, decide_eq_true_eq, decide_eq_false_iff_not, bne_iff_ne, ne_eq]; try dsimp only [Kd.T, Kds.T, AK.T, AKs.T])
          (simp only [sxs, sxb, and_self, and_true, true_and, implies_true, imp_self, bne_eq_false_iff_eq, Nat.zero_add, Nat.le_refl, Int.toNat_natCast, Int.ofNat_lt, Int.natCast_nonneg, decide_eq_true_eq, decide_eq_false_iff_not, bne_iff_ne, ne_eq] at h h1; try dsimp only [Kd.T, Kds.T, AK.T, AKs.T] at h h1)
          refine AM.imp2 (by cbv) (by cbv) ?_ (by (simp only [sxs, sxb, and_self, and_true, true_and, implies_true, imp_self, bne_eq_false_iff_eq, Nat.zero_add, Nat.le_refl, Int.toNat_natCast, Int.ofNat_lt, Int.natCast_nonneg, decide_eq_true_eq, decide_eq_false_iff_not, bne_iff_ne, ne_eq]; try dsimp only [Kd.T, Kds.T, AK.T, AKs.T])) (ih (i + 1) ⟨by omega, take_sameG (0 : Int) he h1 (by omega) h2⟩ (by omega))
          (simp only [sxs, sxb, and_self, and_true, true_and, implies_true, imp_self, bne_eq_false_iff_eq, Nat.zero_add, Nat.le_refl, Int.toNat_natCast, Int.ofNat_lt, Int.natCast_nonneg, decide_eq_true_eq, decide_eq_false_iff_not, bne_iff_ne, ne_eq]; try dsimp only [Kd.T, Kds.T, AK.T, AKs.T])
          rw [w64s (by omega)]
      · refine AM.run2 hG 100 (by cbv) ?_ ?_
        · (simp only [sxs, sxb, and_self, and_true, true_and, implies_true, imp_self, bne_eq_false_iff_eq, Nat.zero_add, Nat.le_refl, Int.toNat_natCast, Int.ofNat_lt, Int.natCast_nonneg, decide_eq_true_eq, decide_eq_false_iff_not, bne_iff_ne, ne_eq]; try dsimp only [Kd.T, Kds.T, AK.T, AKs.T])
        refine AM.ret2 hG (by cbv) (by (simp only [sxs, sxb, and_self, and_true, true_and, implies_true, imp_self, bne_eq_false_iff_eq, Nat.zero_add, Nat.le_refl, Int.toNat_natCast, Int.ofNat_lt, Int.natCast_nonneg, decide_eq_true_eq, decide_eq_false_iff_not, bne_iff_ne, ne_eq]; try dsimp only [Kd.T, Kds.T, AK.T, AKs.T])) (hQ _ _ (FinRo.of (by cbv) (by cbv) ?_ ?_))
        · (simp only [sxs, sxb, and_self, and_true, true_and, implies_true, imp_self, bne_eq_false_iff_eq, Nat.zero_add, Nat.le_refl, Int.toNat_natCast, Int.ofNat_lt, Int.natCast_nonneg, decide_eq_true_eq, decide_eq_false_iff_not, bne_iff_ne, ne_eq]; try dsimp only [Kd.T, Kds.T, AK.T, AKs.T])
        try (simp only [sxs, sxb, and_self, and_true, true_and, implies_true, imp_self, bne_eq_false_iff_eq, Nat.zero_add, Nat.le_refl, Int.toNat_natCast, Int.ofNat_lt, Int.natCast_nonneg, decide_eq_true_eq, decide_eq_false_iff_not, bne_iff_ne, ne_eq] at h h1 ⊢; try dsimp only [Kd.T, Kds.T, AK.T, AKs.T] at h h1 ⊢)
        clear ih
        try rw [eq_comm, decide_eq_true_eq]
        rwa [List.take_of_length_le (by omega), List.take_of_length_le (by omega)] at he
end Go.Sx.Ytaijdhocmjnopaa
