/- V5 V6 V7, joined. -/
import Derived.Test.YtaijdhocmjnopaaVA
import Derived.Test.YtaijdhocmjnopaaSx34
namespace Go.Sx.Ytaijdhocmjnopaa
open Go Go.Sx Go.Proofs
set_option linter.unusedVariables false
set_option linter.unusedSimpArgs false
set_option maxRecDepth 100000

abbrev byC (x : Choice) : Call := x.2.2.2.1
def timesP (c : Call) (x : Choice) : Bool := if neI (byC x).1 0 = true then sameB (byC x) c else false
def timesR (l : List Choice) (c : Call) : Nat := l.countP (timesP c)
def pickN (ch : List Choice) (a b : Int) (c : Call) : Bool := if (if hallN c = true then leI a (nI (timesR ch c)) else false) = true then leI (nI (timesR ch c)) b else false
def chosenR (t : Table) (l : List Ask) (a b : Int) : List Call × Int := if (allR t l).2 ≠ 0 then ([], (allR t l).2) else (t.2.1.filter (pickN (allR t l).1 a b), 0)
theorem countP_step {α : Type} (p : α → Bool) (d : α) {l : List α} {i : Nat} (h : i < l.length) : (l.take (i + 1)).countP p = (l.take i).countP p + (if p (l.getD i d) = true then 1 else 0) := by
  rw [List.take_add_one, List.getElem?_eq_getElem h, List.getD_eq_getElem?_getD, List.getElem?_eq_getElem h, List.countP_append]
  simp only [Option.toList, Option.getD_some, List.countP_cons, List.countP_nil, Nat.zero_add]
theorem countP_le {α : Type} (p : α → Bool) (l : List α) (i : Nat) : (l.take i).countP p ≤ i := by
  have := List.countP_le_length (p := p) (l := l.take i)
  rw [List.length_take] at this
  omega
def S39 : List AV → Option FOut := sigSpec [CallK, CallK] [.bool] (fun x : Call × Call × Unit => (sameB x.1 x.2.1, ())) (fun _ => True)
theorem fn39 : FnOk Try.prog 39 S39 := by
  refine fn_of (rs := [.tmp 4]) (env [] trivial) Try.func39 (by kernel_rfl) rfl rfl Try.ntmps39 ?_
  rintro ⟨⟨(a : Int), (b : Int), (c : Int), (d : Int), ⟨⟩⟩, ⟨(a2 : Int), (b2 : Int), (c2 : Int), (d2 : Int), ⟨⟩⟩, u3⟩ _ G hG hQ
  refine AM.run2 hG 100 (by cbv) ?_ ?_
  · (simp only [sxs, sxb, and_self, and_true, true_and, implies_true, imp_self, bne_eq_false_iff_eq, Nat.zero_add, Nat.le_refl, Int.toNat_natCast, Int.ofNat_lt, Int.natCast_nonneg, decide_eq_true_eq, decide_eq_false_iff_not, bne_iff_ne, ne_eq]; try dsimp only [Kd.T, Kds.T, AK.T, AKs.T])
    try exact fun a b => ⟨a, b⟩
  refine AM.ret2 hG (by cbv) (by (simp only [sxs, sxb, and_self, and_true, true_and, implies_true, imp_self, bne_eq_false_iff_eq, Nat.zero_add, Nat.le_refl, Int.toNat_natCast, Int.ofNat_lt, Int.natCast_nonneg, decide_eq_true_eq, decide_eq_false_iff_not, bne_iff_ne, ne_eq]; try dsimp only [Kd.T, Kds.T, AK.T, AKs.T])) (hQ _ _ (FinRo.of (by cbv) (by cbv) ?_ ?_))
  · (simp only [sxs, sxb, and_self, and_true, true_and, implies_true, imp_self, bne_eq_false_iff_eq, Nat.zero_add, Nat.le_refl, Int.toNat_natCast, Int.ofNat_lt, Int.natCast_nonneg, decide_eq_true_eq, decide_eq_false_iff_not, bne_iff_ne, ne_eq]; try dsimp only [Kd.T, Kds.T, AK.T, AKs.T])
  try (simp only [sxs, sxb, and_self, and_true, true_and, implies_true, imp_self, bne_eq_false_iff_eq, Nat.zero_add, Nat.le_refl, Int.toNat_natCast, Int.ofNat_lt, Int.natCast_nonneg, decide_eq_true_eq, decide_eq_false_iff_not, bne_iff_ne, ne_eq]; try dsimp only [Kd.T, Kds.T, AK.T, AKs.T])
  by_cases e1 : a = a2 <;> by_cases e2 : b = b2 <;> by_cases e3 : c = c2 <;> simp [sameB, eqI, e1, e2, e3]
def S78 : List AV → Option FOut := sigSpec [ChoicesK, CallK] [I64] (fun x : List Choice × Call × Unit => (nI (timesR x.1 x.2.1), ())) (fun x : List Choice × Call × Unit => x.1.length ≤ 1000000)
theorem fn78 : FnOk Try.prog 78 S78 := by
  refine fn_ofB (rs := [.tmp 4]) (env [(39, S39)] ⟨fn39, trivial⟩) Try.func78 (by kernel_rfl) rfl rfl Try.ntmps78 ?_
  rintro ⟨(l : List Choice), ⟨(a : Int), (b : Int), (c : Int), (d : Int), ⟨⟩⟩, u3⟩ hl G hG hB hQ
  have hB := GB.of hB
  simp only at hl
  refine AM.run2 hG 100 (by cbv) ?_ ?_
  · (simp only [sxs, sxb, and_self, and_true, true_and, implies_true, imp_self, bne_eq_false_iff_eq, Nat.zero_add, Nat.le_refl, Int.toNat_natCast, Int.ofNat_lt, Int.natCast_nonneg, decide_eq_true_eq, decide_eq_false_iff_not, bne_iff_ne, ne_eq]; try dsimp only [Kd.T, Kds.T, AK.T, AKs.T])
  refine AM.loopI (fun z : Nat × Nat => (frame 32 [(0, .ro ChoiceK fun _ => l), (3, .ptr 0 0), (5, .int .i64 (.t fun _ => nI z.2)), (6, .int .i64 (.t fun _ => nI z.1))], [.box 38 (cAt (a, b, c, d, ()))]))
    (fun z => z.1 ≤ l.length ∧ z.2 = (l.take z.1).countP (timesP (a, b, c, d, ()))) (fun z => l.length - z.1) (0, 0) ⟨by simp, by simp⟩ ?_ ?_ ?_
  · cbv; (simp only [sxs, sxb, and_self, and_true, true_and, implies_true, imp_self, bne_eq_false_iff_eq, Nat.zero_add, Nat.le_refl, Int.toNat_natCast, Int.ofNat_lt, Int.natCast_nonneg, decide_eq_true_eq, decide_eq_false_iff_not, bne_iff_ne, ne_eq]; try dsimp only [Kd.T, Kds.T, AK.T, AKs.T]); all_goals ((repeat' apply And.intro) <;> first | rfl | assumption | exact trivial)
  · cbv; (simp only [sxs, sxb, and_self, and_true, true_and, implies_true, imp_self, bne_eq_false_iff_eq, Nat.zero_add, Nat.le_refl, Int.toNat_natCast, Int.ofNat_lt, Int.natCast_nonneg, decide_eq_true_eq, decide_eq_false_iff_not, bne_iff_ne, ne_eq]; try dsimp only [Kd.T, Kds.T, AK.T, AKs.T]); all_goals ((repeat' apply And.intro) <;> first | rfl | assumption | exact trivial)
  rintro ⟨i, m⟩ ⟨hi, hm⟩ ih
  simp only at hi hm
  have hml := countP_le (timesP (a, b, c, d, ())) l i
  refine AM.run2 hG 100 (by cbv) ?_ ?_
  · (simp only [sxs, sxb, and_self, and_true, true_and, implies_true, imp_self, bne_eq_false_iff_eq, Nat.zero_add, Nat.le_refl, Int.toNat_natCast, Int.ofNat_lt, Int.natCast_nonneg, decide_eq_true_eq, decide_eq_false_iff_not, bne_iff_ne, ne_eq]; try dsimp only [Kd.T, Kds.T, AK.T, AKs.T])
  refine AM.case 10 rfl (fun h => ?_) (fun h => ?_) <;> (simp only [sxs, sxb, and_self, and_true, true_and, implies_true, imp_self, bne_eq_false_iff_eq, Nat.zero_add, Nat.le_refl, Int.toNat_natCast, Int.ofNat_lt, Int.natCast_nonneg, decide_eq_true_eq, decide_eq_false_iff_not, bne_iff_ne, ne_eq] at h; try dsimp only [Kd.T, Kds.T, AK.T, AKs.T] at h)
  · have hnext := countP_step (timesP (a, b, c, d, ())) zCh h
    rw [← hm] at hnext
    refine AM.run2 hG 100 (by cbv) ?_ ?_
    · (simp only [sxs, sxb, and_self, and_true, true_and, implies_true, imp_self, bne_eq_false_iff_eq, Nat.zero_add, Nat.le_refl, Int.toNat_natCast, Int.ofNat_lt, Int.natCast_nonneg, decide_eq_true_eq, decide_eq_false_iff_not, bne_iff_ne, ne_eq]; try dsimp only [Kd.T, Kds.T, AK.T, AKs.T])
      exact ⟨h, h, fun _ => h⟩
    refine AM.case 28 rfl (fun (h1 : timesP (a, b, c, d, ()) (l.getD i zCh) = true) => ?_) (fun (h1 : timesP (a, b, c, d, ()) (l.getD i zCh) = false) => ?_)
    · rw [if_pos h1] at hnext
      refine AM.run2 hG 100 (by cbv) ?_ ?_
      · (simp only [sxs, sxb, and_self, and_true, true_and, implies_true, imp_self, bne_eq_false_iff_eq, Nat.zero_add, Nat.le_refl, Int.toNat_natCast, Int.ofNat_lt, Int.natCast_nonneg, decide_eq_true_eq, decide_eq_false_iff_not, bne_iff_ne, ne_eq]; try dsimp only [Kd.T, Kds.T, AK.T, AKs.T])
      refine AM.imp2 (by cbv) (by cbv) ?_ (by (simp only [sxs, sxb, and_self, and_true, true_and, implies_true, imp_self, bne_eq_false_iff_eq, Nat.zero_add, Nat.le_refl, Int.toNat_natCast, Int.ofNat_lt, Int.natCast_nonneg, decide_eq_true_eq, decide_eq_false_iff_not, bne_iff_ne, ne_eq]; try dsimp only [Kd.T, Kds.T, AK.T, AKs.T])) (ih (i + 1, m + 1) ⟨by simp only; omega, hnext.symm⟩ (by simp only; omega))
      (simp only [sxs, sxb, and_self, and_true, true_and, implies_true, imp_self, bne_eq_false_iff_eq, Nat.zero_add, Nat.le_refl, Int.toNat_natCast, Int.ofNat_lt, Int.natCast_nonneg, decide_eq_true_eq, decide_eq_false_iff_not, bne_iff_ne, ne_eq]; try dsimp only [Kd.T, Kds.T, AK.T, AKs.T])
      rw [w64s (by omega), w64s (by omega)]
      exact ⟨rfl, rfl⟩
    · rw [if_neg (by rw [h1]; decide)] at hnext
      refine AM.run2 hG 100 (by cbv) ?_ ?_
      · (simp only [sxs, sxb, and_self, and_true, true_and, implies_true, imp_self, bne_eq_false_iff_eq, Nat.zero_add, Nat.le_refl, Int.toNat_natCast, Int.ofNat_lt, Int.natCast_nonneg, decide_eq_true_eq, decide_eq_false_iff_not, bne_iff_ne, ne_eq]; try dsimp only [Kd.T, Kds.T, AK.T, AKs.T])
      refine AM.imp2 (by cbv) (by cbv) ?_ (by (simp only [sxs, sxb, and_self, and_true, true_and, implies_true, imp_self, bne_eq_false_iff_eq, Nat.zero_add, Nat.le_refl, Int.toNat_natCast, Int.ofNat_lt, Int.natCast_nonneg, decide_eq_true_eq, decide_eq_false_iff_not, bne_iff_ne, ne_eq]; try dsimp only [Kd.T, Kds.T, AK.T, AKs.T])) (ih (i + 1, m) ⟨by simp only; omega, hnext.symm⟩ (by simp only; omega))
      (simp only [sxs, sxb, and_self, and_true, true_and, implies_true, imp_self, bne_eq_false_iff_eq, Nat.zero_add, Nat.le_refl, Int.toNat_natCast, Int.ofNat_lt, Int.natCast_nonneg, decide_eq_true_eq, decide_eq_false_iff_not, bne_iff_ne, ne_eq]; try dsimp only [Kd.T, Kds.T, AK.T, AKs.T])
      rw [w64s (by omega)]
  clear ih
  rw [List.take_of_length_le (by omega)] at hm
  refine AM.run2 hG 100 (by cbv) ?_ ?_
  · (simp only [sxs, sxb, and_self, and_true, true_and, implies_true, imp_self, bne_eq_false_iff_eq, Nat.zero_add, Nat.le_refl, Int.toNat_natCast, Int.ofNat_lt, Int.natCast_nonneg, decide_eq_true_eq, decide_eq_false_iff_not, bne_iff_ne, ne_eq]; try dsimp only [Kd.T, Kds.T, AK.T, AKs.T])
  refine AM.ret2 hG (by cbv) (by (simp only [sxs, sxb, and_self, and_true, true_and, implies_true, imp_self, bne_eq_false_iff_eq, Nat.zero_add, Nat.le_refl, Int.toNat_natCast, Int.ofNat_lt, Int.natCast_nonneg, decide_eq_true_eq, decide_eq_false_iff_not, bne_iff_ne, ne_eq]; try dsimp only [Kd.T, Kds.T, AK.T, AKs.T])) (hQ _ _ (FinRo.of (by cbv) (by cbv) ?_ ?_))
  · (simp only [sxs, sxb, and_self, and_true, true_and, implies_true, imp_self, bne_eq_false_iff_eq, Nat.zero_add, Nat.le_refl, Int.toNat_natCast, Int.ofNat_lt, Int.natCast_nonneg, decide_eq_true_eq, decide_eq_false_iff_not, bne_iff_ne, ne_eq]; try dsimp only [Kd.T, Kds.T, AK.T, AKs.T])
  try (simp only [sxs, sxb, and_self, and_true, true_and, implies_true, imp_self, bne_eq_false_iff_eq, Nat.zero_add, Nat.le_refl, Int.toNat_natCast, Int.ofNat_lt, Int.natCast_nonneg, decide_eq_true_eq, decide_eq_false_iff_not, bne_iff_ne, ne_eq]; try dsimp only [Kd.T, Kds.T, AK.T, AKs.T])
  rw [hm]
  rfl
def S57 : List AV → Option FOut := sigSpec [TableK, AsksK, I64, I64] [CallsK, I64] (fun x : Table × List Ask × Int × Int × Unit => ((chosenR x.1 x.2.1 x.2.2.1 x.2.2.2.1).1, (chosenR x.1 x.2.1 x.2.2.1 x.2.2.2.1).2, ())) (fun x : Table × List Ask × Int × Int × Unit => x.1.2.1.length ≤ 1000000 ∧ x.2.1.length ≤ 1000)
set_option maxHeartbeats 8000000 in
theorem fn57 : FnOk Try.prog 57 S57 := by
  refine fn_ofB (rs := [.tmp 8, .tmp 9]) (env [(28, S28), (78, S78), (59, S59)] ⟨fn28, fn78, fn59, trivial⟩) Try.func57 (by kernel_rfl) rfl rfl Try.ntmps57 ?_
  rintro ⟨⟨(cap : Int), (cs : List Call), ⟨⟩⟩, (l : List Ask), (a : Int), (b : Int), u2⟩ ⟨hc, hl⟩ G hG hB hQ
  have hB := GB.of hB
  simp only at hc hl
  have hlen := allR_len (cap, cs, ()) l
  obtain ⟨ch, e, hall⟩ : ∃ ch e, allR (cap, cs, ()) l = (ch, e) := ⟨_, _, rfl⟩
  have hres : chosenR (cap, cs, ()) l a b = if e ≠ 0 then ([], e) else (cs.filter (pickN ch a b), 0) := by rw [chosenR, hall]
  rw [hall] at hlen
  simp only at hlen
  refine AM.runTo2 hG 21 100 (by cbv) ?_ ?_
  · (simp only [sxs, sxb, and_self, and_true, true_and, implies_true, imp_self, bne_eq_false_iff_eq, Nat.zero_add, Nat.le_refl, Int.toNat_natCast, Int.ofNat_lt, Int.natCast_nonneg, decide_eq_true_eq, decide_eq_false_iff_not, bne_iff_ne, ne_eq]; try dsimp only [Kd.T, Kds.T, AK.T, AKs.T])
    exact ⟨hc, hl⟩
  refine AM.imp2 (fr' := frame 63 [(2, .int .i64 (.t fun _ => a)), (3, .int .i64 (.t fun _ => b)), (4, .ptr 0 0), (8, .nils), (9, .int .i64 (.l 0)), (10, .ro ChoiceK fun _ => ch), (11, .int .i64 (.t fun _ => e))])
    (h' := [.box 25 [.int .i64 (.t fun _ => cap), .ro CallK fun _ => cs]]) (by cbv) (by cbv) ?_ ?_ ?_
  · (simp only [sxs, sxb, and_self, and_true, true_and, implies_true, imp_self, bne_eq_false_iff_eq, Nat.zero_add, Nat.le_refl, Int.toNat_natCast, Int.ofNat_lt, Int.natCast_nonneg, decide_eq_true_eq, decide_eq_false_iff_not, bne_iff_ne, ne_eq]; try dsimp only [Kd.T, Kds.T, AK.T, AKs.T])
    rw [hall]
    exact ⟨rfl, rfl⟩
  · (simp only [sxs, sxb, and_self, and_true, true_and, implies_true, imp_self, bne_eq_false_iff_eq, Nat.zero_add, Nat.le_refl, Int.toNat_natCast, Int.ofNat_lt, Int.natCast_nonneg, decide_eq_true_eq, decide_eq_false_iff_not, bne_iff_ne, ne_eq]; try dsimp only [Kd.T, Kds.T, AK.T, AKs.T])
  refine AM.run2 hG 100 (by cbv) ?_ ?_
  · (simp only [sxs, sxb, and_self, and_true, true_and, implies_true, imp_self, bne_eq_false_iff_eq, Nat.zero_add, Nat.le_refl, Int.toNat_natCast, Int.ofNat_lt, Int.natCast_nonneg, decide_eq_true_eq, decide_eq_false_iff_not, bne_iff_ne, ne_eq]; try dsimp only [Kd.T, Kds.T, AK.T, AKs.T])
  refine AM.case 22 rfl (fun h => ?_) (fun h => ?_) <;> (simp only [sxs, sxb, and_self, and_true, true_and, implies_true, imp_self, bne_eq_false_iff_eq, Nat.zero_add, Nat.le_refl, Int.toNat_natCast, Int.ofNat_lt, Int.natCast_nonneg, decide_eq_true_eq, decide_eq_false_iff_not, bne_iff_ne, ne_eq] at h; try dsimp only [Kd.T, Kds.T, AK.T, AKs.T] at h)
  · refine AM.run2 hG 100 (by cbv) ?_ ?_
    · (simp only [sxs, sxb, and_self, and_true, true_and, implies_true, imp_self, bne_eq_false_iff_eq, Nat.zero_add, Nat.le_refl, Int.toNat_natCast, Int.ofNat_lt, Int.natCast_nonneg, decide_eq_true_eq, decide_eq_false_iff_not, bne_iff_ne, ne_eq]; try dsimp only [Kd.T, Kds.T, AK.T, AKs.T])
    refine AM.ret2 hG (by cbv) (by (simp only [sxs, sxb, and_self, and_true, true_and, implies_true, imp_self, bne_eq_false_iff_eq, Nat.zero_add, Nat.le_refl, Int.toNat_natCast, Int.ofNat_lt, Int.natCast_nonneg, decide_eq_true_eq, decide_eq_false_iff_not, bne_iff_ne, ne_eq]; try dsimp only [Kd.T, Kds.T, AK.T, AKs.T])) (hQ _ _ (FinRo.of (by cbv) (by cbv) ?_ ?_))
    · (simp only [sxs, sxb, and_self, and_true, true_and, implies_true, imp_self, bne_eq_false_iff_eq, Nat.zero_add, Nat.le_refl, Int.toNat_natCast, Int.ofNat_lt, Int.natCast_nonneg, decide_eq_true_eq, decide_eq_false_iff_not, bne_iff_ne, ne_eq]; try dsimp only [Kd.T, Kds.T, AK.T, AKs.T])
    try (simp only [sxs, sxb, and_self, and_true, true_and, implies_true, imp_self, bne_eq_false_iff_eq, Nat.zero_add, Nat.le_refl, Int.toNat_natCast, Int.ofNat_lt, Int.natCast_nonneg, decide_eq_true_eq, decide_eq_false_iff_not, bne_iff_ne, ne_eq]; try dsimp only [Kd.T, Kds.T, AK.T, AKs.T])
    rw [hres, if_pos h]
    exact ⟨rfl, rfl⟩
  refine AM.run2 hG 100 (by cbv) ?_ ?_
  · (simp only [sxs, sxb, and_self, and_true, true_and, implies_true, imp_self, bne_eq_false_iff_eq, Nat.zero_add, Nat.le_refl, Int.toNat_natCast, Int.ofNat_lt, Int.natCast_nonneg, decide_eq_true_eq, decide_eq_false_iff_not, bne_iff_ne, ne_eq]; try dsimp only [Kd.T, Kds.T, AK.T, AKs.T])
  refine AM.emptySlot 12 38 CallK rfl ?_
  refine AM.loopI (fun z : Nat × List Call => (frame 63 [(2, .int .i64 (.t fun _ => a)), (3, .int .i64 (.t fun _ => b)), (4, .ptr 0 0), (10, .ro ChoiceK fun _ => ch), (12, .sl 1 4 (.l 0) (.t fun _ => z.2.length)), (13, .int .i64 (.t fun _ => nI z.1))],
    [.box 25 [.int .i64 (.t fun _ => cap), .ro CallK fun _ => cs], .row 38 CallK (fun _ => z.2)]))
    (fun z => z.1 ≤ cs.length ∧ z.2.length ≤ z.1 ∧ z.2 = (cs.take z.1).filter (pickN ch a b)) (fun z => cs.length - z.1) (0, []) ⟨by simp, by simp, by simp⟩ ?_ ?_ ?_
  · cbv; (simp only [sxs, sxb, and_self, and_true, true_and, implies_true, imp_self, bne_eq_false_iff_eq, Nat.zero_add, Nat.le_refl, Int.toNat_natCast, Int.ofNat_lt, Int.natCast_nonneg, decide_eq_true_eq, decide_eq_false_iff_not, bne_iff_ne, ne_eq]; try dsimp only [Kd.T, Kds.T, AK.T, AKs.T]); all_goals ((repeat' apply And.intro) <;> first | rfl | assumption | exact trivial)
  · cbv; (simp only [sxs, sxb, and_self, and_true, true_and, implies_true, imp_self, bne_eq_false_iff_eq, Nat.zero_add, Nat.le_refl, Int.toNat_natCast, Int.ofNat_lt, Int.natCast_nonneg, decide_eq_true_eq, decide_eq_false_iff_not, bne_iff_ne, ne_eq]; try dsimp only [Kd.T, Kds.T, AK.T, AKs.T]); all_goals ((repeat' apply And.intro) <;> first | rfl | assumption | exact trivial)
  rintro ⟨i, m⟩ ⟨hi, hm, he⟩ ih
  simp only at hi hm he
  refine AM.run2 hG 100 (by cbv) ?_ ?_
  · (simp only [sxs, sxb, and_self, and_true, true_and, implies_true, imp_self, bne_eq_false_iff_eq, Nat.zero_add, Nat.le_refl, Int.toNat_natCast, Int.ofNat_lt, Int.natCast_nonneg, decide_eq_true_eq, decide_eq_false_iff_not, bne_iff_ne, ne_eq]; try dsimp only [Kd.T, Kds.T, AK.T, AKs.T])
  refine AM.case 28 rfl (fun h2 => ?_) (fun h2 => ?_) <;> (simp only [sxs, sxb, and_self, and_true, true_and, implies_true, imp_self, bne_eq_false_iff_eq, Nat.zero_add, Nat.le_refl, Int.toNat_natCast, Int.ofNat_lt, Int.natCast_nonneg, decide_eq_true_eq, decide_eq_false_iff_not, bne_iff_ne, ne_eq] at h2; try dsimp only [Kd.T, Kds.T, AK.T, AKs.T] at h2)
  · have hnext : (cs.take (i + 1)).filter (pickN ch a b) = m ++ (if pickN ch a b (cs.getD i zc) = true then [cs.getD i zc] else []) := by
      rw [take_succD h2, List.filter_append, ← he]
      congr 1
      by_cases hq : pickN ch a b (cs.getD i zc) = true
      · rw [if_pos hq, List.filter_cons_of_pos hq]; rfl
      · rw [if_neg hq, List.filter_cons_of_neg hq]; rfl
    refine AM.run2 hG 100 (by cbv) ?_ ?_
    · (simp only [sxs, sxb, and_self, and_true, true_and, implies_true, imp_self, bne_eq_false_iff_eq, Nat.zero_add, Nat.le_refl, Int.toNat_natCast, Int.ofNat_lt, Int.natCast_nonneg, decide_eq_true_eq, decide_eq_false_iff_not, bne_iff_ne, ne_eq]; try dsimp only [Kd.T, Kds.T, AK.T, AKs.T])
      exact ⟨h2, h2, by omega, h2⟩
    refine AM.case 53 rfl (fun (h3 : pickN ch a b (cs.getD i zc) = true) => ?_) (fun (h3 : pickN ch a b (cs.getD i zc) = false) => ?_)
    · rw [if_pos h3] at hnext
      refine AM.run2 hG 100 (by cbv) ?_ ?_
      · (simp only [sxs, sxb, and_self, and_true, true_and, implies_true, imp_self, bne_eq_false_iff_eq, Nat.zero_add, Nat.le_refl, Int.toNat_natCast, Int.ofNat_lt, Int.natCast_nonneg, decide_eq_true_eq, decide_eq_false_iff_not, bne_iff_ne, ne_eq]; try dsimp only [Kd.T, Kds.T, AK.T, AKs.T])
        simp only [maxLen, List.length_take, List.length_cons, List.length_nil]
        omega
      refine AM.ren hB [0, 3] (by cbv) (by cbv) (by cbv) ?_ ?_ (ih (i + 1, m ++ [cs.getD i zc]) ⟨by simp only; omega, by simp only [List.length_append, List.length_cons, List.length_nil]; omega, hnext.symm⟩ (by simp only; omega))
      · (simp only [sxs, sxb, and_self, and_true, true_and, implies_true, imp_self, bne_eq_false_iff_eq, Nat.zero_add, Nat.le_refl, Int.toNat_natCast, Int.ofNat_lt, Int.natCast_nonneg, decide_eq_true_eq, decide_eq_false_iff_not, bne_iff_ne, ne_eq]; try dsimp only [Kd.T, Kds.T, AK.T, AKs.T])
        rw [List.length_append, w64s (by omega)]
        exact ⟨rfl, rfl⟩
      · (simp only [sxs, sxb, and_self, and_true, true_and, implies_true, imp_self, bne_eq_false_iff_eq, Nat.zero_add, Nat.le_refl, Int.toNat_natCast, Int.ofNat_lt, Int.natCast_nonneg, decide_eq_true_eq, decide_eq_false_iff_not, bne_iff_ne, ne_eq]; try dsimp only [Kd.T, Kds.T, AK.T, AKs.T])
        exact rfl
    · rw [if_neg (by rw [h3]; decide), List.append_nil] at hnext
      refine AM.run2 hG 100 (by cbv) ?_ ?_
      · (simp only [sxs, sxb, and_self, and_true, true_and, implies_true, imp_self, bne_eq_false_iff_eq, Nat.zero_add, Nat.le_refl, Int.toNat_natCast, Int.ofNat_lt, Int.natCast_nonneg, decide_eq_true_eq, decide_eq_false_iff_not, bne_iff_ne, ne_eq]; try dsimp only [Kd.T, Kds.T, AK.T, AKs.T])
      refine AM.ren hB [0, 1] (by cbv) (by cbv) (by cbv) ?_ ?_ (ih (i + 1, m) ⟨by simp only; omega, by simp only; omega, hnext.symm⟩ (by simp only; omega))
      · (simp only [sxs, sxb, and_self, and_true, true_and, implies_true, imp_self, bne_eq_false_iff_eq, Nat.zero_add, Nat.le_refl, Int.toNat_natCast, Int.ofNat_lt, Int.natCast_nonneg, decide_eq_true_eq, decide_eq_false_iff_not, bne_iff_ne, ne_eq]; try dsimp only [Kd.T, Kds.T, AK.T, AKs.T])
        rw [w64s (by omega)]
      · (simp only [sxs, sxb, and_self, and_true, true_and, implies_true, imp_self, bne_eq_false_iff_eq, Nat.zero_add, Nat.le_refl, Int.toNat_natCast, Int.ofNat_lt, Int.natCast_nonneg, decide_eq_true_eq, decide_eq_false_iff_not, bne_iff_ne, ne_eq]; try dsimp only [Kd.T, Kds.T, AK.T, AKs.T])
  clear ih
  rw [List.take_of_length_le (by omega)] at he
  refine AM.run2 hG 100 (by cbv) ?_ ?_
  · (simp only [sxs, sxb, and_self, and_true, true_and, implies_true, imp_self, bne_eq_false_iff_eq, Nat.zero_add, Nat.le_refl, Int.toNat_natCast, Int.ofNat_lt, Int.natCast_nonneg, decide_eq_true_eq, decide_eq_false_iff_not, bne_iff_ne, ne_eq]; try dsimp only [Kd.T, Kds.T, AK.T, AKs.T])
  refine AM.ret2 hG (by cbv) (by (simp only [sxs, sxb, and_self, and_true, true_and, implies_true, imp_self, bne_eq_false_iff_eq, Nat.zero_add, Nat.le_refl, Int.toNat_natCast, Int.ofNat_lt, Int.natCast_nonneg, decide_eq_true_eq, decide_eq_false_iff_not, bne_iff_ne, ne_eq]; try dsimp only [Kd.T, Kds.T, AK.T, AKs.T])) (hQ _ _ (FinRo.of (by cbv) (by cbv) ?_ ?_))
  · (simp only [sxs, sxb, and_self, and_true, true_and, implies_true, imp_self, bne_eq_false_iff_eq, Nat.zero_add, Nat.le_refl, Int.toNat_natCast, Int.ofNat_lt, Int.natCast_nonneg, decide_eq_true_eq, decide_eq_false_iff_not, bne_iff_ne, ne_eq]; try dsimp only [Kd.T, Kds.T, AK.T, AKs.T])
  try (simp only [sxs, sxb, and_self, and_true, true_and, implies_true, imp_self, bne_eq_false_iff_eq, Nat.zero_add, Nat.le_refl, Int.toNat_natCast, Int.ofNat_lt, Int.natCast_nonneg, decide_eq_true_eq, decide_eq_false_iff_not, bne_iff_ne, ne_eq]; try dsimp only [Kd.T, Kds.T, AK.T, AKs.T])
  rw [List.take_length, hres, if_neg (by rw [h]; decide)]
  exact ⟨he, rfl⟩
def leftR (t : Table) (l : List Ask) : List Call × Int := chosenR t l 0 0
def twiceR (t : Table) (l : List Ask) : List Call × Int := chosenR t l 2 8
def S30 : List AV → Option FOut := sigSpec [TableK, AsksK] [CallsK, I64] (fun x : Table × List Ask × Unit => ((leftR x.1 x.2.1).1, (leftR x.1 x.2.1).2, ())) (fun x : Table × List Ask × Unit => x.1.2.1.length ≤ 1000000 ∧ x.2.1.length ≤ 1000)
theorem fn30 : FnOk Try.prog 30 S30 := by
  refine fn_of (rs := [.tmp 4, .tmp 5]) (env [(57, S57)] ⟨fn57, trivial⟩) Try.func30 (by kernel_rfl) rfl rfl Try.ntmps30 ?_
  rintro ⟨⟨(cap : Int), (cs : List Call), ⟨⟩⟩, (l : List Ask), u2⟩ ⟨hc, hl⟩ G hG hQ
  simp only at hc hl
  refine AM.run2 hG 100 (by cbv) ?_ ?_
  · (simp only [sxs, sxb, and_self, and_true, true_and, implies_true, imp_self, bne_eq_false_iff_eq, Nat.zero_add, Nat.le_refl, Int.toNat_natCast, Int.ofNat_lt, Int.natCast_nonneg, decide_eq_true_eq, decide_eq_false_iff_not, bne_iff_ne, ne_eq]; try dsimp only [Kd.T, Kds.T, AK.T, AKs.T])
    exact ⟨hc, hl⟩
  refine AM.ret2 hG (by cbv) (by (simp only [sxs, sxb, and_self, and_true, true_and, implies_true, imp_self, bne_eq_false_iff_eq, Nat.zero_add, Nat.le_refl, Int.toNat_natCast, Int.ofNat_lt, Int.natCast_nonneg, decide_eq_true_eq, decide_eq_false_iff_not, bne_iff_ne, ne_eq]; try dsimp only [Kd.T, Kds.T, AK.T, AKs.T])) (hQ _ _ (FinRo.of (by cbv) (by cbv) ?_ ?_))
  · (simp only [sxs, sxb, and_self, and_true, true_and, implies_true, imp_self, bne_eq_false_iff_eq, Nat.zero_add, Nat.le_refl, Int.toNat_natCast, Int.ofNat_lt, Int.natCast_nonneg, decide_eq_true_eq, decide_eq_false_iff_not, bne_iff_ne, ne_eq]; try dsimp only [Kd.T, Kds.T, AK.T, AKs.T])
  try (simp only [sxs, sxb, and_self, and_true, true_and, implies_true, imp_self, bne_eq_false_iff_eq, Nat.zero_add, Nat.le_refl, Int.toNat_natCast, Int.ofNat_lt, Int.natCast_nonneg, decide_eq_true_eq, decide_eq_false_iff_not, bne_iff_ne, ne_eq]; try dsimp only [Kd.T, Kds.T, AK.T, AKs.T])
  exact ⟨rfl, rfl⟩
def S31 : List AV → Option FOut := sigSpec [TableK, AsksK] [CallsK, I64] (fun x : Table × List Ask × Unit => ((twiceR x.1 x.2.1).1, (twiceR x.1 x.2.1).2, ())) (fun x : Table × List Ask × Unit => x.1.2.1.length ≤ 1000000 ∧ x.2.1.length ≤ 1000)
theorem fn31 : FnOk Try.prog 31 S31 := by
  refine fn_of (rs := [.tmp 4, .tmp 5]) (env [(57, S57)] ⟨fn57, trivial⟩) Try.func31 (by kernel_rfl) rfl rfl Try.ntmps31 ?_
  rintro ⟨⟨(cap : Int), (cs : List Call), ⟨⟩⟩, (l : List Ask), u2⟩ ⟨hc, hl⟩ G hG hQ
  simp only at hc hl
  refine AM.run2 hG 100 (by cbv) ?_ ?_
  · (simp only [sxs, sxb, and_self, and_true, true_and, implies_true, imp_self, bne_eq_false_iff_eq, Nat.zero_add, Nat.le_refl, Int.toNat_natCast, Int.ofNat_lt, Int.natCast_nonneg, decide_eq_true_eq, decide_eq_false_iff_not, bne_iff_ne, ne_eq]; try dsimp only [Kd.T, Kds.T, AK.T, AKs.T])
    exact ⟨hc, hl⟩
  refine AM.ret2 hG (by cbv) (by (simp only [sxs, sxb, and_self, and_true, true_and, implies_true, imp_self, bne_eq_false_iff_eq, Nat.zero_add, Nat.le_refl, Int.toNat_natCast, Int.ofNat_lt, Int.natCast_nonneg, decide_eq_true_eq, decide_eq_false_iff_not, bne_iff_ne, ne_eq]; try dsimp only [Kd.T, Kds.T, AK.T, AKs.T])) (hQ _ _ (FinRo.of (by cbv) (by cbv) ?_ ?_))
  · (simp only [sxs, sxb, and_self, and_true, true_and, implies_true, imp_self, bne_eq_false_iff_eq, Nat.zero_add, Nat.le_refl, Int.toNat_natCast, Int.ofNat_lt, Int.natCast_nonneg, decide_eq_true_eq, decide_eq_false_iff_not, bne_iff_ne, ne_eq]; try dsimp only [Kd.T, Kds.T, AK.T, AKs.T])
  try (simp only [sxs, sxb, and_self, and_true, true_and, implies_true, imp_self, bne_eq_false_iff_eq, Nat.zero_add, Nat.le_refl, Int.toNat_natCast, Int.ofNat_lt, Int.natCast_nonneg, decide_eq_true_eq, decide_eq_false_iff_not, bne_iff_ne, ne_eq]; try dsimp only [Kd.T, Kds.T, AK.T, AKs.T])
  exact ⟨rfl, rfl⟩
theorem lookP {β : Type} (d : β) : ∀ (l : List (Call × β)) (k k' : Call) (v : β), lookD (eqK CallK) d (putD (eqK CallK) l k v) k' = if k' = k then v else lookD (eqK CallK) d l k'
  | [], k, k', v => by simp only [putD, lookD, eqK_call, decide_eq_true_eq]
  | (a, b) :: l, k, k', v => by
    simp only [putD, lookD, eqK_call, decide_eq_true_eq]
    by_cases h : k = a
    · subst h
      rw [if_pos rfl]
      simp only [lookD, eqK_call, decide_eq_true_eq]
      by_cases h2 : k' = k
      · rw [if_pos h2, if_pos h2]
      · rw [if_neg h2, if_neg h2, if_neg h2]
    · rw [if_neg h]
      simp only [lookD, eqK_call, decide_eq_true_eq]
      rw [lookP d l k k' v]
      by_cases h2 : k' = a
      · rw [if_pos h2, if_pos h2]
        by_cases h3 : k' = k
        · exact absurd (h3.symm.trans h2) h
        · rw [if_neg h3]
      · rw [if_neg h2, if_neg h2]
theorem setP {β : Type} : ∀ (l : List (Call × β)) (k : Call) (a v : β), setV (putD (eqK CallK) l k a) (idxD (eqK CallK) l k) v = putD (eqK CallK) l k v
  | [], k, a, v => rfl
  | (c, b) :: l, k, a, v => by
    simp only [putD, idxD]
    by_cases h : eqK CallK k c = true
    · rw [if_pos h, if_pos h, if_pos h, setV]
    · rw [if_neg h, if_neg h, if_neg h, setV, setP l k a v]
theorem idxP {β : Type} : ∀ (l : List (Call × β)) (k : Call) (a : β), idxD (eqK CallK) l k < (putD (eqK CallK) l k a).length
  | [], k, a => by simp [putD, idxD]
  | (c, b) :: l, k, a => by
    simp only [putD, idxD]
    by_cases h : eqK CallK k c = true
    · rw [if_pos h, if_pos h]; simp
    · rw [if_neg h, if_neg h]
      have := idxP l k a
      simp only [List.length_cons]
      omega
def cntC (l : List Choice) (c : Call) : Nat := l.countP fun x => decide (byC x = c)
theorem byS_no {l : List Call} {a : Ask} (h : (byS l a).2 = false) : byS l a = (zc, false) := by
  rw [byS] at h ⊢
  split
  · rename_i h1; rw [if_pos h1] at h; exact firstOf_no h
  · rename_i h1
    rw [if_neg h1] at h
    split
    · rfl
    · rename_i h2
      rw [if_neg h2] at h
      split
      · rename_i h3; rw [if_pos h3] at h; exact hallS_no h
      · rename_i h3; rw [if_neg h3] at h; cases h
theorem goal_by (t : Table) (a : Ask) : (goalR t a).2.2.1 = zc ∨ (goalR t a).2.2.1 ∈ t.2.1 := by
  unfold goalR
  split
  · exact .inl rfl
  split
  · exact .inl rfl
  split
  · exact .inl rfl
  split
  · exact .inl rfl
  simp only
  cases h : (byS t.2.1 a).2
  · exact .inl (by rw [byS_no h])
  · exact .inr (byS_mem h)
theorem choices_by (t : Table) : ∀ (l : List Ask) (taken : List Call), ∀ x ∈ choicesR t l taken, byC x = zc ∨ byC x ∈ t.2.1
  | [], _, x, hx => by simp [choicesR] at hx
  | a :: l, taken, x, hx => by
    rw [choicesR] at hx
    rcases List.mem_cons.1 hx with rfl | hx
    · exact goal_by t _
    · exact choices_by t l _ x hx
theorem tab_dif {t : Table} (h : tabE t = 0) {x y : Call} (hx : x ∈ t.2.1) (hy : y ∈ t.2.1) (hs : sameB x y = true) : x = y := by
  have hk := (tab0 h).2.2.2
  have key : ∀ (i j : Nat) (hi : i < t.2.1.length) (hj : j < t.2.1.length), i < j → sameB t.2.1[i] t.2.1[j] = false := by
    intro i j hi hj hij
    have := hk j hj
    rw [checkAt] at this
    split at this
    · rename_i q; exact absurd this q
    split at this
    · cases this
    split at this
    · cases this
    rename_i q
    rw [hasB, List.any_eq_true] at q
    cases hh : sameB t.2.1[i] t.2.1[j]
    · rfl
    · exfalso
      refine q ⟨t.2.1[i], ?_, ?_⟩
      · rw [List.mem_iff_getElem]
        exact ⟨i, by rw [List.length_take]; omega, by rw [List.getElem_take]⟩
      · rw [List.getD_eq_getElem?_getD, List.getElem?_eq_getElem hj]; exact hh
  obtain ⟨i, hi, rfl⟩ := List.getElem_of_mem hx
  obtain ⟨j, hj, rfl⟩ := List.getElem_of_mem hy
  rcases Nat.lt_trichotomy i j with q | q | q
  · rw [key i j hi hj q] at hs; cases hs
  · subst q; rfl
  · rw [sameB_comm, key j i hj hi q] at hs; cases hs
theorem tab_call {t : Table} (h : tabE t = 0) {c : Call} (hc : c ∈ t.2.1) : callErr c = 0 := by
  obtain ⟨i, hi, rfl⟩ := List.getElem_of_mem hc
  have := check0 ((tab0 h).2.2.2 i hi)
  rwa [List.getD_eq_getElem?_getD, List.getElem?_eq_getElem hi] at this
theorem wrong0 {t : Table} {l : List Ask} (h : (allR t l).2 = 0) : tabE t = 0 ∧ (turnCheck l).1 = 0 ∧ allR t l = (choicesR t l [], 0) := by
  have hw : wrongE t l = 0 := by
    rw [allR] at h
    split at h
    · rename_i q; exact absurd h q
    · rename_i q; simpa using q
  refine ⟨?_, ?_, by rw [allR, if_neg (by rw [hw]; decide)]⟩
  · rw [wrongE] at hw
    split at hw
    · assumption
    · exact hw
  · rw [wrongE] at hw
    split at hw
    · exact hw
    · rename_i q; exact absurd hw q
theorem turn_len {l : List Ask} (h : (turnCheck l).1 = 0) : l.length ≤ 8 := by
  rw [turnCheck] at h
  split at h
  · cases h
  · omega
theorem all_times {t : Table} {l : List Ask} (h : (allR t l).2 = 0) {c : Call} (hc : c ∈ t.2.1) : timesR (allR t l).1 c = cntC (allR t l).1 c ∧ timesR (allR t l).1 c ≤ 8 := by
  obtain ⟨h1, h2, h3⟩ := wrong0 h
  constructor
  · rw [h3]
    refine List.countP_congr fun x hx => ?_
    have hcc := kind0 (tab_call h1 hc)
    rw [decide_eq_true_eq, timesP]
    rcases choices_by t l [] x hx with q | q
    · rw [q]
      constructor
      · intro e
        simp [neI] at e
      · intro e
        rw [← e] at hcc
        simp at hcc
    · have hk := kind0 (tab_call h1 q)
      rw [if_pos (by rw [neI_t]; omega)]
      constructor
      · exact fun e => tab_dif h1 q hc e
      · intro e; rw [e]; simp [sameB]
  · rw [timesR]
    refine Nat.le_trans List.countP_le_length ?_
    rw [h3]
    simp only
    rw [choicesR_len]
    exact turn_len h2
def S50 : List AV → Option FOut := akSpec [.v I64] [.bool] (fun x : Int × Unit => (match x with | (n, _) => ((eqI n 0), ()))) (fun _ => True)
theorem fn50 : FnOk Try.prog 50 S50 := by
  refine fn_ofC (rs := [.tmp 2]) (env [] trivial) Try.func50 (by kernel_rfl) rfl rfl Try.ntmps50 ?_
  rintro ⟨(n : Int), u2⟩ _ G hG hB hQ
  refine AM.run2 hG 100 (by cbv) ?_ ?_
  · (simp only [sxs, sxb, and_self, and_true, true_and, implies_true, imp_self, bne_eq_false_iff_eq, Nat.zero_add, Nat.le_refl, Int.toNat_natCast, Int.ofNat_lt, Int.natCast_nonneg, decide_eq_true_eq, decide_eq_false_iff_not, bne_iff_ne, ne_eq]; try dsimp only [Kd.T, Kds.T, AK.T, AKs.T])
  refine AM.ret2 hG (by cbv) (by (simp only [sxs, sxb, and_self, and_true, true_and, implies_true, imp_self, bne_eq_false_iff_eq, Nat.zero_add, Nat.le_refl, Int.toNat_natCast, Int.ofNat_lt, Int.natCast_nonneg, decide_eq_true_eq, decide_eq_false_iff_not, bne_iff_ne, ne_eq]; try dsimp only [Kd.T, Kds.T, AK.T, AKs.T])) (hQ _ _ (FinRo.of (by cbv) (by cbv) ?_ ?_))
  · (simp only [sxs, sxb, and_self, and_true, true_and, implies_true, imp_self, bne_eq_false_iff_eq, Nat.zero_add, Nat.le_refl, Int.toNat_natCast, Int.ofNat_lt, Int.natCast_nonneg, decide_eq_true_eq, decide_eq_false_iff_not, bne_iff_ne, ne_eq]; try dsimp only [Kd.T, Kds.T, AK.T, AKs.T])
  try (simp only [sxs, sxb, and_self, and_true, true_and, implies_true, imp_self, bne_eq_false_iff_eq, Nat.zero_add, Nat.le_refl, Int.toNat_natCast, Int.ofNat_lt, Int.natCast_nonneg, decide_eq_true_eq, decide_eq_false_iff_not, bne_iff_ne, ne_eq]; try dsimp only [Kd.T, Kds.T, AK.T, AKs.T])
def S51 : List AV → Option FOut := akSpec [.v I64] [.bool] (fun x : Int × Unit => (match x with | (n, _) => ((ltI 1 n), ()))) (fun _ => True)
theorem fn51 : FnOk Try.prog 51 S51 := by
  refine fn_ofC (rs := [.tmp 2]) (env [] trivial) Try.func51 (by kernel_rfl) rfl rfl Try.ntmps51 ?_
  rintro ⟨(n : Int), u2⟩ _ G hG hB hQ
  refine AM.run2 hG 100 (by cbv) ?_ ?_
  · (simp only [sxs, sxb, and_self, and_true, true_and, implies_true, imp_self, bne_eq_false_iff_eq, Nat.zero_add, Nat.le_refl, Int.toNat_natCast, Int.ofNat_lt, Int.natCast_nonneg, decide_eq_true_eq, decide_eq_false_iff_not, bne_iff_ne, ne_eq]; try dsimp only [Kd.T, Kds.T, AK.T, AKs.T])
  refine AM.ret2 hG (by cbv) (by (simp only [sxs, sxb, and_self, and_true, true_and, implies_true, imp_self, bne_eq_false_iff_eq, Nat.zero_add, Nat.le_refl, Int.toNat_natCast, Int.ofNat_lt, Int.natCast_nonneg, decide_eq_true_eq, decide_eq_false_iff_not, bne_iff_ne, ne_eq]; try dsimp only [Kd.T, Kds.T, AK.T, AKs.T])) (hQ _ _ (FinRo.of (by cbv) (by cbv) ?_ ?_))
  · (simp only [sxs, sxb, and_self, and_true, true_and, implies_true, imp_self, bne_eq_false_iff_eq, Nat.zero_add, Nat.le_refl, Int.toNat_natCast, Int.ofNat_lt, Int.natCast_nonneg, decide_eq_true_eq, decide_eq_false_iff_not, bne_iff_ne, ne_eq]; try dsimp only [Kd.T, Kds.T, AK.T, AKs.T])
  try (simp only [sxs, sxb, and_self, and_true, true_and, implies_true, imp_self, bne_eq_false_iff_eq, Nat.zero_add, Nat.le_refl, Int.toNat_natCast, Int.ofNat_lt, Int.natCast_nonneg, decide_eq_true_eq, decide_eq_false_iff_not, bne_iff_ne, ne_eq]; try dsimp only [Kd.T, Kds.T, AK.T, AKs.T])
def S49Left : List AV → Option FOut := akSpec [.v TableK, .v AsksK, .c 50 []] [CallsK, I64] (fun x : Table × List Ask × Unit × Unit => ((leftR x.1 x.2.1).1, (leftR x.1 x.2.1).2, ())) (fun x : Table × List Ask × Unit × Unit => x.1.2.1.length ≤ 1000000 ∧ x.2.1.length ≤ 1000)
set_option maxHeartbeats 8000000 in
theorem fn49Left : FnOk Try.prog 49 S49Left := by
  refine fn_ofC (rs := [.tmp 6, .tmp 7]) (env [(11, S11), (67, S67), (50, S50)] ⟨fn11, fn67, fn50, trivial⟩) Try.func49 (by kernel_rfl) rfl rfl Try.ntmps49 ?_
  rintro ⟨⟨(cap : Int), (cs : List Call), ⟨⟩⟩, (l : List Ask), u1, u2⟩ ⟨hc, hl⟩ G hG hB hQ
  have hB := GB.of hB
  simp only at hc hl
  have hlen := allR_len (cap, cs, ()) l
  obtain ⟨ch, e, hall⟩ : ∃ ch e, allR (cap, cs, ()) l = (ch, e) := ⟨_, _, rfl⟩
  have hres : leftR (cap, cs, ()) l = if e ≠ 0 then ([], e) else (cs.filter (pickN ch 0 0), 0) := by rw [leftR, chosenR, hall]
  rw [hall] at hlen
  simp only at hlen
  refine AM.runTo2 hG 22 100 (by cbv) ?_ ?_
  · (simp only [sxs, sxb, and_self, and_true, true_and, implies_true, imp_self, bne_eq_false_iff_eq, Nat.zero_add, Nat.le_refl, Int.toNat_natCast, Int.ofNat_lt, Int.natCast_nonneg, decide_eq_true_eq, decide_eq_false_iff_not, bne_iff_ne, ne_eq]; try dsimp only [Kd.T, Kds.T, AK.T, AKs.T])
    exact ⟨hc, hl⟩
  refine AM.imp2 (fr' := frame 62 [(2, .fn (.func 50) [] []), (3, .ptr 0 0), (6, .nils), (7, .int .i64 (.l 0)), (8, .ro ChoiceK fun _ => ch), (9, .int .i64 (.t fun _ => e))])
    (h' := [.box 25 [.int .i64 (.t fun _ => cap), .ro CallK fun _ => cs]]) (by cbv) (by cbv) ?_ ?_ ?_
  · (simp only [sxs, sxb, and_self, and_true, true_and, implies_true, imp_self, bne_eq_false_iff_eq, Nat.zero_add, Nat.le_refl, Int.toNat_natCast, Int.ofNat_lt, Int.natCast_nonneg, decide_eq_true_eq, decide_eq_false_iff_not, bne_iff_ne, ne_eq]; try dsimp only [Kd.T, Kds.T, AK.T, AKs.T])
    rw [hall]
    exact ⟨rfl, rfl⟩
  · (simp only [sxs, sxb, and_self, and_true, true_and, implies_true, imp_self, bne_eq_false_iff_eq, Nat.zero_add, Nat.le_refl, Int.toNat_natCast, Int.ofNat_lt, Int.natCast_nonneg, decide_eq_true_eq, decide_eq_false_iff_not, bne_iff_ne, ne_eq]; try dsimp only [Kd.T, Kds.T, AK.T, AKs.T])
  refine AM.run2 hG 100 (by cbv) ?_ ?_
  · (simp only [sxs, sxb, and_self, and_true, true_and, implies_true, imp_self, bne_eq_false_iff_eq, Nat.zero_add, Nat.le_refl, Int.toNat_natCast, Int.ofNat_lt, Int.natCast_nonneg, decide_eq_true_eq, decide_eq_false_iff_not, bne_iff_ne, ne_eq]; try dsimp only [Kd.T, Kds.T, AK.T, AKs.T])
  refine AM.case 23 rfl (fun h => ?_) (fun h => ?_) <;> (simp only [sxs, sxb, and_self, and_true, true_and, implies_true, imp_self, bne_eq_false_iff_eq, Nat.zero_add, Nat.le_refl, Int.toNat_natCast, Int.ofNat_lt, Int.natCast_nonneg, decide_eq_true_eq, decide_eq_false_iff_not, bne_iff_ne, ne_eq] at h; try dsimp only [Kd.T, Kds.T, AK.T, AKs.T] at h)
  · refine AM.run2 hG 100 (by cbv) ?_ ?_
    · (simp only [sxs, sxb, and_self, and_true, true_and, implies_true, imp_self, bne_eq_false_iff_eq, Nat.zero_add, Nat.le_refl, Int.toNat_natCast, Int.ofNat_lt, Int.natCast_nonneg, decide_eq_true_eq, decide_eq_false_iff_not, bne_iff_ne, ne_eq]; try dsimp only [Kd.T, Kds.T, AK.T, AKs.T])
    refine AM.ret2 hG (by cbv) (by (simp only [sxs, sxb, and_self, and_true, true_and, implies_true, imp_self, bne_eq_false_iff_eq, Nat.zero_add, Nat.le_refl, Int.toNat_natCast, Int.ofNat_lt, Int.natCast_nonneg, decide_eq_true_eq, decide_eq_false_iff_not, bne_iff_ne, ne_eq]; try dsimp only [Kd.T, Kds.T, AK.T, AKs.T])) (hQ _ _ (FinRo.of (by cbv) (by cbv) ?_ ?_))
    · (simp only [sxs, sxb, and_self, and_true, true_and, implies_true, imp_self, bne_eq_false_iff_eq, Nat.zero_add, Nat.le_refl, Int.toNat_natCast, Int.ofNat_lt, Int.natCast_nonneg, decide_eq_true_eq, decide_eq_false_iff_not, bne_iff_ne, ne_eq]; try dsimp only [Kd.T, Kds.T, AK.T, AKs.T])
    try (simp only [sxs, sxb, and_self, and_true, true_and, implies_true, imp_self, bne_eq_false_iff_eq, Nat.zero_add, Nat.le_refl, Int.toNat_natCast, Int.ofNat_lt, Int.natCast_nonneg, decide_eq_true_eq, decide_eq_false_iff_not, bne_iff_ne, ne_eq]; try dsimp only [Kd.T, Kds.T, AK.T, AKs.T])
    rw [hres, if_pos h]
    exact ⟨rfl, rfl⟩
  refine AM.run2 hG 100 (by cbv) ?_ ?_
  · (simp only [sxs, sxb, and_self, and_true, true_and, implies_true, imp_self, bne_eq_false_iff_eq, Nat.zero_add, Nat.le_refl, Int.toNat_natCast, Int.ofNat_lt, Int.natCast_nonneg, decide_eq_true_eq, decide_eq_false_iff_not, bne_iff_ne, ne_eq]; try dsimp only [Kd.T, Kds.T, AK.T, AKs.T])
  refine AM.loopI (fun z : Nat × List (Call × Int) => (frame 62 [(2, .fn (.func 50) [] []), (3, .ptr 0 0), (10, .mp 1), (26, .ro ChoiceK fun _ => ch), (27, .int .i64 (.t fun _ => nI ch.length)), (28, .int .i64 (.t fun _ => nI z.1))],
    [.box 25 [.int .i64 (.t fun _ => cap), .ro CallK fun _ => cs], .map 97 CallK I64 (fun _ => z.2)]))
    (fun z => z.1 ≤ ch.length ∧ ∀ c, lookD (eqK CallK) 0 z.2 c = nI (cntC (ch.take z.1) c)) (fun z => ch.length - z.1) (0, []) ⟨by simp, fun c => by simp [lookD, cntC, nI]⟩ ?_ ?_ ?_
  · cbv; (simp only [sxs, sxb, and_self, and_true, true_and, implies_true, imp_self, bne_eq_false_iff_eq, Nat.zero_add, Nat.le_refl, Int.toNat_natCast, Int.ofNat_lt, Int.natCast_nonneg, decide_eq_true_eq, decide_eq_false_iff_not, bne_iff_ne, ne_eq]; try dsimp only [Kd.T, Kds.T, AK.T, AKs.T]); all_goals ((repeat' apply And.intro) <;> first | rfl | assumption | exact trivial)
  · cbv; (simp only [sxs, sxb, and_self, and_true, true_and, implies_true, imp_self, bne_eq_false_iff_eq, Nat.zero_add, Nat.le_refl, Int.toNat_natCast, Int.ofNat_lt, Int.natCast_nonneg, decide_eq_true_eq, decide_eq_false_iff_not, bne_iff_ne, ne_eq]; try dsimp only [Kd.T, Kds.T, AK.T, AKs.T]); all_goals ((repeat' apply And.intro) <;> first | rfl | assumption | exact trivial)
  · rintro ⟨i, mp⟩ ⟨hi, hm⟩ ih
    simp only at hi hm
    refine AM.run2 hG 100 (by cbv) ?_ ?_
    · (simp only [sxs, sxb, and_self, and_true, true_and, implies_true, imp_self, bne_eq_false_iff_eq, Nat.zero_add, Nat.le_refl, Int.toNat_natCast, Int.ofNat_lt, Int.natCast_nonneg, decide_eq_true_eq, decide_eq_false_iff_not, bne_iff_ne, ne_eq]; try dsimp only [Kd.T, Kds.T, AK.T, AKs.T])
    refine AM.case 29 rfl (fun h1 => ?_) (fun h1 => ?_) <;> (simp only [sxs, sxb, and_self, and_true, true_and, implies_true, imp_self, bne_eq_false_iff_eq, Nat.zero_add, Nat.le_refl, Int.toNat_natCast, Int.ofNat_lt, Int.natCast_nonneg, decide_eq_true_eq, decide_eq_false_iff_not, bne_iff_ne, ne_eq] at h1; try dsimp only [Kd.T, Kds.T, AK.T, AKs.T] at h1)
    · refine AM.run2 hG 100 (by cbv) ?_ ?_
      · (simp only [sxs, sxb, and_self, and_true, true_and, implies_true, imp_self, bne_eq_false_iff_eq, Nat.zero_add, Nat.le_refl, Int.toNat_natCast, Int.ofNat_lt, Int.natCast_nonneg, decide_eq_true_eq, decide_eq_false_iff_not, bne_iff_ne, ne_eq]; try dsimp only [Kd.T, Kds.T, AK.T, AKs.T])
        exact h1
      obtain ⟨c, hcv⟩ : ∃ c, byC (ch.getD i zCh) = c := ⟨_, rfl⟩
      have hstep : ∀ c', cntC (ch.take (i + 1)) c' = cntC (ch.take i) c' + (if decide (byC (ch.getD i zCh) = c') = true then 1 else 0) := fun c' => countP_step _ zCh h1
      rw [hcv] at hstep
      obtain ⟨c1, c2, c3, c4, ⟨⟩⟩ := c
      refine AM.imp2 (fr' := frame 62 [(2, .fn (.func 50) [] []), (3, .ptr 0 0), (10, .mp 1), (12, .ptr 2 0), (26, .ro ChoiceK fun _ => ch), (27, .int .i64 (.t fun _ => nI ch.length)), (28, .int .i64 (.t fun _ => nI i))])
        (h' := [.box 25 [.int .i64 (.t fun _ => cap), .ro CallK fun _ => cs], .map 97 CallK I64 (fun _ => mp), .box 40 [.any, .any, .any, .int .i64 (.t fun _ => c1), .int .i64 (.t fun _ => c2), .int .i64 (.t fun _ => c3), .int .i64 (.t fun _ => c4)]]) (by cbv) (by cbv) ?_ ?_ ?_
      · (simp only [sxs, sxb, and_self, and_true, true_and, implies_true, imp_self, bne_eq_false_iff_eq, Nat.zero_add, Nat.le_refl, Int.toNat_natCast, Int.ofNat_lt, Int.natCast_nonneg, decide_eq_true_eq, decide_eq_false_iff_not, bne_iff_ne, ne_eq]; try dsimp only [Kd.T, Kds.T, AK.T, AKs.T])
      · (simp only [sxs, sxb, and_self, and_true, true_and, implies_true, imp_self, bne_eq_false_iff_eq, Nat.zero_add, Nat.le_refl, Int.toNat_natCast, Int.ofNat_lt, Int.natCast_nonneg, decide_eq_true_eq, decide_eq_false_iff_not, bne_iff_ne, ne_eq]; try dsimp only [Kd.T, Kds.T, AK.T, AKs.T])
        exact ⟨congrArg (fun z : Call => z.1) hcv, congrArg (fun z : Call => z.2.1) hcv, congrArg (fun z : Call => z.2.2.1) hcv, congrArg (fun z : Call => z.2.2.2.1) hcv⟩
      obtain ⟨n0, hn0⟩ : ∃ n0, cntC (ch.take i) (c1, c2, c3, c4, ()) = n0 := ⟨_, rfl⟩
      have hn1 : n0 ≤ i := by rw [← hn0]; exact countP_le _ ch i
      have e1 : lookD (eqK CallK) 0 mp (c1, c2, c3, c4, ()) = nI n0 := by rw [hm, hn0]
      have e3 : IntKind.i64.wrap (nI n0 + 1) = ((n0 + 1 : Nat) : Int) := w64s (by omega)
      have f1 : IntKind.i64.wrap (lookD (eqK CallK) 0 mp (c1, c2, c3, c4, ()) + 1) = ((n0 + 1 : Nat) : Int) := by rw [e1]; exact e3
      have f2 : IntKind.i64.wrap (lookD (eqK CallK) 0 (putD (eqK CallK) mp (c1, c2, c3, c4, ()) (lookD (eqK CallK) 0 mp (c1, c2, c3, c4, ()))) (c1, c2, c3, c4, ()) + 1) = ((n0 + 1 : Nat) : Int) := by rw [lookP, if_pos rfl]; exact f1
      have ih' := ih (i + 1, putD (eqK CallK) mp (c1, c2, c3, c4, ()) (nI (n0 + 1))) ⟨by simp only; omega, fun c' => by
        rw [lookP, hstep c', hm c']
        by_cases q : c' = (c1, c2, c3, c4, ())
        · rw [if_pos q, if_pos (by simp [q]), q, hn0]
        · rw [if_neg q, if_neg (by simpa using fun e => q e.symm)]
          rfl⟩ (by simp only; omega)
      refine AM.orders hG (by cbv) ?_
      intro o ho
      simp only [List.mem_cons, List.not_mem_nil, or_false] at ho
      rcases ho with rfl | rfl | rfl | rfl | rfl | rfl | rfl | rfl | rfl | rfl | rfl | rfl | rfl | rfl | rfl | rfl | rfl | rfl
      all_goals
        refine AM.run2 hG 100 (by cbv) ?_ ?_
        · (simp only [sxs, sxb, and_self, and_true, true_and, implies_true, imp_self, bne_eq_false_iff_eq, Nat.zero_add, Nat.le_refl, Int.toNat_natCast, Int.ofNat_lt, Int.natCast_nonneg, decide_eq_true_eq, decide_eq_false_iff_not, bne_iff_ne, ne_eq]; try dsimp only [Kd.T, Kds.T, AK.T, AKs.T])
          exact idxP _ _ _
        refine AM.ren hB [0, 1] (by cbv) (by cbv) (by cbv) ?_ ?_ ih'
        · (simp only [sxs, sxb, and_self, and_true, true_and, implies_true, imp_self, bne_eq_false_iff_eq, Nat.zero_add, Nat.le_refl, Int.toNat_natCast, Int.ofNat_lt, Int.natCast_nonneg, decide_eq_true_eq, decide_eq_false_iff_not, bne_iff_ne, ne_eq]; try dsimp only [Kd.T, Kds.T, AK.T, AKs.T])
          rw [w64s (by omega)]
        · (simp only [sxs, sxb, and_self, and_true, true_and, implies_true, imp_self, bne_eq_false_iff_eq, Nat.zero_add, Nat.le_refl, Int.toNat_natCast, Int.ofNat_lt, Int.natCast_nonneg, decide_eq_true_eq, decide_eq_false_iff_not, bne_iff_ne, ne_eq]; try dsimp only [Kd.T, Kds.T, AK.T, AKs.T])
          exact (setP _ _ _ _).trans (congrArg (putD (eqK CallK) mp (c1, c2, c3, c4, ())) (by first | exact f1 | exact f2))
    clear ih
    rw [List.take_of_length_le (by omega)] at hm
    refine AM.run2 hG 100 (by cbv) ?_ ?_
    · (simp only [sxs, sxb, and_self, and_true, true_and, implies_true, imp_self, bne_eq_false_iff_eq, Nat.zero_add, Nat.le_refl, Int.toNat_natCast, Int.ofNat_lt, Int.natCast_nonneg, decide_eq_true_eq, decide_eq_false_iff_not, bne_iff_ne, ne_eq]; try dsimp only [Kd.T, Kds.T, AK.T, AKs.T])
    refine AM.emptySlot 13 38 CallK rfl ?_
    have hval := fun c (hc : c ∈ cs) => all_times (t := (cap, cs, ())) (l := l) (by rw [hall]; exact h) hc
    rw [hall] at hval
    simp only at hval
    refine AM.loopI (fun z : Nat × List Call => (frame 62 [(2, .fn (.func 50) [] []), (3, .ptr 0 0), (10, .mp 1), (13, .sl 2 4 (.l 0) (.t fun _ => z.2.length)), (41, .ro CallK fun _ => cs), (42, .int .i64 (.t fun _ => nI cs.length)), (43, .int .i64 (.t fun _ => nI z.1))],
      [.box 25 [.int .i64 (.t fun _ => cap), .ro CallK fun _ => cs], .map 97 CallK I64 (fun _ => mp), .row 38 CallK (fun _ => z.2)]))
      (fun z => z.1 ≤ cs.length ∧ z.2.length ≤ z.1 ∧ z.2 = (cs.take z.1).filter (pickN ch 0 0)) (fun z => cs.length - z.1) (0, []) ⟨by simp, by simp, by simp⟩ ?_ ?_ ?_
    · cbv; (simp only [sxs, sxb, and_self, and_true, true_and, implies_true, imp_self, bne_eq_false_iff_eq, Nat.zero_add, Nat.le_refl, Int.toNat_natCast, Int.ofNat_lt, Int.natCast_nonneg, decide_eq_true_eq, decide_eq_false_iff_not, bne_iff_ne, ne_eq]; try dsimp only [Kd.T, Kds.T, AK.T, AKs.T]); all_goals ((repeat' apply And.intro) <;> first | rfl | assumption | exact trivial)
    · cbv; (simp only [sxs, sxb, and_self, and_true, true_and, implies_true, imp_self, bne_eq_false_iff_eq, Nat.zero_add, Nat.le_refl, Int.toNat_natCast, Int.ofNat_lt, Int.natCast_nonneg, decide_eq_true_eq, decide_eq_false_iff_not, bne_iff_ne, ne_eq]; try dsimp only [Kd.T, Kds.T, AK.T, AKs.T]); all_goals ((repeat' apply And.intro) <;> first | rfl | assumption | exact trivial)
    rintro ⟨j, m⟩ ⟨hj, hml, he⟩ ih
    simp only at hj hml he
    refine AM.run2 hG 100 (by cbv) ?_ ?_
    · (simp only [sxs, sxb, and_self, and_true, true_and, implies_true, imp_self, bne_eq_false_iff_eq, Nat.zero_add, Nat.le_refl, Int.toNat_natCast, Int.ofNat_lt, Int.natCast_nonneg, decide_eq_true_eq, decide_eq_false_iff_not, bne_iff_ne, ne_eq]; try dsimp only [Kd.T, Kds.T, AK.T, AKs.T])
    refine AM.case 44 rfl (fun h2 => ?_) (fun h2 => ?_) <;> (simp only [sxs, sxb, and_self, and_true, true_and, implies_true, imp_self, bne_eq_false_iff_eq, Nat.zero_add, Nat.le_refl, Int.toNat_natCast, Int.ofNat_lt, Int.natCast_nonneg, decide_eq_true_eq, decide_eq_false_iff_not, bne_iff_ne, ne_eq] at h2; try dsimp only [Kd.T, Kds.T, AK.T, AKs.T] at h2)
    · have hnext : (cs.take (j + 1)).filter (pickN ch 0 0) = m ++ (if pickN ch 0 0 (cs.getD j zc) = true then [cs.getD j zc] else []) := by
        rw [take_succD h2, List.filter_append, ← he]
        congr 1
        by_cases hq : pickN ch 0 0 (cs.getD j zc) = true
        · rw [if_pos hq, List.filter_cons_of_pos hq]; rfl
        · rw [if_neg hq, List.filter_cons_of_neg hq]; rfl
      have hmem : cs.getD j zc ∈ cs := by
        rw [List.getD_eq_getElem?_getD, List.getElem?_eq_getElem h2]
        exact List.getElem_mem h2
      obtain ⟨v1, v2⟩ := hval _ hmem
      have hp : (if hallN (cs.getD j zc) = true then (let n := lookD (eqK CallK) 0 mp (cs.getD j zc); (eqI n 0)) else false) = pickN ch 0 0 (cs.getD j zc) := by
        simp only [hm, pickN, v1]
        rw [v1] at v2
        obtain ⟨n, hn⟩ : ∃ n, cntC ch (cs.getD j zc) = n := ⟨_, rfl⟩
        rw [hn] at v2 ⊢
        cases hallN (cs.getD j zc)
        · rfl
        · rw [if_pos rfl, if_pos rfl, ite_and, Bool.eq_iff_iff]
          simp only [eqI_t, leI_t, ltI_t, nI, Bool.and_eq_true]
          omega
      rw [← hp] at hnext
      refine AM.run2 hG 100 (by cbv) ?_ ?_
      · (simp only [sxs, sxb, and_self, and_true, true_and, implies_true, imp_self, bne_eq_false_iff_eq, Nat.zero_add, Nat.le_refl, Int.toNat_natCast, Int.ofNat_lt, Int.natCast_nonneg, decide_eq_true_eq, decide_eq_false_iff_not, bne_iff_ne, ne_eq]; try dsimp only [Kd.T, Kds.T, AK.T, AKs.T])
        exact h2
      refine AM.case 55 rfl (fun (h3 : (if hallN (cs.getD j zc) = true then (let n := lookD (eqK CallK) 0 mp (cs.getD j zc); (eqI n 0)) else false) = true) => ?_) (fun (h3 : (if hallN (cs.getD j zc) = true then (let n := lookD (eqK CallK) 0 mp (cs.getD j zc); (eqI n 0)) else false) = false) => ?_)
      · rw [if_pos h3] at hnext
        refine AM.run2 hG 100 (by cbv) ?_ ?_
        · (simp only [sxs, sxb, and_self, and_true, true_and, implies_true, imp_self, bne_eq_false_iff_eq, Nat.zero_add, Nat.le_refl, Int.toNat_natCast, Int.ofNat_lt, Int.natCast_nonneg, decide_eq_true_eq, decide_eq_false_iff_not, bne_iff_ne, ne_eq]; try dsimp only [Kd.T, Kds.T, AK.T, AKs.T])
          simp only [maxLen, List.length_take, List.length_cons, List.length_nil]
          omega
        refine AM.ren hB [0, 1, 5] (by cbv) (by cbv) (by cbv) ?_ ?_ (ih (j + 1, m ++ [cs.getD j zc]) ⟨by simp only; omega, by simp only [List.length_append, List.length_cons, List.length_nil]; omega, hnext.symm⟩ (by simp only; omega))
        · (simp only [sxs, sxb, and_self, and_true, true_and, implies_true, imp_self, bne_eq_false_iff_eq, Nat.zero_add, Nat.le_refl, Int.toNat_natCast, Int.ofNat_lt, Int.natCast_nonneg, decide_eq_true_eq, decide_eq_false_iff_not, bne_iff_ne, ne_eq]; try dsimp only [Kd.T, Kds.T, AK.T, AKs.T])
          rw [List.length_append, w64s (by omega)]
          exact ⟨rfl, rfl⟩
        · (simp only [sxs, sxb, and_self, and_true, true_and, implies_true, imp_self, bne_eq_false_iff_eq, Nat.zero_add, Nat.le_refl, Int.toNat_natCast, Int.ofNat_lt, Int.natCast_nonneg, decide_eq_true_eq, decide_eq_false_iff_not, bne_iff_ne, ne_eq]; try dsimp only [Kd.T, Kds.T, AK.T, AKs.T])
          exact rfl
      · rw [if_neg (by rw [h3]; decide), List.append_nil] at hnext
        refine AM.run2 hG 100 (by cbv) ?_ ?_
        · (simp only [sxs, sxb, and_self, and_true, true_and, implies_true, imp_self, bne_eq_false_iff_eq, Nat.zero_add, Nat.le_refl, Int.toNat_natCast, Int.ofNat_lt, Int.natCast_nonneg, decide_eq_true_eq, decide_eq_false_iff_not, bne_iff_ne, ne_eq]; try dsimp only [Kd.T, Kds.T, AK.T, AKs.T])
        refine AM.ren hB [0, 1, 2] (by cbv) (by cbv) (by cbv) ?_ ?_ (ih (j + 1, m) ⟨by simp only; omega, by simp only; omega, hnext.symm⟩ (by simp only; omega))
        · (simp only [sxs, sxb, and_self, and_true, true_and, implies_true, imp_self, bne_eq_false_iff_eq, Nat.zero_add, Nat.le_refl, Int.toNat_natCast, Int.ofNat_lt, Int.natCast_nonneg, decide_eq_true_eq, decide_eq_false_iff_not, bne_iff_ne, ne_eq]; try dsimp only [Kd.T, Kds.T, AK.T, AKs.T])
          rw [w64s (by omega)]
        · (simp only [sxs, sxb, and_self, and_true, true_and, implies_true, imp_self, bne_eq_false_iff_eq, Nat.zero_add, Nat.le_refl, Int.toNat_natCast, Int.ofNat_lt, Int.natCast_nonneg, decide_eq_true_eq, decide_eq_false_iff_not, bne_iff_ne, ne_eq]; try dsimp only [Kd.T, Kds.T, AK.T, AKs.T])
    clear ih
    rw [List.take_of_length_le (by omega)] at he
    refine AM.run2 hG 100 (by cbv) ?_ ?_
    · (simp only [sxs, sxb, and_self, and_true, true_and, implies_true, imp_self, bne_eq_false_iff_eq, Nat.zero_add, Nat.le_refl, Int.toNat_natCast, Int.ofNat_lt, Int.natCast_nonneg, decide_eq_true_eq, decide_eq_false_iff_not, bne_iff_ne, ne_eq]; try dsimp only [Kd.T, Kds.T, AK.T, AKs.T])
    refine AM.ret2 hG (by cbv) (by (simp only [sxs, sxb, and_self, and_true, true_and, implies_true, imp_self, bne_eq_false_iff_eq, Nat.zero_add, Nat.le_refl, Int.toNat_natCast, Int.ofNat_lt, Int.natCast_nonneg, decide_eq_true_eq, decide_eq_false_iff_not, bne_iff_ne, ne_eq]; try dsimp only [Kd.T, Kds.T, AK.T, AKs.T])) (hQ _ _ (FinRo.of (by cbv) (by cbv) ?_ ?_))
    · (simp only [sxs, sxb, and_self, and_true, true_and, implies_true, imp_self, bne_eq_false_iff_eq, Nat.zero_add, Nat.le_refl, Int.toNat_natCast, Int.ofNat_lt, Int.natCast_nonneg, decide_eq_true_eq, decide_eq_false_iff_not, bne_iff_ne, ne_eq]; try dsimp only [Kd.T, Kds.T, AK.T, AKs.T])
    try (simp only [sxs, sxb, and_self, and_true, true_and, implies_true, imp_self, bne_eq_false_iff_eq, Nat.zero_add, Nat.le_refl, Int.toNat_natCast, Int.ofNat_lt, Int.natCast_nonneg, decide_eq_true_eq, decide_eq_false_iff_not, bne_iff_ne, ne_eq]; try dsimp only [Kd.T, Kds.T, AK.T, AKs.T])
    rw [List.take_length, hres, if_neg (by rw [h]; decide)]
    exact ⟨he, rfl⟩
def S49Twice : List AV → Option FOut := akSpec [.v TableK, .v AsksK, .c 51 []] [CallsK, I64] (fun x : Table × List Ask × Unit × Unit => ((twiceR x.1 x.2.1).1, (twiceR x.1 x.2.1).2, ())) (fun x : Table × List Ask × Unit × Unit => x.1.2.1.length ≤ 1000000 ∧ x.2.1.length ≤ 1000)
set_option maxHeartbeats 8000000 in
theorem fn49Twice : FnOk Try.prog 49 S49Twice := by
  refine fn_ofC (rs := [.tmp 6, .tmp 7]) (env [(11, S11), (67, S67), (51, S51)] ⟨fn11, fn67, fn51, trivial⟩) Try.func49 (by kernel_rfl) rfl rfl Try.ntmps49 ?_
  rintro ⟨⟨(cap : Int), (cs : List Call), ⟨⟩⟩, (l : List Ask), u1, u2⟩ ⟨hc, hl⟩ G hG hB hQ
  have hB := GB.of hB
  simp only at hc hl
  have hlen := allR_len (cap, cs, ()) l
  obtain ⟨ch, e, hall⟩ : ∃ ch e, allR (cap, cs, ()) l = (ch, e) := ⟨_, _, rfl⟩
  have hres : twiceR (cap, cs, ()) l = if e ≠ 0 then ([], e) else (cs.filter (pickN ch 2 8), 0) := by rw [twiceR, chosenR, hall]
  rw [hall] at hlen
  simp only at hlen
  refine AM.runTo2 hG 22 100 (by cbv) ?_ ?_
  · (simp only [sxs, sxb, and_self, and_true, true_and, implies_true, imp_self, bne_eq_false_iff_eq, Nat.zero_add, Nat.le_refl, Int.toNat_natCast, Int.ofNat_lt, Int.natCast_nonneg, decide_eq_true_eq, decide_eq_false_iff_not, bne_iff_ne, ne_eq]; try dsimp only [Kd.T, Kds.T, AK.T, AKs.T])
    exact ⟨hc, hl⟩
  refine AM.imp2 (fr' := frame 62 [(2, .fn (.func 51) [] []), (3, .ptr 0 0), (6, .nils), (7, .int .i64 (.l 0)), (8, .ro ChoiceK fun _ => ch), (9, .int .i64 (.t fun _ => e))])
    (h' := [.box 25 [.int .i64 (.t fun _ => cap), .ro CallK fun _ => cs]]) (by cbv) (by cbv) ?_ ?_ ?_
  · (simp only [sxs, sxb, and_self, and_true, true_and, implies_true, imp_self, bne_eq_false_iff_eq, Nat.zero_add, Nat.le_refl, Int.toNat_natCast, Int.ofNat_lt, Int.natCast_nonneg, decide_eq_true_eq, decide_eq_false_iff_not, bne_iff_ne, ne_eq]; try dsimp only [Kd.T, Kds.T, AK.T, AKs.T])
    rw [hall]
    exact ⟨rfl, rfl⟩
  · (simp only [sxs, sxb, and_self, and_true, true_and, implies_true, imp_self, bne_eq_false_iff_eq, Nat.zero_add, Nat.le_refl, Int.toNat_natCast, Int.ofNat_lt, Int.natCast_nonneg, decide_eq_true_eq, decide_eq_false_iff_not, bne_iff_ne, ne_eq]; try dsimp only [Kd.T, Kds.T, AK.T, AKs.T])
  refine AM.run2 hG 100 (by cbv) ?_ ?_
  · (simp only [sxs, sxb, and_self, and_true, true_and, implies_true, imp_self, bne_eq_false_iff_eq, Nat.zero_add, Nat.le_refl, Int.toNat_natCast, Int.ofNat_lt, Int.natCast_nonneg, decide_eq_true_eq, decide_eq_false_iff_not, bne_iff_ne, ne_eq]; try dsimp only [Kd.T, Kds.T, AK.T, AKs.T])
  refine AM.case 23 rfl (fun h => ?_) (fun h => ?_) <;> (simp only [sxs, sxb, and_self, and_true, true_and, implies_true, imp_self, bne_eq_false_iff_eq, Nat.zero_add, Nat.le_refl, Int.toNat_natCast, Int.ofNat_lt, Int.natCast_nonneg, decide_eq_true_eq, decide_eq_false_iff_not, bne_iff_ne, ne_eq] at h; try dsimp only [Kd.T, Kds.T, AK.T, AKs.T] at h)
  · refine AM.run2 hG 100 (by cbv) ?_ ?_
    · (simp only [sxs, sxb, and_self, and_true, true_and, implies_true, imp_self, bne_eq_false_iff_eq, Nat.zero_add, Nat.le_refl, Int.toNat_natCast, Int.ofNat_lt, Int.natCast_nonneg, decide_eq_true_eq, decide_eq_false_iff_not, bne_iff_ne, ne_eq]; try dsimp only [Kd.T, Kds.T, AK.T, AKs.T])
    refine AM.ret2 hG (by cbv) (by (simp only [sxs, sxb, and_self, and_true, true_and, implies_true, imp_self, bne_eq_false_iff_eq, Nat.zero_add, Nat.le_refl, Int.toNat_natCast, Int.ofNat_lt, Int.natCast_nonneg, decide_eq_true_eq, decide_eq_false_iff_not, bne_iff_ne, ne_eq]; try dsimp only [Kd.T, Kds.T, AK.T, AKs.T])) (hQ _ _ (FinRo.of (by cbv) (by cbv) ?_ ?_))
    · (simp only [sxs, sxb, and_self, and_true, true_and, implies_true, imp_self, bne_eq_false_iff_eq, Nat.zero_add, Nat.le_refl, Int.toNat_natCast, Int.ofNat_lt, Int.natCast_nonneg, decide_eq_true_eq, decide_eq_false_iff_not, bne_iff_ne, ne_eq]; try dsimp only [Kd.T, Kds.T, AK.T, AKs.T])
    try (simp only [sxs, sxb, and_self, and_true, true_and, implies_true, imp_self, bne_eq_false_iff_eq, Nat.zero_add, Nat.le_refl, Int.toNat_natCast, Int.ofNat_lt, Int.natCast_nonneg, decide_eq_true_eq, decide_eq_false_iff_not, bne_iff_ne, ne_eq]; try dsimp only [Kd.T, Kds.T, AK.T, AKs.T])
    rw [hres, if_pos h]
    exact ⟨rfl, rfl⟩
  refine AM.run2 hG 100 (by cbv) ?_ ?_
  · (simp only [sxs, sxb, and_self, and_true, true_and, implies_true, imp_self, bne_eq_false_iff_eq, Nat.zero_add, Nat.le_refl, Int.toNat_natCast, Int.ofNat_lt, Int.natCast_nonneg, decide_eq_true_eq, decide_eq_false_iff_not, bne_iff_ne, ne_eq]; try dsimp only [Kd.T, Kds.T, AK.T, AKs.T])
  refine AM.loopI (fun z : Nat × List (Call × Int) => (frame 62 [(2, .fn (.func 51) [] []), (3, .ptr 0 0), (10, .mp 1), (26, .ro ChoiceK fun _ => ch), (27, .int .i64 (.t fun _ => nI ch.length)), (28, .int .i64 (.t fun _ => nI z.1))],
    [.box 25 [.int .i64 (.t fun _ => cap), .ro CallK fun _ => cs], .map 97 CallK I64 (fun _ => z.2)]))
    (fun z => z.1 ≤ ch.length ∧ ∀ c, lookD (eqK CallK) 0 z.2 c = nI (cntC (ch.take z.1) c)) (fun z => ch.length - z.1) (0, []) ⟨by simp, fun c => by simp [lookD, cntC, nI]⟩ ?_ ?_ ?_
  · cbv; (simp only [sxs, sxb, and_self, and_true, true_and, implies_true, imp_self, bne_eq_false_iff_eq, Nat.zero_add, Nat.le_refl, Int.toNat_natCast, Int.ofNat_lt, Int.natCast_nonneg, decide_eq_true_eq, decide_eq_false_iff_not, bne_iff_ne, ne_eq]; try dsimp only [Kd.T, Kds.T, AK.T, AKs.T]); all_goals ((repeat' apply And.intro) <;> first | rfl | assumption | exact trivial)
  · cbv; (simp only [sxs, sxb, and_self, and_true, true_and, implies_true, imp_self, bne_eq_false_iff_eq, Nat.zero_add, Nat.le_refl, Int.toNat_natCast, Int.ofNat_lt, Int.natCast_nonneg, decide_eq_true_eq, decide_eq_false_iff_not, bne_iff_ne, ne_eq]; try dsimp only [Kd.T, Kds.T, AK.T, AKs.T]); all_goals ((repeat' apply And.intro) <;> first | rfl | assumption | exact trivial)
  · rintro ⟨i, mp⟩ ⟨hi, hm⟩ ih
    simp only at hi hm
    refine AM.run2 hG 100 (by cbv) ?_ ?_
    · (simp only [sxs, sxb, and_self, and_true, true_and, implies_true, imp_self, bne_eq_false_iff_eq, Nat.zero_add, Nat.le_refl, Int.toNat_natCast, Int.ofNat_lt, Int.natCast_nonneg, decide_eq_true_eq, decide_eq_false_iff_not, bne_iff_ne, ne_eq]; try dsimp only [Kd.T, Kds.T, AK.T, AKs.T])
    refine AM.case 29 rfl (fun h1 => ?_) (fun h1 => ?_) <;> (simp only [sxs, sxb, and_self, and_true, true_and, implies_true, imp_self, bne_eq_false_iff_eq, Nat.zero_add, Nat.le_refl, Int.toNat_natCast, Int.ofNat_lt, Int.natCast_nonneg, decide_eq_true_eq, decide_eq_false_iff_not, bne_iff_ne, ne_eq] at h1; try dsimp only [Kd.T, Kds.T, AK.T, AKs.T] at h1)
    · refine AM.run2 hG 100 (by cbv) ?_ ?_
      · (simp only [sxs, sxb, and_self, and_true, true_and, implies_true, imp_self, bne_eq_false_iff_eq, Nat.zero_add, Nat.le_refl, Int.toNat_natCast, Int.ofNat_lt, Int.natCast_nonneg, decide_eq_true_eq, decide_eq_false_iff_not, bne_iff_ne, ne_eq]; try dsimp only [Kd.T, Kds.T, AK.T, AKs.T])
        exact h1
      obtain ⟨c, hcv⟩ : ∃ c, byC (ch.getD i zCh) = c := ⟨_, rfl⟩
      have hstep : ∀ c', cntC (ch.take (i + 1)) c' = cntC (ch.take i) c' + (if decide (byC (ch.getD i zCh) = c') = true then 1 else 0) := fun c' => countP_step _ zCh h1
      rw [hcv] at hstep
      obtain ⟨c1, c2, c3, c4, ⟨⟩⟩ := c
      refine AM.imp2 (fr' := frame 62 [(2, .fn (.func 51) [] []), (3, .ptr 0 0), (10, .mp 1), (12, .ptr 2 0), (26, .ro ChoiceK fun _ => ch), (27, .int .i64 (.t fun _ => nI ch.length)), (28, .int .i64 (.t fun _ => nI i))])
        (h' := [.box 25 [.int .i64 (.t fun _ => cap), .ro CallK fun _ => cs], .map 97 CallK I64 (fun _ => mp), .box 40 [.any, .any, .any, .int .i64 (.t fun _ => c1), .int .i64 (.t fun _ => c2), .int .i64 (.t fun _ => c3), .int .i64 (.t fun _ => c4)]]) (by cbv) (by cbv) ?_ ?_ ?_
      · (simp only [sxs, sxb, and_self, and_true, true_and, implies_true, imp_self, bne_eq_false_iff_eq, Nat.zero_add, Nat.le_refl, Int.toNat_natCast, Int.ofNat_lt, Int.natCast_nonneg, decide_eq_true_eq, decide_eq_false_iff_not, bne_iff_ne, ne_eq]; try dsimp only [Kd.T, Kds.T, AK.T, AKs.T])
      · (simp only [sxs, sxb, and_self, and_true, true_and, implies_true, imp_self, bne_eq_false_iff_eq, Nat.zero_add, Nat.le_refl, Int.toNat_natCast, Int.ofNat_lt, Int.natCast_nonneg, decide_eq_true_eq, decide_eq_false_iff_not, bne_iff_ne, ne_eq]; try dsimp only [Kd.T, Kds.T, AK.T, AKs.T])
        exact ⟨congrArg (fun z : Call => z.1) hcv, congrArg (fun z : Call => z.2.1) hcv, congrArg (fun z : Call => z.2.2.1) hcv, congrArg (fun z : Call => z.2.2.2.1) hcv⟩
      obtain ⟨n0, hn0⟩ : ∃ n0, cntC (ch.take i) (c1, c2, c3, c4, ()) = n0 := ⟨_, rfl⟩
      have hn1 : n0 ≤ i := by rw [← hn0]; exact countP_le _ ch i
      have e1 : lookD (eqK CallK) 0 mp (c1, c2, c3, c4, ()) = nI n0 := by rw [hm, hn0]
      have e3 : IntKind.i64.wrap (nI n0 + 1) = ((n0 + 1 : Nat) : Int) := w64s (by omega)
      have f1 : IntKind.i64.wrap (lookD (eqK CallK) 0 mp (c1, c2, c3, c4, ()) + 1) = ((n0 + 1 : Nat) : Int) := by rw [e1]; exact e3
      have f2 : IntKind.i64.wrap (lookD (eqK CallK) 0 (putD (eqK CallK) mp (c1, c2, c3, c4, ()) (lookD (eqK CallK) 0 mp (c1, c2, c3, c4, ()))) (c1, c2, c3, c4, ()) + 1) = ((n0 + 1 : Nat) : Int) := by rw [lookP, if_pos rfl]; exact f1
      have ih' := ih (i + 1, putD (eqK CallK) mp (c1, c2, c3, c4, ()) (nI (n0 + 1))) ⟨by simp only; omega, fun c' => by
        rw [lookP, hstep c', hm c']
        by_cases q : c' = (c1, c2, c3, c4, ())
        · rw [if_pos q, if_pos (by simp [q]), q, hn0]
        · rw [if_neg q, if_neg (by simpa using fun e => q e.symm)]
          rfl⟩ (by simp only; omega)
      refine AM.orders hG (by cbv) ?_
      intro o ho
      simp only [List.mem_cons, List.not_mem_nil, or_false] at ho
      rcases ho with rfl | rfl | rfl | rfl | rfl | rfl | rfl | rfl | rfl | rfl | rfl | rfl | rfl | rfl | rfl | rfl | rfl | rfl
      all_goals
        refine AM.run2 hG 100 (by cbv) ?_ ?_
        · (simp only [sxs, sxb, and_self, and_true, true_and, implies_true, imp_self, bne_eq_false_iff_eq, Nat.zero_add, Nat.le_refl, Int.toNat_natCast, Int.ofNat_lt, Int.natCast_nonneg, decide_eq_true_eq, decide_eq_false_iff_not, bne_iff_ne, ne_eq]; try dsimp only [Kd.T, Kds.T, AK.T, AKs.T])
          exact idxP _ _ _
        refine AM.ren hB [0, 1] (by cbv) (by cbv) (by cbv) ?_ ?_ ih'
        · (simp only [sxs, sxb, and_self, and_true, true_and, implies_true, imp_self, bne_eq_false_iff_eq, Nat.zero_add, Nat.le_refl, Int.toNat_natCast, Int.ofNat_lt, Int.natCast_nonneg, decide_eq_true_eq, decide_eq_false_iff_not, bne_iff_ne, ne_eq]; try dsimp only [Kd.T, Kds.T, AK.T, AKs.T])
          rw [w64s (by omega)]
        · (simp only [sxs, sxb, and_self, and_true, true_and, implies_true, imp_self, bne_eq_false_iff_eq, Nat.zero_add, Nat.le_refl, Int.toNat_natCast, Int.ofNat_lt, Int.natCast_nonneg, decide_eq_true_eq, decide_eq_false_iff_not, bne_iff_ne, ne_eq]; try dsimp only [Kd.T, Kds.T, AK.T, AKs.T])
          exact (setP _ _ _ _).trans (congrArg (putD (eqK CallK) mp (c1, c2, c3, c4, ())) (by first | exact f1 | exact f2))
    clear ih
    rw [List.take_of_length_le (by omega)] at hm
    refine AM.run2 hG 100 (by cbv) ?_ ?_
    · (simp only [sxs, sxb, and_self, and_true, true_and, implies_true, imp_self, bne_eq_false_iff_eq, Nat.zero_add, Nat.le_refl, Int.toNat_natCast, Int.ofNat_lt, Int.natCast_nonneg, decide_eq_true_eq, decide_eq_false_iff_not, bne_iff_ne, ne_eq]; try dsimp only [Kd.T, Kds.T, AK.T, AKs.T])
    refine AM.emptySlot 13 38 CallK rfl ?_
    have hval := fun c (hc : c ∈ cs) => all_times (t := (cap, cs, ())) (l := l) (by rw [hall]; exact h) hc
    rw [hall] at hval
    simp only at hval
    refine AM.loopI (fun z : Nat × List Call => (frame 62 [(2, .fn (.func 51) [] []), (3, .ptr 0 0), (10, .mp 1), (13, .sl 2 4 (.l 0) (.t fun _ => z.2.length)), (41, .ro CallK fun _ => cs), (42, .int .i64 (.t fun _ => nI cs.length)), (43, .int .i64 (.t fun _ => nI z.1))],
      [.box 25 [.int .i64 (.t fun _ => cap), .ro CallK fun _ => cs], .map 97 CallK I64 (fun _ => mp), .row 38 CallK (fun _ => z.2)]))
      (fun z => z.1 ≤ cs.length ∧ z.2.length ≤ z.1 ∧ z.2 = (cs.take z.1).filter (pickN ch 2 8)) (fun z => cs.length - z.1) (0, []) ⟨by simp, by simp, by simp⟩ ?_ ?_ ?_
    · cbv; (simp only [sxs, sxb, and_self, and_true, true_and, implies_true, imp_self, bne_eq_false_iff_eq, Nat.zero_add, Nat.le_refl, Int.toNat_natCast, Int.ofNat_lt, Int.natCast_nonneg, decide_eq_true_eq, decide_eq_false_iff_not, bne_iff_ne, ne_eq]; try dsimp only [Kd.T, Kds.T, AK.T, AKs.T]); all_goals ((repeat' apply And.intro) <;> first | rfl | assumption | exact trivial)
    · cbv; (simp only [sxs, sxb, and_self, and_true, true_and, implies_true, imp_self, bne_eq_false_iff_eq, Nat.zero_add, Nat.le_refl, Int.toNat_natCast, Int.ofNat_lt, Int.natCast_nonneg, decide_eq_true_eq, decide_eq_false_iff_not, bne_iff_ne, ne_eq]; try dsimp only [Kd.T, Kds.T, AK.T, AKs.T]); all_goals ((repeat' apply And.intro) <;> first | rfl | assumption | exact trivial)
    rintro ⟨j, m⟩ ⟨hj, hml, he⟩ ih
    simp only at hj hml he
    refine AM.run2 hG 100 (by cbv) ?_ ?_
    · (simp only [sxs, sxb, and_self, and_true, true_and, implies_true, imp_self, bne_eq_false_iff_eq, Nat.zero_add, Nat.le_refl, Int.toNat_natCast, Int.ofNat_lt, Int.natCast_nonneg, decide_eq_true_eq, decide_eq_false_iff_not, bne_iff_ne, ne_eq]; try dsimp only [Kd.T, Kds.T, AK.T, AKs.T])
    refine AM.case 44 rfl (fun h2 => ?_) (fun h2 => ?_) <;> (simp only [sxs, sxb, and_self, and_true, true_and, implies_true, imp_self, bne_eq_false_iff_eq, Nat.zero_add, Nat.le_refl, Int.toNat_natCast, Int.ofNat_lt, Int.natCast_nonneg, decide_eq_true_eq, decide_eq_false_iff_not, bne_iff_ne, ne_eq] at h2; try dsimp only [Kd.T, Kds.T, AK.T, AKs.T] at h2)
    · have hnext : (cs.take (j + 1)).filter (pickN ch 2 8) = m ++ (if pickN ch 2 8 (cs.getD j zc) = true then [cs.getD j zc] else []) := by
        rw [take_succD h2, List.filter_append, ← he]
        congr 1
        by_cases hq : pickN ch 2 8 (cs.getD j zc) = true
        · rw [if_pos hq, List.filter_cons_of_pos hq]; rfl
        · rw [if_neg hq, List.filter_cons_of_neg hq]; rfl
      have hmem : cs.getD j zc ∈ cs := by
        rw [List.getD_eq_getElem?_getD, List.getElem?_eq_getElem h2]
        exact List.getElem_mem h2
      obtain ⟨v1, v2⟩ := hval _ hmem
      have hp : (if hallN (cs.getD j zc) = true then (let n := lookD (eqK CallK) 0 mp (cs.getD j zc); (ltI 1 n)) else false) = pickN ch 2 8 (cs.getD j zc) := by
        simp only [hm, pickN, v1]
        rw [v1] at v2
        obtain ⟨n, hn⟩ : ∃ n, cntC ch (cs.getD j zc) = n := ⟨_, rfl⟩
        rw [hn] at v2 ⊢
        cases hallN (cs.getD j zc)
        · rfl
        · rw [if_pos rfl, if_pos rfl, ite_and, Bool.eq_iff_iff]
          simp only [eqI_t, leI_t, ltI_t, nI, Bool.and_eq_true]
          omega
      rw [← hp] at hnext
      refine AM.run2 hG 100 (by cbv) ?_ ?_
      · (simp only [sxs, sxb, and_self, and_true, true_and, implies_true, imp_self, bne_eq_false_iff_eq, Nat.zero_add, Nat.le_refl, Int.toNat_natCast, Int.ofNat_lt, Int.natCast_nonneg, decide_eq_true_eq, decide_eq_false_iff_not, bne_iff_ne, ne_eq]; try dsimp only [Kd.T, Kds.T, AK.T, AKs.T])
        exact h2
      refine AM.case 55 rfl (fun (h3 : (if hallN (cs.getD j zc) = true then (let n := lookD (eqK CallK) 0 mp (cs.getD j zc); (ltI 1 n)) else false) = true) => ?_) (fun (h3 : (if hallN (cs.getD j zc) = true then (let n := lookD (eqK CallK) 0 mp (cs.getD j zc); (ltI 1 n)) else false) = false) => ?_)
      · rw [if_pos h3] at hnext
        refine AM.run2 hG 100 (by cbv) ?_ ?_
        · (simp only [sxs, sxb, and_self, and_true, true_and, implies_true, imp_self, bne_eq_false_iff_eq, Nat.zero_add, Nat.le_refl, Int.toNat_natCast, Int.ofNat_lt, Int.natCast_nonneg, decide_eq_true_eq, decide_eq_false_iff_not, bne_iff_ne, ne_eq]; try dsimp only [Kd.T, Kds.T, AK.T, AKs.T])
          simp only [maxLen, List.length_take, List.length_cons, List.length_nil]
          omega
        refine AM.ren hB [0, 1, 5] (by cbv) (by cbv) (by cbv) ?_ ?_ (ih (j + 1, m ++ [cs.getD j zc]) ⟨by simp only; omega, by simp only [List.length_append, List.length_cons, List.length_nil]; omega, hnext.symm⟩ (by simp only; omega))
        · (simp only [sxs, sxb, and_self, and_true, true_and, implies_true, imp_self, bne_eq_false_iff_eq, Nat.zero_add, Nat.le_refl, Int.toNat_natCast, Int.ofNat_lt, Int.natCast_nonneg, decide_eq_true_eq, decide_eq_false_iff_not, bne_iff_ne, ne_eq]; try dsimp only [Kd.T, Kds.T, AK.T, AKs.T])
          rw [List.length_append, w64s (by omega)]
          exact ⟨rfl, rfl⟩
        · (simp only [sxs, sxb, and_self, and_true, true_and, implies_true, imp_self, bne_eq_false_iff_eq, Nat.zero_add, Nat.le_refl, Int.toNat_natCast, Int.ofNat_lt, Int.natCast_nonneg, decide_eq_true_eq, decide_eq_false_iff_not, bne_iff_ne, ne_eq]; try dsimp only [Kd.T, Kds.T, AK.T, AKs.T])
          exact rfl
      · rw [if_neg (by rw [h3]; decide), List.append_nil] at hnext
        refine AM.run2 hG 100 (by cbv) ?_ ?_
        · (simp only [sxs, sxb, and_self, and_true, true_and, implies_true, imp_self, bne_eq_false_iff_eq, Nat.zero_add, Nat.le_refl, Int.toNat_natCast, Int.ofNat_lt, Int.natCast_nonneg, decide_eq_true_eq, decide_eq_false_iff_not, bne_iff_ne, ne_eq]; try dsimp only [Kd.T, Kds.T, AK.T, AKs.T])
        refine AM.ren hB [0, 1, 2] (by cbv) (by cbv) (by cbv) ?_ ?_ (ih (j + 1, m) ⟨by simp only; omega, by simp only; omega, hnext.symm⟩ (by simp only; omega))
        · (simp only [sxs, sxb, and_self, and_true, true_and, implies_true, imp_self, bne_eq_false_iff_eq, Nat.zero_add, Nat.le_refl, Int.toNat_natCast, Int.ofNat_lt, Int.natCast_nonneg, decide_eq_true_eq, decide_eq_false_iff_not, bne_iff_ne, ne_eq]; try dsimp only [Kd.T, Kds.T, AK.T, AKs.T])
          rw [w64s (by omega)]
        · (simp only [sxs, sxb, and_self, and_true, true_and, implies_true, imp_self, bne_eq_false_iff_eq, Nat.zero_add, Nat.le_refl, Int.toNat_natCast, Int.ofNat_lt, Int.natCast_nonneg, decide_eq_true_eq, decide_eq_false_iff_not, bne_iff_ne, ne_eq]; try dsimp only [Kd.T, Kds.T, AK.T, AKs.T])
    clear ih
    rw [List.take_of_length_le (by omega)] at he
    refine AM.run2 hG 100 (by cbv) ?_ ?_
    · (simp only [sxs, sxb, and_self, and_true, true_and, implies_true, imp_self, bne_eq_false_iff_eq, Nat.zero_add, Nat.le_refl, Int.toNat_natCast, Int.ofNat_lt, Int.natCast_nonneg, decide_eq_true_eq, decide_eq_false_iff_not, bne_iff_ne, ne_eq]; try dsimp only [Kd.T, Kds.T, AK.T, AKs.T])
    refine AM.ret2 hG (by cbv) (by (simp only [sxs, sxb, and_self, and_true, true_and, implies_true, imp_self, bne_eq_false_iff_eq, Nat.zero_add, Nat.le_refl, Int.toNat_natCast, Int.ofNat_lt, Int.natCast_nonneg, decide_eq_true_eq, decide_eq_false_iff_not, bne_iff_ne, ne_eq]; try dsimp only [Kd.T, Kds.T, AK.T, AKs.T])) (hQ _ _ (FinRo.of (by cbv) (by cbv) ?_ ?_))
    · (simp only [sxs, sxb, and_self, and_true, true_and, implies_true, imp_self, bne_eq_false_iff_eq, Nat.zero_add, Nat.le_refl, Int.toNat_natCast, Int.ofNat_lt, Int.natCast_nonneg, decide_eq_true_eq, decide_eq_false_iff_not, bne_iff_ne, ne_eq]; try dsimp only [Kd.T, Kds.T, AK.T, AKs.T])
    try (simp only [sxs, sxb, and_self, and_true, true_and, implies_true, imp_self, bne_eq_false_iff_eq, Nat.zero_add, Nat.le_refl, Int.toNat_natCast, Int.ofNat_lt, Int.natCast_nonneg, decide_eq_true_eq, decide_eq_false_iff_not, bne_iff_ne, ne_eq]; try dsimp only [Kd.T, Kds.T, AK.T, AKs.T])
    rw [List.take_length, hres, if_neg (by rw [h]; decide)]
    exact ⟨he, rfl⟩
def S17 : List AV → Option FOut := sigSpec [TableK, AsksK] [CallsK, I64] (fun x : Table × List Ask × Unit => ((leftR x.1 x.2.1).1, (leftR x.1 x.2.1).2, ())) (fun x : Table × List Ask × Unit => x.1.2.1.length ≤ 1000000 ∧ x.2.1.length ≤ 1000)
theorem fn17 : FnOk Try.prog 17 S17 := by
  refine fn_of (rs := [.tmp 4, .tmp 5]) (env [(49, S49Left)] ⟨fn49Left, trivial⟩) Try.func17 (by kernel_rfl) rfl rfl Try.ntmps17 ?_
  rintro ⟨⟨(cap : Int), (cs : List Call), ⟨⟩⟩, (l : List Ask), u2⟩ ⟨hc, hl⟩ G hG hQ
  simp only at hc hl
  refine AM.run2 hG 100 (by cbv) ?_ ?_
  · (simp only [sxs, sxb, and_self, and_true, true_and, implies_true, imp_self, bne_eq_false_iff_eq, Nat.zero_add, Nat.le_refl, Int.toNat_natCast, Int.ofNat_lt, Int.natCast_nonneg, decide_eq_true_eq, decide_eq_false_iff_not, bne_iff_ne, ne_eq]; try dsimp only [Kd.T, Kds.T, AK.T, AKs.T])
    exact ⟨hc, hl⟩
  refine AM.ret2 hG (by cbv) (by (simp only [sxs, sxb, and_self, and_true, true_and, implies_true, imp_self, bne_eq_false_iff_eq, Nat.zero_add, Nat.le_refl, Int.toNat_natCast, Int.ofNat_lt, Int.natCast_nonneg, decide_eq_true_eq, decide_eq_false_iff_not, bne_iff_ne, ne_eq]; try dsimp only [Kd.T, Kds.T, AK.T, AKs.T])) (hQ _ _ (FinRo.of (by cbv) (by cbv) ?_ ?_))
  · (simp only [sxs, sxb, and_self, and_true, true_and, implies_true, imp_self, bne_eq_false_iff_eq, Nat.zero_add, Nat.le_refl, Int.toNat_natCast, Int.ofNat_lt, Int.natCast_nonneg, decide_eq_true_eq, decide_eq_false_iff_not, bne_iff_ne, ne_eq]; try dsimp only [Kd.T, Kds.T, AK.T, AKs.T])
  try (simp only [sxs, sxb, and_self, and_true, true_and, implies_true, imp_self, bne_eq_false_iff_eq, Nat.zero_add, Nat.le_refl, Int.toNat_natCast, Int.ofNat_lt, Int.natCast_nonneg, decide_eq_true_eq, decide_eq_false_iff_not, bne_iff_ne, ne_eq]; try dsimp only [Kd.T, Kds.T, AK.T, AKs.T])
def S19 : List AV → Option FOut := sigSpec [TableK, AsksK] [CallsK, I64] (fun x : Table × List Ask × Unit => ((twiceR x.1 x.2.1).1, (twiceR x.1 x.2.1).2, ())) (fun x : Table × List Ask × Unit => x.1.2.1.length ≤ 1000000 ∧ x.2.1.length ≤ 1000)
theorem fn19 : FnOk Try.prog 19 S19 := by
  refine fn_of (rs := [.tmp 4, .tmp 5]) (env [(49, S49Twice)] ⟨fn49Twice, trivial⟩) Try.func19 (by kernel_rfl) rfl rfl Try.ntmps19 ?_
  rintro ⟨⟨(cap : Int), (cs : List Call), ⟨⟩⟩, (l : List Ask), u2⟩ ⟨hc, hl⟩ G hG hQ
  simp only at hc hl
  refine AM.run2 hG 100 (by cbv) ?_ ?_
  · (simp only [sxs, sxb, and_self, and_true, true_and, implies_true, imp_self, bne_eq_false_iff_eq, Nat.zero_add, Nat.le_refl, Int.toNat_natCast, Int.ofNat_lt, Int.natCast_nonneg, decide_eq_true_eq, decide_eq_false_iff_not, bne_iff_ne, ne_eq]; try dsimp only [Kd.T, Kds.T, AK.T, AKs.T])
    exact ⟨hc, hl⟩
  refine AM.ret2 hG (by cbv) (by (simp only [sxs, sxb, and_self, and_true, true_and, implies_true, imp_self, bne_eq_false_iff_eq, Nat.zero_add, Nat.le_refl, Int.toNat_natCast, Int.ofNat_lt, Int.natCast_nonneg, decide_eq_true_eq, decide_eq_false_iff_not, bne_iff_ne, ne_eq]; try dsimp only [Kd.T, Kds.T, AK.T, AKs.T])) (hQ _ _ (FinRo.of (by cbv) (by cbv) ?_ ?_))
  · (simp only [sxs, sxb, and_self, and_true, true_and, implies_true, imp_self, bne_eq_false_iff_eq, Nat.zero_add, Nat.le_refl, Int.toNat_natCast, Int.ofNat_lt, Int.natCast_nonneg, decide_eq_true_eq, decide_eq_false_iff_not, bne_iff_ne, ne_eq]; try dsimp only [Kd.T, Kds.T, AK.T, AKs.T])
  try (simp only [sxs, sxb, and_self, and_true, true_and, implies_true, imp_self, bne_eq_false_iff_eq, Nat.zero_add, Nat.le_refl, Int.toNat_natCast, Int.ofNat_lt, Int.natCast_nonneg, decide_eq_true_eq, decide_eq_false_iff_not, bne_iff_ne, ne_eq]; try dsimp only [Kd.T, Kds.T, AK.T, AKs.T])
def lightA (t : Table) (l : List Ask) : Bool := decide ((∀ i ∈ List.range 10, i < l.length → (askL (l.getD i zA)).length ≤ 12) ∧ t.2.1.length ≤ 40 ∧ l.length ≤ 10)
def S23 : List AV → Option FOut := sigSpec [TableK, AsksK] [.bool] (fun x : Table × List Ask × Unit => (lightA x.1 x.2.1, ())) (fun _ => True)
theorem fn23 : FnOk Try.prog 23 S23 := by
  refine fn_ofB (rs := [.tmp 4]) (env [] trivial) Try.func23 (by kernel_rfl) rfl rfl Try.ntmps23 ?_
  rintro ⟨⟨(cap : Int), (cs : List Call), ⟨⟩⟩, (l : List Ask), u2⟩ _ G hG hB hQ
  have hB := GB.of hB
  refine AM.run2 hG 100 (by cbv) ?_ ?_
  · (simp only [sxs, sxb, and_self, and_true, true_and, implies_true, imp_self, bne_eq_false_iff_eq, Nat.zero_add, Nat.le_refl, Int.toNat_natCast, Int.ofNat_lt, Int.natCast_nonneg, decide_eq_true_eq, decide_eq_false_iff_not, bne_iff_ne, ne_eq]; try dsimp only [Kd.T, Kds.T, AK.T, AKs.T])
  refine AM.loopI (fun i : Nat => (frame 32 [(1, .ro AskK fun _ => l), (2, .ptr 0 0), (5, .int .i64 (.t fun _ => nI i))], [.box 25 [.int .i64 (.t fun _ => cap), .ro CallK fun _ => cs]]))
    (fun i => i ≤ l.length ∧ i ≤ 10 ∧ ∀ j, j < i → (askL (l.getD j zA)).length ≤ 12) (fun i => l.length - i) 0 ⟨by simp, by simp, fun j hj => by omega⟩ ?_ ?_ ?_
  · cbv; (simp only [sxs, sxb, and_self, and_true, true_and, implies_true, imp_self, bne_eq_false_iff_eq, Nat.zero_add, Nat.le_refl, Int.toNat_natCast, Int.ofNat_lt, Int.natCast_nonneg, decide_eq_true_eq, decide_eq_false_iff_not, bne_iff_ne, ne_eq]; try dsimp only [Kd.T, Kds.T, AK.T, AKs.T]); all_goals ((repeat' apply And.intro) <;> first | rfl | assumption | exact trivial)
  · cbv; (simp only [sxs, sxb, and_self, and_true, true_and, implies_true, imp_self, bne_eq_false_iff_eq, Nat.zero_add, Nat.le_refl, Int.toNat_natCast, Int.ofNat_lt, Int.natCast_nonneg, decide_eq_true_eq, decide_eq_false_iff_not, bne_iff_ne, ne_eq]; try dsimp only [Kd.T, Kds.T, AK.T, AKs.T]); all_goals ((repeat' apply And.intro) <;> first | rfl | assumption | exact trivial)
  rintro i ⟨hi, hi10, ht⟩ ih
  refine AM.run2 hG 100 (by cbv) ?_ ?_
  · (simp only [sxs, sxb, and_self, and_true, true_and, implies_true, imp_self, bne_eq_false_iff_eq, Nat.zero_add, Nat.le_refl, Int.toNat_natCast, Int.ofNat_lt, Int.natCast_nonneg, decide_eq_true_eq, decide_eq_false_iff_not, bne_iff_ne, ne_eq]; try dsimp only [Kd.T, Kds.T, AK.T, AKs.T])
  refine AM.case 13 rfl (fun h => ?_) (fun h => ?_)
  · replace h : (if ltI (nI i) (nI l.length) = true then ltI (nI i) 10 else false) = true := h
    rw [ite_and, Bool.and_eq_true, ltI_t, ltI_t] at h
    obtain ⟨h, h10⟩ := h
    (simp only [sxs, sxb, and_self, and_true, true_and, implies_true, imp_self, bne_eq_false_iff_eq, Nat.zero_add, Nat.le_refl, Int.toNat_natCast, Int.ofNat_lt, Int.natCast_nonneg, decide_eq_true_eq, decide_eq_false_iff_not, bne_iff_ne, ne_eq] at h h10; try dsimp only [Kd.T, Kds.T, AK.T, AKs.T] at h h10)
    refine AM.run2 hG 100 (by cbv) ?_ ?_
    · (simp only [sxs, sxb, and_self, and_true, true_and, implies_true, imp_self, bne_eq_false_iff_eq, Nat.zero_add, Nat.le_refl, Int.toNat_natCast, Int.ofNat_lt, Int.natCast_nonneg, decide_eq_true_eq, decide_eq_false_iff_not, bne_iff_ne, ne_eq]; try dsimp only [Kd.T, Kds.T, AK.T, AKs.T])
      exact h
    refine AM.case 22 rfl (fun h3 => ?_) (fun h3 => ?_) <;> (simp only [sxs, sxb, and_self, and_true, true_and, implies_true, imp_self, bne_eq_false_iff_eq, Nat.zero_add, Nat.le_refl, Int.toNat_natCast, Int.ofNat_lt, Int.natCast_nonneg, decide_eq_true_eq, decide_eq_false_iff_not, bne_iff_ne, ne_eq] at h3; try dsimp only [Kd.T, Kds.T, AK.T, AKs.T] at h3)
    · replace h3 : 12 < (askL (l.getD i zA)).length := by have : (12 : Int) < ((askL (l.getD i zA)).length : Int) := h3; omega
      refine AM.run2 hG 100 (by cbv) ?_ ?_
      · (simp only [sxs, sxb, and_self, and_true, true_and, implies_true, imp_self, bne_eq_false_iff_eq, Nat.zero_add, Nat.le_refl, Int.toNat_natCast, Int.ofNat_lt, Int.natCast_nonneg, decide_eq_true_eq, decide_eq_false_iff_not, bne_iff_ne, ne_eq]; try dsimp only [Kd.T, Kds.T, AK.T, AKs.T])
      refine AM.ret2 hG (by cbv) (by (simp only [sxs, sxb, and_self, and_true, true_and, implies_true, imp_self, bne_eq_false_iff_eq, Nat.zero_add, Nat.le_refl, Int.toNat_natCast, Int.ofNat_lt, Int.natCast_nonneg, decide_eq_true_eq, decide_eq_false_iff_not, bne_iff_ne, ne_eq]; try dsimp only [Kd.T, Kds.T, AK.T, AKs.T])) (hQ _ _ (FinRo.of (by cbv) (by cbv) ?_ ?_))
      · (simp only [sxs, sxb, and_self, and_true, true_and, implies_true, imp_self, bne_eq_false_iff_eq, Nat.zero_add, Nat.le_refl, Int.toNat_natCast, Int.ofNat_lt, Int.natCast_nonneg, decide_eq_true_eq, decide_eq_false_iff_not, bne_iff_ne, ne_eq]; try dsimp only [Kd.T, Kds.T, AK.T, AKs.T])
      try (simp only [sxs, sxb, and_self, and_true, true_and, implies_true, imp_self, bne_eq_false_iff_eq, Nat.zero_add, Nat.le_refl, Int.toNat_natCast, Int.ofNat_lt, Int.natCast_nonneg, decide_eq_true_eq, decide_eq_false_iff_not, bne_iff_ne, ne_eq]; try dsimp only [Kd.T, Kds.T, AK.T, AKs.T])
      rw [lightA, eq_comm, decide_eq_false_iff_not]
      rintro ⟨h5, _⟩
      have := h5 i (List.mem_range.2 (by omega)) h
      omega
    · replace h3 : ¬ 12 < (askL (l.getD i zA)).length := by have : ¬ (12 : Int) < ((askL (l.getD i zA)).length : Int) := h3; omega
      refine AM.run2 hG 100 (by cbv) ?_ ?_
      · (simp only [sxs, sxb, and_self, and_true, true_and, implies_true, imp_self, bne_eq_false_iff_eq, Nat.zero_add, Nat.le_refl, Int.toNat_natCast, Int.ofNat_lt, Int.natCast_nonneg, decide_eq_true_eq, decide_eq_false_iff_not, bne_iff_ne, ne_eq]; try dsimp only [Kd.T, Kds.T, AK.T, AKs.T])
      refine AM.imp2 (by cbv) (by cbv) ?_ (by (simp only [sxs, sxb, and_self, and_true, true_and, implies_true, imp_self, bne_eq_false_iff_eq, Nat.zero_add, Nat.le_refl, Int.toNat_natCast, Int.ofNat_lt, Int.natCast_nonneg, decide_eq_true_eq, decide_eq_false_iff_not, bne_iff_ne, ne_eq]; try dsimp only [Kd.T, Kds.T, AK.T, AKs.T])) (ih (i + 1) ⟨by omega, by omega, fun j hj => ?_⟩ (by omega))
      · (simp only [sxs, sxb, and_self, and_true, true_and, implies_true, imp_self, bne_eq_false_iff_eq, Nat.zero_add, Nat.le_refl, Int.toNat_natCast, Int.ofNat_lt, Int.natCast_nonneg, decide_eq_true_eq, decide_eq_false_iff_not, bne_iff_ne, ne_eq]; try dsimp only [Kd.T, Kds.T, AK.T, AKs.T])
        rw [w64s (by omega)]
      · by_cases e : j = i
        · subst e; omega
        · exact ht j (by omega)
  replace h : (if ltI (nI i) (nI l.length) = true then ltI (nI i) 10 else false) = false := h
  rw [ite_and, Bool.and_eq_false_iff, ltI_f, ltI_f] at h
  have hall : ∀ j, j < 10 → j < l.length → (askL (l.getD j zA)).length ≤ 12 := fun j h1 h2 => by
    (simp only [sxs, sxb, and_self, and_true, true_and, implies_true, imp_self, bne_eq_false_iff_eq, Nat.zero_add, Nat.le_refl, Int.toNat_natCast, Int.ofNat_lt, Int.natCast_nonneg, decide_eq_true_eq, decide_eq_false_iff_not, bne_iff_ne, ne_eq] at h; try dsimp only [Kd.T, Kds.T, AK.T, AKs.T] at h)
    exact ht j (by omega)
  clear ih h
  refine AM.run2 hG 100 (by cbv) ?_ ?_
  · (simp only [sxs, sxb, and_self, and_true, true_and, implies_true, imp_self, bne_eq_false_iff_eq, Nat.zero_add, Nat.le_refl, Int.toNat_natCast, Int.ofNat_lt, Int.natCast_nonneg, decide_eq_true_eq, decide_eq_false_iff_not, bne_iff_ne, ne_eq]; try dsimp only [Kd.T, Kds.T, AK.T, AKs.T])
  refine AM.ret2 hG (by cbv) (by (simp only [sxs, sxb, and_self, and_true, true_and, implies_true, imp_self, bne_eq_false_iff_eq, Nat.zero_add, Nat.le_refl, Int.toNat_natCast, Int.ofNat_lt, Int.natCast_nonneg, decide_eq_true_eq, decide_eq_false_iff_not, bne_iff_ne, ne_eq]; try dsimp only [Kd.T, Kds.T, AK.T, AKs.T])) (hQ _ _ (FinRo.of (by cbv) (by cbv) ?_ ?_))
  · (simp only [sxs, sxb, and_self, and_true, true_and, implies_true, imp_self, bne_eq_false_iff_eq, Nat.zero_add, Nat.le_refl, Int.toNat_natCast, Int.ofNat_lt, Int.natCast_nonneg, decide_eq_true_eq, decide_eq_false_iff_not, bne_iff_ne, ne_eq]; try dsimp only [Kd.T, Kds.T, AK.T, AKs.T])
  try (simp only [sxs, sxb, and_self, and_true, true_and, implies_true, imp_self, bne_eq_false_iff_eq, Nat.zero_add, Nat.le_refl, Int.toNat_natCast, Int.ofNat_lt, Int.natCast_nonneg, decide_eq_true_eq, decide_eq_false_iff_not, bne_iff_ne, ne_eq]; try dsimp only [Kd.T, Kds.T, AK.T, AKs.T])
  rw [lightA]
  rw [Bool.eq_iff_iff]
  simp only [Bool.and_eq_true, leI_t, decide_eq_true_eq]
  constructor
  · rintro ⟨h1, h2⟩
    exact ⟨fun j hj => hall j (List.mem_range.1 hj), by omega, by omega⟩
  · rintro ⟨_, h1, h2⟩
    exact ⟨by omega, by omega⟩
def S25 : List AV → Option FOut := sigSpec [AsksK] [AsksK] (fun x : List Ask × Unit => (x.1, ())) (fun x : List Ask × Unit => x.1.length ≤ 1000 ∧ ∀ i, i < x.1.length → (askL (x.1.getD i zA)).length ≤ 1000000)
set_option maxHeartbeats 4000000 in
theorem fn25 : FnOk Try.prog 25 S25 := by
  refine fn_ofB (rs := [.tmp 2]) (env [(52, S52)] ⟨fn52, trivial⟩) Try.func25 (by kernel_rfl) rfl rfl Try.ntmps25 ?_
  rintro ⟨(l : List Ask), u2⟩ ⟨hl, ha⟩ G hG hB hQ
  have hB := GB.of hB
  simp only at hl ha
  refine AM.run2 hG 100 (by cbv) ?_ ?_
  · (simp only [sxs, sxb, and_self, and_true, true_and, implies_true, imp_self, bne_eq_false_iff_eq, Nat.zero_add, Nat.le_refl, Int.toNat_natCast, Int.ofNat_lt, Int.natCast_nonneg, decide_eq_true_eq, decide_eq_false_iff_not, bne_iff_ne, ne_eq]; try dsimp only [Kd.T, Kds.T, AK.T, AKs.T])
  refine AM.emptySlot 3 42 AskK rfl ?_
  refine AM.loopI (fun z : Nat × List Ask => (frame 20 [(0, .ro AskK fun _ => l), (3, .sl 0 10 (.l 0) (.t fun _ => z.2.length)), (4, .int .i64 (.t fun _ => nI z.1))],
    [.row 42 AskK (fun _ => z.2)]))
    (fun z => z.1 ≤ l.length ∧ z.2.length = z.1 ∧ z.2 = l.take z.1) (fun z => l.length - z.1) (0, []) ⟨by simp, rfl, by simp⟩ ?_ ?_ ?_
  · cbv; (simp only [sxs, sxb, and_self, and_true, true_and, implies_true, imp_self, bne_eq_false_iff_eq, Nat.zero_add, Nat.le_refl, Int.toNat_natCast, Int.ofNat_lt, Int.natCast_nonneg, decide_eq_true_eq, decide_eq_false_iff_not, bne_iff_ne, ne_eq]; try dsimp only [Kd.T, Kds.T, AK.T, AKs.T]); all_goals ((repeat' apply And.intro) <;> first | rfl | assumption | exact trivial)
  · cbv; (simp only [sxs, sxb, and_self, and_true, true_and, implies_true, imp_self, bne_eq_false_iff_eq, Nat.zero_add, Nat.le_refl, Int.toNat_natCast, Int.ofNat_lt, Int.natCast_nonneg, decide_eq_true_eq, decide_eq_false_iff_not, bne_iff_ne, ne_eq]; try dsimp only [Kd.T, Kds.T, AK.T, AKs.T]); all_goals ((repeat' apply And.intro) <;> first | rfl | assumption | exact trivial)
  rintro ⟨i, m⟩ ⟨hi, hm, he⟩ ih
  simp only at hi hm he
  refine AM.run2 hG 100 (by cbv) ?_ ?_
  · (simp only [sxs, sxb, and_self, and_true, true_and, implies_true, imp_self, bne_eq_false_iff_eq, Nat.zero_add, Nat.le_refl, Int.toNat_natCast, Int.ofNat_lt, Int.natCast_nonneg, decide_eq_true_eq, decide_eq_false_iff_not, bne_iff_ne, ne_eq]; try dsimp only [Kd.T, Kds.T, AK.T, AKs.T])
  refine AM.case 8 rfl (fun h => ?_) (fun h => ?_) <;> (simp only [sxs, sxb, and_self, and_true, true_and, implies_true, imp_self, bne_eq_false_iff_eq, Nat.zero_add, Nat.le_refl, Int.toNat_natCast, Int.ofNat_lt, Int.natCast_nonneg, decide_eq_true_eq, decide_eq_false_iff_not, bne_iff_ne, ne_eq] at h; try dsimp only [Kd.T, Kds.T, AK.T, AKs.T] at h)
  · have hlen := ha i h
    refine AM.run2 hG 100 (by cbv) ?_ ?_
    · (simp only [sxs, sxb, and_self, and_true, true_and, implies_true, imp_self, bne_eq_false_iff_eq, Nat.zero_add, Nat.le_refl, Int.toNat_natCast, Int.ofNat_lt, Int.natCast_nonneg, decide_eq_true_eq, decide_eq_false_iff_not, bne_iff_ne, ne_eq]; try dsimp only [Kd.T, Kds.T, AK.T, AKs.T])
      simp only [maxLen, List.length_take, List.length_cons, List.length_nil]
      exact ⟨by omega, hlen, h⟩
    refine AM.ren hB [2] (by cbv) (by cbv) (by cbv) ?_ ?_ (ih (i + 1, m ++ [l.getD i zA]) ⟨by simp only; omega, by simp only [List.length_append, List.length_cons, List.length_nil]; omega, by rw [he, List.take_add_one, List.getElem?_eq_getElem h, List.getD_eq_getElem?_getD, List.getElem?_eq_getElem h]; rfl⟩ (by simp only; omega))
    · (simp only [sxs, sxb, and_self, and_true, true_and, implies_true, imp_self, bne_eq_false_iff_eq, Nat.zero_add, Nat.le_refl, Int.toNat_natCast, Int.ofNat_lt, Int.natCast_nonneg, decide_eq_true_eq, decide_eq_false_iff_not, bne_iff_ne, ne_eq]; try dsimp only [Kd.T, Kds.T, AK.T, AKs.T])
      rw [List.length_append, w64s (by omega)]
      exact ⟨rfl, rfl⟩
    · (simp only [sxs, sxb, and_self, and_true, true_and, implies_true, imp_self, bne_eq_false_iff_eq, Nat.zero_add, Nat.le_refl, Int.toNat_natCast, Int.ofNat_lt, Int.natCast_nonneg, decide_eq_true_eq, decide_eq_false_iff_not, bne_iff_ne, ne_eq]; try dsimp only [Kd.T, Kds.T, AK.T, AKs.T])
      exact rfl
  clear ih
  rw [List.take_of_length_le (by omega)] at he
  refine AM.run2 hG 100 (by cbv) ?_ ?_
  · (simp only [sxs, sxb, and_self, and_true, true_and, implies_true, imp_self, bne_eq_false_iff_eq, Nat.zero_add, Nat.le_refl, Int.toNat_natCast, Int.ofNat_lt, Int.natCast_nonneg, decide_eq_true_eq, decide_eq_false_iff_not, bne_iff_ne, ne_eq]; try dsimp only [Kd.T, Kds.T, AK.T, AKs.T])
  refine AM.ret2 hG (by cbv) (by (simp only [sxs, sxb, and_self, and_true, true_and, implies_true, imp_self, bne_eq_false_iff_eq, Nat.zero_add, Nat.le_refl, Int.toNat_natCast, Int.ofNat_lt, Int.natCast_nonneg, decide_eq_true_eq, decide_eq_false_iff_not, bne_iff_ne, ne_eq]; try dsimp only [Kd.T, Kds.T, AK.T, AKs.T])) (hQ _ _ (FinRo.of (by cbv) (by cbv) ?_ ?_))
  · (simp only [sxs, sxb, and_self, and_true, true_and, implies_true, imp_self, bne_eq_false_iff_eq, Nat.zero_add, Nat.le_refl, Int.toNat_natCast, Int.ofNat_lt, Int.natCast_nonneg, decide_eq_true_eq, decide_eq_false_iff_not, bne_iff_ne, ne_eq]; try dsimp only [Kd.T, Kds.T, AK.T, AKs.T])
  try (simp only [sxs, sxb, and_self, and_true, true_and, implies_true, imp_self, bne_eq_false_iff_eq, Nat.zero_add, Nat.le_refl, Int.toNat_natCast, Int.ofNat_lt, Int.natCast_nonneg, decide_eq_true_eq, decide_eq_false_iff_not, bne_iff_ne, ne_eq]; try dsimp only [Kd.T, Kds.T, AK.T, AKs.T])
  rw [List.take_length]
  exact he
end Go.Sx.Ytaijdhocmjnopaa
