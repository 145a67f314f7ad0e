/- Tables: closures, filter, without. -/
import Derived.Test.YtaijdhocmjnopaaT4
import Derived.Test.YtaijdhocmjnopaaP9
import Derived.Test.YtaijdhocmjnopaaT9
namespace Go.Sx.Ytaijdhocmjnopaa
open Go Go.Sx Go.Proofs
set_option linter.unusedVariables false
set_option linter.unusedSimpArgs false
set_option maxRecDepth 100000

def S81o : List AV → Option FOut := ownSpec (decArgs [TableK]) (fun y => .agg [.int .i64 (.t fun _ => (y ()).1.1), .sl 0 4 (.l 0) (.t fun _ => (y ()).1.2.1.length)]) (fun y => [.row 38 CallK fun _ => (y ()).1.2.1]) (fun x : Table × Unit => x.1.2.1.length ≤ 1000000)
theorem fn81o : FnOk Try.prog 81 S81o := by
  refine fn_ofO (rs := [.cell 2 25]) (env [(86, S86o)] ⟨fn86o, trivial⟩) Try.func81 (by kernel_rfl) rfl rfl Try.ntmps81 (enc := encArgs [TableK]) (dec := decArgs [TableK]) encArgs_ok (encArgs_len [TableK]) ?_
  rintro ⟨⟨(cap : Int), (l : List Call), u⟩, u2⟩ hl G hG hB hQ
  simp only at hl
  refine AM.run2 hG 100 (by cbv) ?_ ?_
  · (simp only [sxs, sxb, and_self, and_true, true_and, implies_true, imp_self, bne_eq_false_iff_eq, Nat.zero_add, Nat.le_refl, Int.toNat_natCast, Int.ofNat_lt, Int.natCast_nonneg, decide_eq_true_eq, decide_eq_false_iff_not, bne_iff_ne, ne_eq]; try dsimp only [Kd.T, Kds.T, AK.T, AKs.T])
    exact hl
  refine AM.ret2 hG (by cbv) (by (simp only [sxs, sxb, and_self, and_true, true_and, implies_true, imp_self, bne_eq_false_iff_eq, Nat.zero_add, Nat.le_refl, Int.toNat_natCast, Int.ofNat_lt, Int.natCast_nonneg, decide_eq_true_eq, decide_eq_false_iff_not, bne_iff_ne, ne_eq]; try dsimp only [Kd.T, Kds.T, AK.T, AKs.T])) (hQ _ _ (FinOwn.mk' [2] (by cbv) (by cbv) (by cbv) ?_ ?_))
  · (simp only [sxs, sxb, and_self, and_true, true_and, implies_true, imp_self, bne_eq_false_iff_eq, Nat.zero_add, Nat.le_refl, Int.toNat_natCast, Int.ofNat_lt, Int.natCast_nonneg, decide_eq_true_eq, decide_eq_false_iff_not, bne_iff_ne, ne_eq]; try dsimp only [Kd.T, Kds.T, AK.T, AKs.T])
    try all_goals ((repeat' apply And.intro) <;> first | rfl | assumption | exact trivial)
  · (simp only [sxs, sxb, and_self, and_true, true_and, implies_true, imp_self, bne_eq_false_iff_eq, Nat.zero_add, Nat.le_refl, Int.toNat_natCast, Int.ofNat_lt, Int.natCast_nonneg, decide_eq_true_eq, decide_eq_false_iff_not, bne_iff_ne, ne_eq]; try dsimp only [Kd.T, Kds.T, AK.T, AKs.T])
    try all_goals ((repeat' apply And.intro) <;> first | rfl | assumption | exact trivial)
def serveP (fl : Int) (car : Int) : Call → Bool := fun y : Call => if eqI y.2.1 fl = true then (if hallB y = true then true else eqI y.2.2.1 car) else false
def S62 : List AV → Option FOut := akSpec [.v CallK, .r I64, .r I64] [.bool] (fun x : Call × Int × Int × Unit => (match x with | (y, fl, car, _) => ((serveP fl car) y, ()))) (fun _ => True)
theorem fn62 : FnOk Try.prog 62 S62 := by
  refine fn_ofC (rs := [.tmp 4]) (env [(63, S63)] ⟨fn63, trivial⟩) Try.func62 (by kernel_rfl) rfl rfl Try.ntmps62 ?_
  rintro ⟨⟨(a : Int), (b : Int), (c : Int), (d : Int), u⟩, (fl : Int), (car : Int), w0⟩ _ G hG hB hQ
  refine AM.run2 hG 100 (by cbv) ?_ ?_
  · (simp only [sxs, sxb, and_self, and_true, true_and, implies_true, imp_self, bne_eq_false_iff_eq, Nat.zero_add, Nat.le_refl, Int.toNat_natCast, Int.ofNat_lt, Int.natCast_nonneg, decide_eq_true_eq, decide_eq_false_iff_not, bne_iff_ne, ne_eq]; try dsimp only [Kd.T, Kds.T, AK.T, AKs.T])
    try grind
  refine AM.ret2 hG (by cbv) (by (simp only [sxs, sxb, and_self, and_true, true_and, implies_true, imp_self, bne_eq_false_iff_eq, Nat.zero_add, Nat.le_refl, Int.toNat_natCast, Int.ofNat_lt, Int.natCast_nonneg, decide_eq_true_eq, decide_eq_false_iff_not, bne_iff_ne, ne_eq]; try dsimp only [Kd.T, Kds.T, AK.T, AKs.T])) (hQ _ _ (FinRo.of (by cbv) (by cbv) ?_ ?_))
  · (simp only [sxs, sxb, and_self, and_true, true_and, implies_true, imp_self, bne_eq_false_iff_eq, Nat.zero_add, Nat.le_refl, Int.toNat_natCast, Int.ofNat_lt, Int.natCast_nonneg, decide_eq_true_eq, decide_eq_false_iff_not, bne_iff_ne, ne_eq]; try dsimp only [Kd.T, Kds.T, AK.T, AKs.T])
  exact ⟨rfl⟩
def S87Serve : List AV → Option FOut := akSpec [.v CallK, .rc 62 [.r I64, .r I64]] [.bool] (fun x : Call × (Int × Int × Unit) × Unit => (match x with | (y, (fl, car, _), _) => (!(serveP fl car) y, ()))) (fun _ => True)
theorem fn87Serve : FnOk Try.prog 87 S87Serve := by
  refine fn_ofC (rs := [.tmp 3]) (env [(62, S62)] ⟨fn62, trivial⟩) Try.func87 (by kernel_rfl) rfl rfl Try.ntmps87 ?_
  rintro ⟨⟨(a : Int), (b : Int), (c : Int), (d : Int), u⟩, ⟨(fl : Int), (car : Int), w0⟩, w1⟩ _ G hG hB hQ
  refine AM.run2 hG 100 (by cbv) ?_ ?_
  · (simp only [sxs, sxb, and_self, and_true, true_and, implies_true, imp_self, bne_eq_false_iff_eq, Nat.zero_add, Nat.le_refl, Int.toNat_natCast, Int.ofNat_lt, Int.natCast_nonneg, decide_eq_true_eq, decide_eq_false_iff_not, bne_iff_ne, ne_eq]; try dsimp only [Kd.T, Kds.T, AK.T, AKs.T])
  refine AM.ret2 hG (by cbv) (by (simp only [sxs, sxb, and_self, and_true, true_and, implies_true, imp_self, bne_eq_false_iff_eq, Nat.zero_add, Nat.le_refl, Int.toNat_natCast, Int.ofNat_lt, Int.natCast_nonneg, decide_eq_true_eq, decide_eq_false_iff_not, bne_iff_ne, ne_eq]; try dsimp only [Kd.T, Kds.T, AK.T, AKs.T])) (hQ _ _ (FinRo.of (by cbv) (by cbv) ?_ ?_))
  · (simp only [sxs, sxb, and_self, and_true, true_and, implies_true, imp_self, bne_eq_false_iff_eq, Nat.zero_add, Nat.le_refl, Int.toNat_natCast, Int.ofNat_lt, Int.natCast_nonneg, decide_eq_true_eq, decide_eq_false_iff_not, bne_iff_ne, ne_eq]; try dsimp only [Kd.T, Kds.T, AK.T, AKs.T])
  exact ⟨rfl⟩
def S92FServe : List AV → Option FOut := akSpec [.v CallsK, .c 87 [.rc 62 [.r I64, .r I64]]] [I64] (fun x : List Call × ((Int × Int × Unit) × Unit) × Unit => (match x with | (l, ((fl, car, _), _), _) => (idxOf (fun y : Call => !serveP fl car y) l, ()))) (fun x : List Call × ((Int × Int × Unit) × Unit) × Unit => x.1.length ≤ 1000000)
theorem fn92FServe : FnOk Try.prog 92 S92FServe := by
  refine fn_ofC (rs := [.tmp 4]) (env [(87, S87Serve)] ⟨fn87Serve, trivial⟩) Try.func92 (by kernel_rfl) rfl rfl Try.ntmps92 ?_
  rintro ⟨(l : List Call), ⟨⟨(fl : Int), (car : Int), w0⟩, w1⟩, u2⟩ hl G hG hB hQ
  simp only at hl
  obtain ⟨p, hp⟩ : ∃ p : Call → Bool, p = fun y : Call => !serveP fl car y := ⟨_, rfl⟩
  refine AM.run2 hG 100 (by cbv) (by (simp only [sxs, sxb, and_self, and_true, true_and, implies_true, imp_self, bne_eq_false_iff_eq, Nat.zero_add, Nat.le_refl, Int.toNat_natCast, Int.ofNat_lt, Int.natCast_nonneg, decide_eq_true_eq, decide_eq_false_iff_not, bne_iff_ne, ne_eq]; try dsimp only [Kd.T, Kds.T, AK.T, AKs.T])) ?_
  refine AM.loopI (fun i : Nat => (frame 19 [(0, .ro CallK fun _ => l), (1, .fn (.func 87) [] [.fb [.fn (.func 62) [] [.fb [.int .i64 (.t fun _ => fl)] 0, .fb [.int .i64 (.t fun _ => car)] 0]] 0]), (7, .int .i64 (.t fun _ => nI l.length)), (8, .int .i64 (.t fun _ => nI i))], [])) (fun i => i ≤ l.length ∧ ∀ j, j < i → p (l.getD j zc) = false) (fun i => l.length - i) 0 ⟨by simp, fun j h => by omega⟩ ?_ ?_ ?_
  · cbv; (simp only [sxs, sxb, and_self, and_true, true_and, implies_true, imp_self, bne_eq_false_iff_eq, Nat.zero_add, Nat.le_refl, Int.toNat_natCast, Int.ofNat_lt, Int.natCast_nonneg, decide_eq_true_eq, decide_eq_false_iff_not, bne_iff_ne, ne_eq]; try dsimp only [Kd.T, Kds.T, AK.T, AKs.T]); try rfl
  · cbv
  rintro i ⟨hi, hn⟩ ih
  refine AM.run2 hG 100 (by cbv) (by (simp only [sxs, sxb, and_self, and_true, true_and, implies_true, imp_self, bne_eq_false_iff_eq, Nat.zero_add, Nat.le_refl, Int.toNat_natCast, Int.ofNat_lt, Int.natCast_nonneg, decide_eq_true_eq, decide_eq_false_iff_not, bne_iff_ne, ne_eq]; try dsimp only [Kd.T, Kds.T, AK.T, AKs.T])) ?_
  refine AM.case 9 rfl (fun h => ?_) (fun h => ?_) <;> (simp only [sxs, sxb, and_self, and_true, true_and, implies_true, imp_self, bne_eq_false_iff_eq, Nat.zero_add, Nat.le_refl, Int.toNat_natCast, Int.ofNat_lt, Int.natCast_nonneg, decide_eq_true_eq, decide_eq_false_iff_not, bne_iff_ne, ne_eq] at h; try dsimp only [Kd.T, Kds.T, AK.T, AKs.T] at h)
  · refine AM.run2 hG 100 (by cbv) ?_ ?_
    · (simp only [sxs, sxb, and_self, and_true, true_and, implies_true, imp_self, bne_eq_false_iff_eq, Nat.zero_add, Nat.le_refl, Int.toNat_natCast, Int.ofNat_lt, Int.natCast_nonneg, decide_eq_true_eq, decide_eq_false_iff_not, bne_iff_ne, ne_eq]; try dsimp only [Kd.T, Kds.T, AK.T, AKs.T])
      exact h
    refine AM.case 16 rfl (fun h1 => ?_) (fun h1 => ?_)
    · replace h1 : (fun y : Call => !serveP fl car y) (l.getD i zc) = true := h1
      rw [← hp] at h1
      refine AM.run2 hG 100 (by cbv) (by (simp only [sxs, sxb, and_self, and_true, true_and, implies_true, imp_self, bne_eq_false_iff_eq, Nat.zero_add, Nat.le_refl, Int.toNat_natCast, Int.ofNat_lt, Int.natCast_nonneg, decide_eq_true_eq, decide_eq_false_iff_not, bne_iff_ne, ne_eq]; try dsimp only [Kd.T, Kds.T, AK.T, AKs.T])) ?_
      refine AM.ret2 hG (by cbv) (by (simp only [sxs, sxb, and_self, and_true, true_and, implies_true, imp_self, bne_eq_false_iff_eq, Nat.zero_add, Nat.le_refl, Int.toNat_natCast, Int.ofNat_lt, Int.natCast_nonneg, decide_eq_true_eq, decide_eq_false_iff_not, bne_iff_ne, ne_eq]; try dsimp only [Kd.T, Kds.T, AK.T, AKs.T])) (hQ _ _ (FinRo.of (by cbv) (by cbv) ?_ ?_))
      · (simp only [sxs, sxb, and_self, and_true, true_and, implies_true, imp_self, bne_eq_false_iff_eq, Nat.zero_add, Nat.le_refl, Int.toNat_natCast, Int.ofNat_lt, Int.natCast_nonneg, decide_eq_true_eq, decide_eq_false_iff_not, bne_iff_ne, ne_eq]; try dsimp only [Kd.T, Kds.T, AK.T, AKs.T])
      try (simp only [sxs, sxb, and_self, and_true, true_and, implies_true, imp_self, bne_eq_false_iff_eq, Nat.zero_add, Nat.le_refl, Int.toNat_natCast, Int.ofNat_lt, Int.natCast_nonneg, decide_eq_true_eq, decide_eq_false_iff_not, bne_iff_ne, ne_eq]; try dsimp only [Kd.T, Kds.T, AK.T, AKs.T])
      rw [← hp, idxOf_at h hn h1]
    · replace h1 : (fun y : Call => !serveP fl car y) (l.getD i zc) = false := h1
      rw [← hp] at h1
      refine AM.run2 hG 100 (by cbv) (by (simp only [sxs, sxb, and_self, and_true, true_and, implies_true, imp_self, bne_eq_false_iff_eq, Nat.zero_add, Nat.le_refl, Int.toNat_natCast, Int.ofNat_lt, Int.natCast_nonneg, decide_eq_true_eq, decide_eq_false_iff_not, bne_iff_ne, ne_eq]; try dsimp only [Kd.T, Kds.T, AK.T, AKs.T])) ?_
      refine AM.imp2 (by cbv) (by cbv) ?_ (by (simp only [sxs, sxb, and_self, and_true, true_and, implies_true, imp_self, bne_eq_false_iff_eq, Nat.zero_add, Nat.le_refl, Int.toNat_natCast, Int.ofNat_lt, Int.natCast_nonneg, decide_eq_true_eq, decide_eq_false_iff_not, bne_iff_ne, ne_eq]; try dsimp only [Kd.T, Kds.T, AK.T, AKs.T])) (ih (i + 1) ⟨by omega, ?_⟩ (by omega))
      · (simp only [sxs, sxb, and_self, and_true, true_and, implies_true, imp_self, bne_eq_false_iff_eq, Nat.zero_add, Nat.le_refl, Int.toNat_natCast, Int.ofNat_lt, Int.natCast_nonneg, decide_eq_true_eq, decide_eq_false_iff_not, bne_iff_ne, ne_eq]; try dsimp only [Kd.T, Kds.T, AK.T, AKs.T]); rw [w64s (by omega)]
      · intro j hj
        by_cases e : j = i
        · rw [e]; exact h1
        · exact hn j (by omega)
  · refine AM.run2 hG 100 (by cbv) (by (simp only [sxs, sxb, and_self, and_true, true_and, implies_true, imp_self, bne_eq_false_iff_eq, Nat.zero_add, Nat.le_refl, Int.toNat_natCast, Int.ofNat_lt, Int.natCast_nonneg, decide_eq_true_eq, decide_eq_false_iff_not, bne_iff_ne, ne_eq]; try dsimp only [Kd.T, Kds.T, AK.T, AKs.T])) ?_
    refine AM.ret2 hG (by cbv) (by (simp only [sxs, sxb, and_self, and_true, true_and, implies_true, imp_self, bne_eq_false_iff_eq, Nat.zero_add, Nat.le_refl, Int.toNat_natCast, Int.ofNat_lt, Int.natCast_nonneg, decide_eq_true_eq, decide_eq_false_iff_not, bne_iff_ne, ne_eq]; try dsimp only [Kd.T, Kds.T, AK.T, AKs.T])) (hQ _ _ (FinRo.of (by cbv) (by cbv) ?_ ?_))
    · (simp only [sxs, sxb, and_self, and_true, true_and, implies_true, imp_self, bne_eq_false_iff_eq, Nat.zero_add, Nat.le_refl, Int.toNat_natCast, Int.ofNat_lt, Int.natCast_nonneg, decide_eq_true_eq, decide_eq_false_iff_not, bne_iff_ne, ne_eq]; try dsimp only [Kd.T, Kds.T, AK.T, AKs.T])
    try (simp only [sxs, sxb, and_self, and_true, true_and, implies_true, imp_self, bne_eq_false_iff_eq, Nat.zero_add, Nat.le_refl, Int.toNat_natCast, Int.ofNat_lt, Int.natCast_nonneg, decide_eq_true_eq, decide_eq_false_iff_not, bne_iff_ne, ne_eq]; try dsimp only [Kd.T, Kds.T, AK.T, AKs.T])
    rw [← hp, idxOf_none fun j hj => hn j (by omega)]
def S71Serve : List AV → Option FOut := akSpec [.v TableK, .c 62 [.r I64, .r I64]] [CallsK] (fun x : Table × (Int × Int × Unit) × Unit => (match x with | (t, (fl, car, _), _) => (t.2.1.filter (serveP fl car), ()))) (fun x : Table × (Int × Int × Unit) × Unit => x.1.2.1.length ≤ 1000000)
theorem fn71Serve : FnOk Try.prog 71 S71Serve := by
  refine fn_ofC (rs := [.tmp 4]) (env [(86, S86o), (87, S87Serve), (92, S92FServe)] ⟨fn86o, fn87Serve, fn92FServe, trivial⟩) Try.func71 (by kernel_rfl) rfl rfl Try.ntmps71 ?_
  rintro ⟨⟨(cap : Int), (l : List Call), u⟩, ⟨(fl : Int), (car : Int), w0⟩, w1⟩ hl G hG hB hQ
  simp only at hl
  have hB := GB.of hB
  refine AM.run2 hG 100 (by cbv) ?_ ?_
  · (simp only [sxs, sxb, and_self, and_true, true_and, implies_true, imp_self, bne_eq_false_iff_eq, Nat.zero_add, Nat.le_refl, Int.toNat_natCast, Int.ofNat_lt, Int.natCast_nonneg, decide_eq_true_eq, decide_eq_false_iff_not, bne_iff_ne, ne_eq]; try dsimp only [Kd.T, Kds.T, AK.T, AKs.T])
    try exact hl
  refine AM.inlineB hG (by cbv) rfl (by cbv) Try.func82 (by kernel_rfl) rfl rfl Try.ntmps82 fun G1 hG1 hB1 hQ1 => ?_

  replace hB1 : GB G1 3 := ⟨hB1⟩
  obtain ⟨p, hp⟩ : ∃ p : Call → Bool, p = fun y : Call => !serveP fl car y := ⟨_, rfl⟩
  refine AM.run2 hG1 100 (by cbv) ?_ ?_
  · (simp only [sxs, sxb, and_self, and_true, true_and, implies_true, imp_self, bne_eq_false_iff_eq, Nat.zero_add, Nat.le_refl, Int.toNat_natCast, Int.ofNat_lt, Int.natCast_nonneg, decide_eq_true_eq, decide_eq_false_iff_not, bne_iff_ne, ne_eq]; try dsimp only [Kd.T, Kds.T, AK.T, AKs.T])
    simp only [List.take_length, List.drop_zero]
    omega
  have hge := idxOf_ge p l
  refine AM.case 12 rfl (fun e1 => ?_) (fun e1 => ?_) <;> (simp only [sxs, sxb, and_self, and_true, true_and, implies_true, imp_self, bne_eq_false_iff_eq, Nat.zero_add, Nat.le_refl, Int.toNat_natCast, Int.ofNat_lt, Int.natCast_nonneg, decide_eq_true_eq, decide_eq_false_iff_not, bne_iff_ne, ne_eq] at e1; try dsimp only [Kd.T, Kds.T, AK.T, AKs.T] at e1)
  · replace e1 : idxOf (fun y : Call => !serveP fl car y) ((l.drop 0).take l.length) = -1 := e1
    rw [List.drop_zero, List.take_length, ← hp] at e1
    have hend := idxOf_neg e1
    refine AM.run2 hG1 100 (by cbv) ?_ ?_
    · (simp only [sxs, sxb, and_self, and_true, true_and, implies_true, imp_self, bne_eq_false_iff_eq, Nat.zero_add, Nat.le_refl, Int.toNat_natCast, Int.ofNat_lt, Int.natCast_nonneg, decide_eq_true_eq, decide_eq_false_iff_not, bne_iff_ne, ne_eq]; try dsimp only [Kd.T, Kds.T, AK.T, AKs.T])
    refine AM.ret2 hG1 (by cbv) (by (simp only [sxs, sxb, and_self, and_true, true_and, implies_true, imp_self, bne_eq_false_iff_eq, Nat.zero_add, Nat.le_refl, Int.toNat_natCast, Int.ofNat_lt, Int.natCast_nonneg, decide_eq_true_eq, decide_eq_false_iff_not, bne_iff_ne, ne_eq]; try dsimp only [Kd.T, Kds.T, AK.T, AKs.T])) (hQ1 _ _ ?_)
    refine AM.run2 hG 100 (by cbv) ?_ ?_
    · (simp only [sxs, sxb, and_self, and_true, true_and, implies_true, imp_self, bne_eq_false_iff_eq, Nat.zero_add, Nat.le_refl, Int.toNat_natCast, Int.ofNat_lt, Int.natCast_nonneg, decide_eq_true_eq, decide_eq_false_iff_not, bne_iff_ne, ne_eq]; try dsimp only [Kd.T, Kds.T, AK.T, AKs.T])
    refine AM.ret2 hG (by cbv) (by (simp only [sxs, sxb, and_self, and_true, true_and, implies_true, imp_self, bne_eq_false_iff_eq, Nat.zero_add, Nat.le_refl, Int.toNat_natCast, Int.ofNat_lt, Int.natCast_nonneg, decide_eq_true_eq, decide_eq_false_iff_not, bne_iff_ne, ne_eq]; try dsimp only [Kd.T, Kds.T, AK.T, AKs.T])) (hQ _ _ (FinRo.of (by cbv) (by cbv) ?_ ?_))
    · (simp only [sxs, sxb, and_self, and_true, true_and, implies_true, imp_self, bne_eq_false_iff_eq, Nat.zero_add, Nat.le_refl, Int.toNat_natCast, Int.ofNat_lt, Int.natCast_nonneg, decide_eq_true_eq, decide_eq_false_iff_not, bne_iff_ne, ne_eq]; try dsimp only [Kd.T, Kds.T, AK.T, AKs.T])
    try (simp only [sxs, sxb, and_self, and_true, true_and, implies_true, imp_self, bne_eq_false_iff_eq, Nat.zero_add, Nat.le_refl, Int.toNat_natCast, Int.ofNat_lt, Int.natCast_nonneg, decide_eq_true_eq, decide_eq_false_iff_not, bne_iff_ne, ne_eq]; try dsimp only [Kd.T, Kds.T, AK.T, AKs.T])
    rw [List.take_length]
    rw [hp] at hend
    simpa using hend.symm
  replace e1 : ¬ idxOf (fun y : Call => !serveP fl car y) ((l.drop 0).take l.length) = -1 := e1
  rw [List.drop_zero, List.take_length, ← hp] at e1
  obtain ⟨i0, hi0⟩ : ∃ n : Nat, idxOf p l = n := ⟨(idxOf p l).toNat, by omega⟩
  have hD0 := DelI.start 0 hi0
  simp only [List.replicate, List.append_nil] at hD0
  refine AM.run2 hG1 100 (by cbv) (by (simp only [sxs, sxb, and_self, and_true, true_and, implies_true, imp_self, bne_eq_false_iff_eq, Nat.zero_add, Nat.le_refl, Int.toNat_natCast, Int.ofNat_lt, Int.natCast_nonneg, decide_eq_true_eq, decide_eq_false_iff_not, bne_iff_ne, ne_eq]; try dsimp only [Kd.T, Kds.T, AK.T, AKs.T])) ?_
  refine AM.loopI (fun y : List Call × Nat × Nat => (frame 42 [(0, .sl 2 4 (.l 0) (.t fun _ => l.length)), (1, .fn (.func 87) [] [.ptr 1 0]), (5, .int .i64 (.t fun _ => nI y.2.1)), (6, .int .i64 (.t fun _ => nI y.2.2))], [.box 25 [.int .i64 (.t fun _ => cap), .ro CallK fun _ => l], .box 83 [.fn (.func 62) [] [.fb [.int .i64 (.t fun _ => fl)] 0, .fb [.int .i64 (.t fun _ => car)] 0]], .row 38 CallK (fun _ => y.1)]))
    (fun y => DelI p l 0 y.1 y.2.1 y.2.2) (fun y => l.length - y.2.2) (l, i0, i0 + 1) hD0 ?_ ?_ ?_
  · cbv; (simp only [sxs, sxb, and_self, and_true, true_and, implies_true, imp_self, bne_eq_false_iff_eq, Nat.zero_add, Nat.le_refl, Int.toNat_natCast, Int.ofNat_lt, Int.natCast_nonneg, decide_eq_true_eq, decide_eq_false_iff_not, bne_iff_ne, ne_eq]; try dsimp only [Kd.T, Kds.T, AK.T, AKs.T])
    have e2 : idxOf (fun y : Call => !serveP fl car y) l = i0 := by rw [← hp]; exact hi0
    refine ⟨by simpa using e2, ?_⟩
    refine Eq.trans (congrArg (fun z => IntKind.i64.wrap (z + 1)) (by simpa using e2)) (w64s (by have := idxOf_spec hi0; omega))
  · cbv; (simp only [sxs, sxb, and_self, and_true, true_and, implies_true, imp_self, bne_eq_false_iff_eq, Nat.zero_add, Nat.le_refl, Int.toNat_natCast, Int.ofNat_lt, Int.natCast_nonneg, decide_eq_true_eq, decide_eq_false_iff_not, bne_iff_ne, ne_eq]; try dsimp only [Kd.T, Kds.T, AK.T, AKs.T])
    try all_goals ((repeat' apply And.intro) <;> first | rfl | assumption | exact trivial)
  rintro ⟨R1, i, j⟩ hD ih1
  simp only at hD ih1
  have hRl1 := hD.len
  have hij := hD.ij
  have hjl := hD.jl
  refine AM.run2 hG1 100 (by cbv) (by (simp only [sxs, sxb, and_self, and_true, true_and, implies_true, imp_self, bne_eq_false_iff_eq, Nat.zero_add, Nat.le_refl, Int.toNat_natCast, Int.ofNat_lt, Int.natCast_nonneg, decide_eq_true_eq, decide_eq_false_iff_not, bne_iff_ne, ne_eq]; try dsimp only [Kd.T, Kds.T, AK.T, AKs.T])) ?_
  refine AM.case 19 rfl (fun e2 => ?_) (fun e2 => ?_) <;> (simp only [sxs, sxb, and_self, and_true, true_and, implies_true, imp_self, bne_eq_false_iff_eq, Nat.zero_add, Nat.le_refl, Int.toNat_natCast, Int.ofNat_lt, Int.natCast_nonneg, decide_eq_true_eq, decide_eq_false_iff_not, bne_iff_ne, ne_eq] at e2; try dsimp only [Kd.T, Kds.T, AK.T, AKs.T] at e2)
  · have hat := hD.at e2
    refine AM.run2 hG1 100 (by cbv) ?_ ?_
    · (simp only [sxs, sxb, and_self, and_true, true_and, implies_true, imp_self, bne_eq_false_iff_eq, Nat.zero_add, Nat.le_refl, Int.toNat_natCast, Int.ofNat_lt, Int.natCast_nonneg, decide_eq_true_eq, decide_eq_false_iff_not, bne_iff_ne, ne_eq]; try dsimp only [Kd.T, Kds.T, AK.T, AKs.T])
      omega
    refine AM.case 29 rfl (fun e3 => ?_) (fun e3 => ?_) <;> (simp only [sxs, sxb, and_self, and_true, true_and, implies_true, imp_self, bne_eq_false_iff_eq, Nat.zero_add, Nat.le_refl, Int.toNat_natCast, Int.ofNat_lt, Int.natCast_nonneg, decide_eq_true_eq, decide_eq_false_iff_not, bne_iff_ne, ne_eq] at e3; try dsimp only [Kd.T, Kds.T, AK.T, AKs.T] at e3)
    · replace e3 : (fun y : Call => !serveP fl car y) (R1.getD j zc) = false := by first | exact e3 | (cases hx : (fun y : Call => !serveP fl car y) (R1.getD j zc); rfl; exact absurd e3 (by simp_all))
      rw [hat, ← hp] at e3
      have hD1 := hD.keep e2 e3
      rw [← hat] at hD1
      refine AM.run2 hG1 100 (by cbv) ?_ ?_
      · (simp only [sxs, sxb, and_self, and_true, true_and, implies_true, imp_self, bne_eq_false_iff_eq, Nat.zero_add, Nat.le_refl, Int.toNat_natCast, Int.ofNat_lt, Int.natCast_nonneg, decide_eq_true_eq, decide_eq_false_iff_not, bne_iff_ne, ne_eq]; try dsimp only [Kd.T, Kds.T, AK.T, AKs.T])
        omega
      obtain ⟨R2, hR2⟩ : ∃ R2, R1.set i (R1.getD j zc) = R2 := ⟨_, rfl⟩
      rw [hR2] at hD1
      refine AM.ren hB1 [0, 1, 2] (by cbv) (by cbv) (by cbv) ?_ ?_ (ih1 (R2, i + 1, j + 1) hD1 (by simp only; omega))
      · (simp only [sxs, sxb, and_self, and_true, true_and, implies_true, imp_self, bne_eq_false_iff_eq, Nat.zero_add, Nat.le_refl, Int.toNat_natCast, Int.ofNat_lt, Int.natCast_nonneg, decide_eq_true_eq, decide_eq_false_iff_not, bne_iff_ne, ne_eq]; try dsimp only [Kd.T, Kds.T, AK.T, AKs.T])
        exact ⟨w64s (by omega), w64s (by omega)⟩
      · (simp only [sxs, sxb, and_self, and_true, true_and, implies_true, imp_self, bne_eq_false_iff_eq, Nat.zero_add, Nat.le_refl, Int.toNat_natCast, Int.ofNat_lt, Int.natCast_nonneg, decide_eq_true_eq, decide_eq_false_iff_not, bne_iff_ne, ne_eq]; try dsimp only [Kd.T, Kds.T, AK.T, AKs.T])
        rw [← hR2]
    · replace e3 : (fun y : Call => !serveP fl car y) (R1.getD j zc) = true := by first | exact e3 | (cases hx : (fun y : Call => !serveP fl car y) (R1.getD j zc); exact absurd e3 (by simp_all); rfl)
      rw [hat, ← hp] at e3
      have hD1 := hD.del e2 e3
      refine AM.run2 hG1 100 (by cbv) ?_ ?_
      · (simp only [sxs, sxb, and_self, and_true, true_and, implies_true, imp_self, bne_eq_false_iff_eq, Nat.zero_add, Nat.le_refl, Int.toNat_natCast, Int.ofNat_lt, Int.natCast_nonneg, decide_eq_true_eq, decide_eq_false_iff_not, bne_iff_ne, ne_eq]; try dsimp only [Kd.T, Kds.T, AK.T, AKs.T])
      refine AM.ren hB1 [0, 1, 2] (by cbv) (by cbv) (by cbv) ?_ ?_ (ih1 (R1, i, j + 1) hD1 (by simp only; omega))
      · (simp only [sxs, sxb, and_self, and_true, true_and, implies_true, imp_self, bne_eq_false_iff_eq, Nat.zero_add, Nat.le_refl, Int.toNat_natCast, Int.ofNat_lt, Int.natCast_nonneg, decide_eq_true_eq, decide_eq_false_iff_not, bne_iff_ne, ne_eq]; try dsimp only [Kd.T, Kds.T, AK.T, AKs.T])
        exact w64s (by omega)
      · (simp only [sxs, sxb, and_self, and_true, true_and, implies_true, imp_self, bne_eq_false_iff_eq, Nat.zero_add, Nat.le_refl, Int.toNat_natCast, Int.ofNat_lt, Int.natCast_nonneg, decide_eq_true_eq, decide_eq_false_iff_not, bne_iff_ne, ne_eq]; try dsimp only [Kd.T, Kds.T, AK.T, AKs.T])
  · obtain rfl : j = l.length := by omega
    obtain ⟨hi1, hfin⟩ := hD.fin
    clear ih1
    refine AM.run2 hG1 100 (by cbv) ?_ ?_
    · (simp only [sxs, sxb, and_self, and_true, true_and, implies_true, imp_self, bne_eq_false_iff_eq, Nat.zero_add, Nat.le_refl, Int.toNat_natCast, Int.ofNat_lt, Int.natCast_nonneg, decide_eq_true_eq, decide_eq_false_iff_not, bne_iff_ne, ne_eq]; try dsimp only [Kd.T, Kds.T, AK.T, AKs.T])
      omega
    obtain ⟨l2, hend⟩ : ∃ l2, l.filter (fun x => !p x) = l2 := ⟨_, rfl⟩
    rw [hend] at hi1 hfin
    obtain ⟨R2, hR2⟩ : ∃ R2, R1.take i ++ List.replicate (l.length - i) zc ++ R1.drop (i + (l.length - i)) = R2 := ⟨_, rfl⟩
    rw [hR2] at hfin
    have hv2 : R2.take i = l2 := by rw [hfin, hi1, List.take_left']; rfl
    have hil : l2.length ≤ l.length := by rw [← hend]; exact List.length_filter_le _ _
    refine AM.ret2 hG1 (by cbv) (by (simp only [sxs, sxb, and_self, and_true, true_and, implies_true, imp_self, bne_eq_false_iff_eq, Nat.zero_add, Nat.le_refl, Int.toNat_natCast, Int.ofNat_lt, Int.natCast_nonneg, decide_eq_true_eq, decide_eq_false_iff_not, bne_iff_ne, ne_eq]; try dsimp only [Kd.T, Kds.T, AK.T, AKs.T])) (hQ1 _ _ ?_)
    refine AM.run2 hG 100 (by cbv) ?_ ?_
    · (simp only [sxs, sxb, and_self, and_true, true_and, implies_true, imp_self, bne_eq_false_iff_eq, Nat.zero_add, Nat.le_refl, Int.toNat_natCast, Int.ofNat_lt, Int.natCast_nonneg, decide_eq_true_eq, decide_eq_false_iff_not, bne_iff_ne, ne_eq]; try dsimp only [Kd.T, Kds.T, AK.T, AKs.T])
    refine AM.ret2 hG (by cbv) (by (simp only [sxs, sxb, and_self, and_true, true_and, implies_true, imp_self, bne_eq_false_iff_eq, Nat.zero_add, Nat.le_refl, Int.toNat_natCast, Int.ofNat_lt, Int.natCast_nonneg, decide_eq_true_eq, decide_eq_false_iff_not, bne_iff_ne, ne_eq]; try dsimp only [Kd.T, Kds.T, AK.T, AKs.T])) (hQ _ _ (FinRo.of (by cbv) (by cbv) ?_ ?_))
    · (simp only [sxs, sxb, and_self, and_true, true_and, implies_true, imp_self, bne_eq_false_iff_eq, Nat.zero_add, Nat.le_refl, Int.toNat_natCast, Int.ofNat_lt, Int.natCast_nonneg, decide_eq_true_eq, decide_eq_false_iff_not, bne_iff_ne, ne_eq]; try dsimp only [Kd.T, Kds.T, AK.T, AKs.T])
      simp only [List.length_append, List.length_take, List.length_replicate, List.length_drop]
      omega
    try (simp only [sxs, sxb, and_self, and_true, true_and, implies_true, imp_self, bne_eq_false_iff_eq, Nat.zero_add, Nat.le_refl, Int.toNat_natCast, Int.ofNat_lt, Int.natCast_nonneg, decide_eq_true_eq, decide_eq_false_iff_not, bne_iff_ne, ne_eq]; try dsimp only [Kd.T, Kds.T, AK.T, AKs.T])
    rw [hR2, hv2, ← hend, hp]
    simp
def S92Serve : List AV → Option FOut := akSpec [.v CallsK, .c 62 [.r I64, .r I64]] [I64] (fun x : List Call × (Int × Int × Unit) × Unit => (match x with | (l, (fl, car, _), _) => (idxOf (serveP fl car) l, ()))) (fun x : List Call × (Int × Int × Unit) × Unit => x.1.length ≤ 1000000)
theorem fn92Serve : FnOk Try.prog 92 S92Serve := by
  refine fn_ofC (rs := [.tmp 4]) (env [(62, S62)] ⟨fn62, trivial⟩) Try.func92 (by kernel_rfl) rfl rfl Try.ntmps92 ?_
  rintro ⟨(l : List Call), ⟨(fl : Int), (car : Int), w0⟩, u2⟩ hl G hG hB hQ
  simp only at hl
  obtain ⟨p, hp⟩ : ∃ p : Call → Bool, p = serveP fl car := ⟨_, rfl⟩
  refine AM.run2 hG 100 (by cbv) (by (simp only [sxs, sxb, and_self, and_true, true_and, implies_true, imp_self, bne_eq_false_iff_eq, Nat.zero_add, Nat.le_refl, Int.toNat_natCast, Int.ofNat_lt, Int.natCast_nonneg, decide_eq_true_eq, decide_eq_false_iff_not, bne_iff_ne, ne_eq]; try dsimp only [Kd.T, Kds.T, AK.T, AKs.T])) ?_
  refine AM.loopI (fun i : Nat => (frame 19 [(0, .ro CallK fun _ => l), (1, .fn (.func 62) [] [.fb [.int .i64 (.t fun _ => fl)] 0, .fb [.int .i64 (.t fun _ => car)] 0]), (7, .int .i64 (.t fun _ => nI l.length)), (8, .int .i64 (.t fun _ => nI i))], [])) (fun i => i ≤ l.length ∧ ∀ j, j < i → p (l.getD j zc) = false) (fun i => l.length - i) 0 ⟨by simp, fun j h => by omega⟩ ?_ ?_ ?_
  · cbv; (simp only [sxs, sxb, and_self, and_true, true_and, implies_true, imp_self, bne_eq_false_iff_eq, Nat.zero_add, Nat.le_refl, Int.toNat_natCast, Int.ofNat_lt, Int.natCast_nonneg, decide_eq_true_eq, decide_eq_false_iff_not, bne_iff_ne, ne_eq]; try dsimp only [Kd.T, Kds.T, AK.T, AKs.T]); try rfl
  · cbv
  rintro i ⟨hi, hn⟩ ih
  refine AM.run2 hG 100 (by cbv) (by (simp only [sxs, sxb, and_self, and_true, true_and, implies_true, imp_self, bne_eq_false_iff_eq, Nat.zero_add, Nat.le_refl, Int.toNat_natCast, Int.ofNat_lt, Int.natCast_nonneg, decide_eq_true_eq, decide_eq_false_iff_not, bne_iff_ne, ne_eq]; try dsimp only [Kd.T, Kds.T, AK.T, AKs.T])) ?_
  refine AM.case 9 rfl (fun h => ?_) (fun h => ?_) <;> (simp only [sxs, sxb, and_self, and_true, true_and, implies_true, imp_self, bne_eq_false_iff_eq, Nat.zero_add, Nat.le_refl, Int.toNat_natCast, Int.ofNat_lt, Int.natCast_nonneg, decide_eq_true_eq, decide_eq_false_iff_not, bne_iff_ne, ne_eq] at h; try dsimp only [Kd.T, Kds.T, AK.T, AKs.T] at h)
  · refine AM.run2 hG 100 (by cbv) ?_ ?_
    · (simp only [sxs, sxb, and_self, and_true, true_and, implies_true, imp_self, bne_eq_false_iff_eq, Nat.zero_add, Nat.le_refl, Int.toNat_natCast, Int.ofNat_lt, Int.natCast_nonneg, decide_eq_true_eq, decide_eq_false_iff_not, bne_iff_ne, ne_eq]; try dsimp only [Kd.T, Kds.T, AK.T, AKs.T])
      exact h
    refine AM.case 16 rfl (fun h1 => ?_) (fun h1 => ?_)
    · replace h1 : (serveP fl car) (l.getD i zc) = true := h1
      rw [← hp] at h1
      refine AM.run2 hG 100 (by cbv) (by (simp only [sxs, sxb, and_self, and_true, true_and, implies_true, imp_self, bne_eq_false_iff_eq, Nat.zero_add, Nat.le_refl, Int.toNat_natCast, Int.ofNat_lt, Int.natCast_nonneg, decide_eq_true_eq, decide_eq_false_iff_not, bne_iff_ne, ne_eq]; try dsimp only [Kd.T, Kds.T, AK.T, AKs.T])) ?_
      refine AM.ret2 hG (by cbv) (by (simp only [sxs, sxb, and_self, and_true, true_and, implies_true, imp_self, bne_eq_false_iff_eq, Nat.zero_add, Nat.le_refl, Int.toNat_natCast, Int.ofNat_lt, Int.natCast_nonneg, decide_eq_true_eq, decide_eq_false_iff_not, bne_iff_ne, ne_eq]; try dsimp only [Kd.T, Kds.T, AK.T, AKs.T])) (hQ _ _ (FinRo.of (by cbv) (by cbv) ?_ ?_))
      · (simp only [sxs, sxb, and_self, and_true, true_and, implies_true, imp_self, bne_eq_false_iff_eq, Nat.zero_add, Nat.le_refl, Int.toNat_natCast, Int.ofNat_lt, Int.natCast_nonneg, decide_eq_true_eq, decide_eq_false_iff_not, bne_iff_ne, ne_eq]; try dsimp only [Kd.T, Kds.T, AK.T, AKs.T])
      try (simp only [sxs, sxb, and_self, and_true, true_and, implies_true, imp_self, bne_eq_false_iff_eq, Nat.zero_add, Nat.le_refl, Int.toNat_natCast, Int.ofNat_lt, Int.natCast_nonneg, decide_eq_true_eq, decide_eq_false_iff_not, bne_iff_ne, ne_eq]; try dsimp only [Kd.T, Kds.T, AK.T, AKs.T])
      rw [← hp, idxOf_at h hn h1]
    · replace h1 : (serveP fl car) (l.getD i zc) = false := h1
      rw [← hp] at h1
      refine AM.run2 hG 100 (by cbv) (by (simp only [sxs, sxb, and_self, and_true, true_and, implies_true, imp_self, bne_eq_false_iff_eq, Nat.zero_add, Nat.le_refl, Int.toNat_natCast, Int.ofNat_lt, Int.natCast_nonneg, decide_eq_true_eq, decide_eq_false_iff_not, bne_iff_ne, ne_eq]; try dsimp only [Kd.T, Kds.T, AK.T, AKs.T])) ?_
      refine AM.imp2 (by cbv) (by cbv) ?_ (by (simp only [sxs, sxb, and_self, and_true, true_and, implies_true, imp_self, bne_eq_false_iff_eq, Nat.zero_add, Nat.le_refl, Int.toNat_natCast, Int.ofNat_lt, Int.natCast_nonneg, decide_eq_true_eq, decide_eq_false_iff_not, bne_iff_ne, ne_eq]; try dsimp only [Kd.T, Kds.T, AK.T, AKs.T])) (ih (i + 1) ⟨by omega, ?_⟩ (by omega))
      · (simp only [sxs, sxb, and_self, and_true, true_and, implies_true, imp_self, bne_eq_false_iff_eq, Nat.zero_add, Nat.le_refl, Int.toNat_natCast, Int.ofNat_lt, Int.natCast_nonneg, decide_eq_true_eq, decide_eq_false_iff_not, bne_iff_ne, ne_eq]; try dsimp only [Kd.T, Kds.T, AK.T, AKs.T]); rw [w64s (by omega)]
      · intro j hj
        by_cases e : j = i
        · rw [e]; exact h1
        · exact hn j (by omega)
  · refine AM.run2 hG 100 (by cbv) (by (simp only [sxs, sxb, and_self, and_true, true_and, implies_true, imp_self, bne_eq_false_iff_eq, Nat.zero_add, Nat.le_refl, Int.toNat_natCast, Int.ofNat_lt, Int.natCast_nonneg, decide_eq_true_eq, decide_eq_false_iff_not, bne_iff_ne, ne_eq]; try dsimp only [Kd.T, Kds.T, AK.T, AKs.T])) ?_
    refine AM.ret2 hG (by cbv) (by (simp only [sxs, sxb, and_self, and_true, true_and, implies_true, imp_self, bne_eq_false_iff_eq, Nat.zero_add, Nat.le_refl, Int.toNat_natCast, Int.ofNat_lt, Int.natCast_nonneg, decide_eq_true_eq, decide_eq_false_iff_not, bne_iff_ne, ne_eq]; try dsimp only [Kd.T, Kds.T, AK.T, AKs.T])) (hQ _ _ (FinRo.of (by cbv) (by cbv) ?_ ?_))
    · (simp only [sxs, sxb, and_self, and_true, true_and, implies_true, imp_self, bne_eq_false_iff_eq, Nat.zero_add, Nat.le_refl, Int.toNat_natCast, Int.ofNat_lt, Int.natCast_nonneg, decide_eq_true_eq, decide_eq_false_iff_not, bne_iff_ne, ne_eq]; try dsimp only [Kd.T, Kds.T, AK.T, AKs.T])
    try (simp only [sxs, sxb, and_self, and_true, true_and, implies_true, imp_self, bne_eq_false_iff_eq, Nat.zero_add, Nat.le_refl, Int.toNat_natCast, Int.ofNat_lt, Int.natCast_nonneg, decide_eq_true_eq, decide_eq_false_iff_not, bne_iff_ne, ne_eq]; try dsimp only [Kd.T, Kds.T, AK.T, AKs.T])
    rw [← hp, idxOf_none fun j hj => hn j (by omega)]
def wipeP : Call → Bool := fun y : Call => !hallB y
def ofP (car : Int) : Call → Bool := fun y : Call => eqI y.2.2.1 car
def urgentP (now : Int) (age : Int) : Call → Bool := fun y : Call => if (if hallB y = true then leI y.2.2.2.1 now else false) = true then leI age (IntKind.i64.wrap (now - y.2.2.2.1)) else false
def S72 : List AV → Option FOut := akSpec [.v CallK, .r I64, .r I64] [.bool] (fun x : Call × Int × Int × Unit => (match x with | (y, now, age, _) => ((urgentP now age) y, ()))) (fun _ => True)
theorem fn72 : FnOk Try.prog 72 S72 := by
  refine fn_ofC (rs := [.tmp 4]) (env [(63, S63)] ⟨fn63, trivial⟩) Try.func72 (by kernel_rfl) rfl rfl Try.ntmps72 ?_
  rintro ⟨⟨(a : Int), (b : Int), (c : Int), (d : Int), u⟩, (now : Int), (age : Int), w0⟩ _ G hG hB hQ
  refine AM.run2 hG 100 (by cbv) ?_ ?_
  · (simp only [sxs, sxb, and_self, and_true, true_and, implies_true, imp_self, bne_eq_false_iff_eq, Nat.zero_add, Nat.le_refl, Int.toNat_natCast, Int.ofNat_lt, Int.natCast_nonneg, decide_eq_true_eq, decide_eq_false_iff_not, bne_iff_ne, ne_eq]; try dsimp only [Kd.T, Kds.T, AK.T, AKs.T])
    try grind
  refine AM.ret2 hG (by cbv) (by (simp only [sxs, sxb, and_self, and_true, true_and, implies_true, imp_self, bne_eq_false_iff_eq, Nat.zero_add, Nat.le_refl, Int.toNat_natCast, Int.ofNat_lt, Int.natCast_nonneg, decide_eq_true_eq, decide_eq_false_iff_not, bne_iff_ne, ne_eq]; try dsimp only [Kd.T, Kds.T, AK.T, AKs.T])) (hQ _ _ (FinRo.of (by cbv) (by cbv) ?_ ?_))
  · (simp only [sxs, sxb, and_self, and_true, true_and, implies_true, imp_self, bne_eq_false_iff_eq, Nat.zero_add, Nat.le_refl, Int.toNat_natCast, Int.ofNat_lt, Int.natCast_nonneg, decide_eq_true_eq, decide_eq_false_iff_not, bne_iff_ne, ne_eq]; try dsimp only [Kd.T, Kds.T, AK.T, AKs.T])
  exact ⟨rfl⟩
def S87Urgent : List AV → Option FOut := akSpec [.v CallK, .rc 72 [.r I64, .r I64]] [.bool] (fun x : Call × (Int × Int × Unit) × Unit => (match x with | (y, (now, age, _), _) => (!(urgentP now age) y, ()))) (fun _ => True)
theorem fn87Urgent : FnOk Try.prog 87 S87Urgent := by
  refine fn_ofC (rs := [.tmp 3]) (env [(72, S72)] ⟨fn72, trivial⟩) Try.func87 (by kernel_rfl) rfl rfl Try.ntmps87 ?_
  rintro ⟨⟨(a : Int), (b : Int), (c : Int), (d : Int), u⟩, ⟨(now : Int), (age : Int), w0⟩, w1⟩ _ G hG hB hQ
  refine AM.run2 hG 100 (by cbv) ?_ ?_
  · (simp only [sxs, sxb, and_self, and_true, true_and, implies_true, imp_self, bne_eq_false_iff_eq, Nat.zero_add, Nat.le_refl, Int.toNat_natCast, Int.ofNat_lt, Int.natCast_nonneg, decide_eq_true_eq, decide_eq_false_iff_not, bne_iff_ne, ne_eq]; try dsimp only [Kd.T, Kds.T, AK.T, AKs.T])
  refine AM.ret2 hG (by cbv) (by (simp only [sxs, sxb, and_self, and_true, true_and, implies_true, imp_self, bne_eq_false_iff_eq, Nat.zero_add, Nat.le_refl, Int.toNat_natCast, Int.ofNat_lt, Int.natCast_nonneg, decide_eq_true_eq, decide_eq_false_iff_not, bne_iff_ne, ne_eq]; try dsimp only [Kd.T, Kds.T, AK.T, AKs.T])) (hQ _ _ (FinRo.of (by cbv) (by cbv) ?_ ?_))
  · (simp only [sxs, sxb, and_self, and_true, true_and, implies_true, imp_self, bne_eq_false_iff_eq, Nat.zero_add, Nat.le_refl, Int.toNat_natCast, Int.ofNat_lt, Int.natCast_nonneg, decide_eq_true_eq, decide_eq_false_iff_not, bne_iff_ne, ne_eq]; try dsimp only [Kd.T, Kds.T, AK.T, AKs.T])
  exact ⟨rfl⟩
def S92FUrgent : List AV → Option FOut := akSpec [.v CallsK, .c 87 [.rc 72 [.r I64, .r I64]]] [I64] (fun x : List Call × ((Int × Int × Unit) × Unit) × Unit => (match x with | (l, ((now, age, _), _), _) => (idxOf (fun y : Call => !urgentP now age y) l, ()))) (fun x : List Call × ((Int × Int × Unit) × Unit) × Unit => x.1.length ≤ 1000000)
theorem fn92FUrgent : FnOk Try.prog 92 S92FUrgent := by
  refine fn_ofC (rs := [.tmp 4]) (env [(87, S87Urgent)] ⟨fn87Urgent, trivial⟩) Try.func92 (by kernel_rfl) rfl rfl Try.ntmps92 ?_
  rintro ⟨(l : List Call), ⟨⟨(now : Int), (age : Int), w0⟩, w1⟩, u2⟩ hl G hG hB hQ
  simp only at hl
  obtain ⟨p, hp⟩ : ∃ p : Call → Bool, p = fun y : Call => !urgentP now age y := ⟨_, rfl⟩
  refine AM.run2 hG 100 (by cbv) (by (simp only [sxs, sxb, and_self, and_true, true_and, implies_true, imp_self, bne_eq_false_iff_eq, Nat.zero_add, Nat.le_refl, Int.toNat_natCast, Int.ofNat_lt, Int.natCast_nonneg, decide_eq_true_eq, decide_eq_false_iff_not, bne_iff_ne, ne_eq]; try dsimp only [Kd.T, Kds.T, AK.T, AKs.T])) ?_
  refine AM.loopI (fun i : Nat => (frame 19 [(0, .ro CallK fun _ => l), (1, .fn (.func 87) [] [.fb [.fn (.func 72) [] [.fb [.int .i64 (.t fun _ => now)] 0, .fb [.int .i64 (.t fun _ => age)] 0]] 0]), (7, .int .i64 (.t fun _ => nI l.length)), (8, .int .i64 (.t fun _ => nI i))], [])) (fun i => i ≤ l.length ∧ ∀ j, j < i → p (l.getD j zc) = false) (fun i => l.length - i) 0 ⟨by simp, fun j h => by omega⟩ ?_ ?_ ?_
  · cbv; (simp only [sxs, sxb, and_self, and_true, true_and, implies_true, imp_self, bne_eq_false_iff_eq, Nat.zero_add, Nat.le_refl, Int.toNat_natCast, Int.ofNat_lt, Int.natCast_nonneg, decide_eq_true_eq, decide_eq_false_iff_not, bne_iff_ne, ne_eq]; try dsimp only [Kd.T, Kds.T, AK.T, AKs.T]); try rfl
  · cbv
  rintro i ⟨hi, hn⟩ ih
  refine AM.run2 hG 100 (by cbv) (by (simp only [sxs, sxb, and_self, and_true, true_and, implies_true, imp_self, bne_eq_false_iff_eq, Nat.zero_add, Nat.le_refl, Int.toNat_natCast, Int.ofNat_lt, Int.natCast_nonneg, decide_eq_true_eq, decide_eq_false_iff_not, bne_iff_ne, ne_eq]; try dsimp only [Kd.T, Kds.T, AK.T, AKs.T])) ?_
  refine AM.case 9 rfl (fun h => ?_) (fun h => ?_) <;> (simp only [sxs, sxb, and_self, and_true, true_and, implies_true, imp_self, bne_eq_false_iff_eq, Nat.zero_add, Nat.le_refl, Int.toNat_natCast, Int.ofNat_lt, Int.natCast_nonneg, decide_eq_true_eq, decide_eq_false_iff_not, bne_iff_ne, ne_eq] at h; try dsimp only [Kd.T, Kds.T, AK.T, AKs.T] at h)
  · refine AM.run2 hG 100 (by cbv) ?_ ?_
    · (simp only [sxs, sxb, and_self, and_true, true_and, implies_true, imp_self, bne_eq_false_iff_eq, Nat.zero_add, Nat.le_refl, Int.toNat_natCast, Int.ofNat_lt, Int.natCast_nonneg, decide_eq_true_eq, decide_eq_false_iff_not, bne_iff_ne, ne_eq]; try dsimp only [Kd.T, Kds.T, AK.T, AKs.T])
      exact h
    refine AM.case 16 rfl (fun h1 => ?_) (fun h1 => ?_)
    · replace h1 : (fun y : Call => !urgentP now age y) (l.getD i zc) = true := h1
      rw [← hp] at h1
      refine AM.run2 hG 100 (by cbv) (by (simp only [sxs, sxb, and_self, and_true, true_and, implies_true, imp_self, bne_eq_false_iff_eq, Nat.zero_add, Nat.le_refl, Int.toNat_natCast, Int.ofNat_lt, Int.natCast_nonneg, decide_eq_true_eq, decide_eq_false_iff_not, bne_iff_ne, ne_eq]; try dsimp only [Kd.T, Kds.T, AK.T, AKs.T])) ?_
      refine AM.ret2 hG (by cbv) (by (simp only [sxs, sxb, and_self, and_true, true_and, implies_true, imp_self, bne_eq_false_iff_eq, Nat.zero_add, Nat.le_refl, Int.toNat_natCast, Int.ofNat_lt, Int.natCast_nonneg, decide_eq_true_eq, decide_eq_false_iff_not, bne_iff_ne, ne_eq]; try dsimp only [Kd.T, Kds.T, AK.T, AKs.T])) (hQ _ _ (FinRo.of (by cbv) (by cbv) ?_ ?_))
      · (simp only [sxs, sxb, and_self, and_true, true_and, implies_true, imp_self, bne_eq_false_iff_eq, Nat.zero_add, Nat.le_refl, Int.toNat_natCast, Int.ofNat_lt, Int.natCast_nonneg, decide_eq_true_eq, decide_eq_false_iff_not, bne_iff_ne, ne_eq]; try dsimp only [Kd.T, Kds.T, AK.T, AKs.T])
      try (simp only [sxs, sxb, and_self, and_true, true_and, implies_true, imp_self, bne_eq_false_iff_eq, Nat.zero_add, Nat.le_refl, Int.toNat_natCast, Int.ofNat_lt, Int.natCast_nonneg, decide_eq_true_eq, decide_eq_false_iff_not, bne_iff_ne, ne_eq]; try dsimp only [Kd.T, Kds.T, AK.T, AKs.T])
      rw [← hp, idxOf_at h hn h1]
    · replace h1 : (fun y : Call => !urgentP now age y) (l.getD i zc) = false := h1
      rw [← hp] at h1
      refine AM.run2 hG 100 (by cbv) (by (simp only [sxs, sxb, and_self, and_true, true_and, implies_true, imp_self, bne_eq_false_iff_eq, Nat.zero_add, Nat.le_refl, Int.toNat_natCast, Int.ofNat_lt, Int.natCast_nonneg, decide_eq_true_eq, decide_eq_false_iff_not, bne_iff_ne, ne_eq]; try dsimp only [Kd.T, Kds.T, AK.T, AKs.T])) ?_
      refine AM.imp2 (by cbv) (by cbv) ?_ (by (simp only [sxs, sxb, and_self, and_true, true_and, implies_true, imp_self, bne_eq_false_iff_eq, Nat.zero_add, Nat.le_refl, Int.toNat_natCast, Int.ofNat_lt, Int.natCast_nonneg, decide_eq_true_eq, decide_eq_false_iff_not, bne_iff_ne, ne_eq]; try dsimp only [Kd.T, Kds.T, AK.T, AKs.T])) (ih (i + 1) ⟨by omega, ?_⟩ (by omega))
      · (simp only [sxs, sxb, and_self, and_true, true_and, implies_true, imp_self, bne_eq_false_iff_eq, Nat.zero_add, Nat.le_refl, Int.toNat_natCast, Int.ofNat_lt, Int.natCast_nonneg, decide_eq_true_eq, decide_eq_false_iff_not, bne_iff_ne, ne_eq]; try dsimp only [Kd.T, Kds.T, AK.T, AKs.T]); rw [w64s (by omega)]
      · intro j hj
        by_cases e : j = i
        · rw [e]; exact h1
        · exact hn j (by omega)
  · refine AM.run2 hG 100 (by cbv) (by (simp only [sxs, sxb, and_self, and_true, true_and, implies_true, imp_self, bne_eq_false_iff_eq, Nat.zero_add, Nat.le_refl, Int.toNat_natCast, Int.ofNat_lt, Int.natCast_nonneg, decide_eq_true_eq, decide_eq_false_iff_not, bne_iff_ne, ne_eq]; try dsimp only [Kd.T, Kds.T, AK.T, AKs.T])) ?_
    refine AM.ret2 hG (by cbv) (by (simp only [sxs, sxb, and_self, and_true, true_and, implies_true, imp_self, bne_eq_false_iff_eq, Nat.zero_add, Nat.le_refl, Int.toNat_natCast, Int.ofNat_lt, Int.natCast_nonneg, decide_eq_true_eq, decide_eq_false_iff_not, bne_iff_ne, ne_eq]; try dsimp only [Kd.T, Kds.T, AK.T, AKs.T])) (hQ _ _ (FinRo.of (by cbv) (by cbv) ?_ ?_))
    · (simp only [sxs, sxb, and_self, and_true, true_and, implies_true, imp_self, bne_eq_false_iff_eq, Nat.zero_add, Nat.le_refl, Int.toNat_natCast, Int.ofNat_lt, Int.natCast_nonneg, decide_eq_true_eq, decide_eq_false_iff_not, bne_iff_ne, ne_eq]; try dsimp only [Kd.T, Kds.T, AK.T, AKs.T])
    try (simp only [sxs, sxb, and_self, and_true, true_and, implies_true, imp_self, bne_eq_false_iff_eq, Nat.zero_add, Nat.le_refl, Int.toNat_natCast, Int.ofNat_lt, Int.natCast_nonneg, decide_eq_true_eq, decide_eq_false_iff_not, bne_iff_ne, ne_eq]; try dsimp only [Kd.T, Kds.T, AK.T, AKs.T])
    rw [← hp, idxOf_none fun j hj => hn j (by omega)]
def S71Urgent : List AV → Option FOut := akSpec [.v TableK, .c 72 [.r I64, .r I64]] [CallsK] (fun x : Table × (Int × Int × Unit) × Unit => (match x with | (t, (now, age, _), _) => (t.2.1.filter (urgentP now age), ()))) (fun x : Table × (Int × Int × Unit) × Unit => x.1.2.1.length ≤ 1000000)
theorem fn71Urgent : FnOk Try.prog 71 S71Urgent := by
  refine fn_ofC (rs := [.tmp 4]) (env [(86, S86o), (87, S87Urgent), (92, S92FUrgent)] ⟨fn86o, fn87Urgent, fn92FUrgent, trivial⟩) Try.func71 (by kernel_rfl) rfl rfl Try.ntmps71 ?_
  rintro ⟨⟨(cap : Int), (l : List Call), u⟩, ⟨(now : Int), (age : Int), w0⟩, w1⟩ hl G hG hB hQ
  simp only at hl
  have hB := GB.of hB
  refine AM.run2 hG 100 (by cbv) ?_ ?_
  · (simp only [sxs, sxb, and_self, and_true, true_and, implies_true, imp_self, bne_eq_false_iff_eq, Nat.zero_add, Nat.le_refl, Int.toNat_natCast, Int.ofNat_lt, Int.natCast_nonneg, decide_eq_true_eq, decide_eq_false_iff_not, bne_iff_ne, ne_eq]; try dsimp only [Kd.T, Kds.T, AK.T, AKs.T])
    try exact hl
  refine AM.inlineB hG (by cbv) rfl (by cbv) Try.func82 (by kernel_rfl) rfl rfl Try.ntmps82 fun G1 hG1 hB1 hQ1 => ?_

  replace hB1 : GB G1 3 := ⟨hB1⟩
  obtain ⟨p, hp⟩ : ∃ p : Call → Bool, p = fun y : Call => !urgentP now age y := ⟨_, rfl⟩
  refine AM.run2 hG1 100 (by cbv) ?_ ?_
  · (simp only [sxs, sxb, and_self, and_true, true_and, implies_true, imp_self, bne_eq_false_iff_eq, Nat.zero_add, Nat.le_refl, Int.toNat_natCast, Int.ofNat_lt, Int.natCast_nonneg, decide_eq_true_eq, decide_eq_false_iff_not, bne_iff_ne, ne_eq]; try dsimp only [Kd.T, Kds.T, AK.T, AKs.T])
    simp only [List.take_length, List.drop_zero]
    omega
  have hge := idxOf_ge p l
  refine AM.case 12 rfl (fun e1 => ?_) (fun e1 => ?_) <;> (simp only [sxs, sxb, and_self, and_true, true_and, implies_true, imp_self, bne_eq_false_iff_eq, Nat.zero_add, Nat.le_refl, Int.toNat_natCast, Int.ofNat_lt, Int.natCast_nonneg, decide_eq_true_eq, decide_eq_false_iff_not, bne_iff_ne, ne_eq] at e1; try dsimp only [Kd.T, Kds.T, AK.T, AKs.T] at e1)
  · replace e1 : idxOf (fun y : Call => !urgentP now age y) ((l.drop 0).take l.length) = -1 := e1
    rw [List.drop_zero, List.take_length, ← hp] at e1
    have hend := idxOf_neg e1
    refine AM.run2 hG1 100 (by cbv) ?_ ?_
    · (simp only [sxs, sxb, and_self, and_true, true_and, implies_true, imp_self, bne_eq_false_iff_eq, Nat.zero_add, Nat.le_refl, Int.toNat_natCast, Int.ofNat_lt, Int.natCast_nonneg, decide_eq_true_eq, decide_eq_false_iff_not, bne_iff_ne, ne_eq]; try dsimp only [Kd.T, Kds.T, AK.T, AKs.T])
    refine AM.ret2 hG1 (by cbv) (by (simp only [sxs, sxb, and_self, and_true, true_and, implies_true, imp_self, bne_eq_false_iff_eq, Nat.zero_add, Nat.le_refl, Int.toNat_natCast, Int.ofNat_lt, Int.natCast_nonneg, decide_eq_true_eq, decide_eq_false_iff_not, bne_iff_ne, ne_eq]; try dsimp only [Kd.T, Kds.T, AK.T, AKs.T])) (hQ1 _ _ ?_)
    refine AM.run2 hG 100 (by cbv) ?_ ?_
    · (simp only [sxs, sxb, and_self, and_true, true_and, implies_true, imp_self, bne_eq_false_iff_eq, Nat.zero_add, Nat.le_refl, Int.toNat_natCast, Int.ofNat_lt, Int.natCast_nonneg, decide_eq_true_eq, decide_eq_false_iff_not, bne_iff_ne, ne_eq]; try dsimp only [Kd.T, Kds.T, AK.T, AKs.T])
    refine AM.ret2 hG (by cbv) (by (simp only [sxs, sxb, and_self, and_true, true_and, implies_true, imp_self, bne_eq_false_iff_eq, Nat.zero_add, Nat.le_refl, Int.toNat_natCast, Int.ofNat_lt, Int.natCast_nonneg, decide_eq_true_eq, decide_eq_false_iff_not, bne_iff_ne, ne_eq]; try dsimp only [Kd.T, Kds.T, AK.T, AKs.T])) (hQ _ _ (FinRo.of (by cbv) (by cbv) ?_ ?_))
    · (simp only [sxs, sxb, and_self, and_true, true_and, implies_true, imp_self, bne_eq_false_iff_eq, Nat.zero_add, Nat.le_refl, Int.toNat_natCast, Int.ofNat_lt, Int.natCast_nonneg, decide_eq_true_eq, decide_eq_false_iff_not, bne_iff_ne, ne_eq]; try dsimp only [Kd.T, Kds.T, AK.T, AKs.T])
    try (simp only [sxs, sxb, and_self, and_true, true_and, implies_true, imp_self, bne_eq_false_iff_eq, Nat.zero_add, Nat.le_refl, Int.toNat_natCast, Int.ofNat_lt, Int.natCast_nonneg, decide_eq_true_eq, decide_eq_false_iff_not, bne_iff_ne, ne_eq]; try dsimp only [Kd.T, Kds.T, AK.T, AKs.T])
    rw [List.take_length]
    rw [hp] at hend
    simpa using hend.symm
  replace e1 : ¬ idxOf (fun y : Call => !urgentP now age y) ((l.drop 0).take l.length) = -1 := e1
  rw [List.drop_zero, List.take_length, ← hp] at e1
  obtain ⟨i0, hi0⟩ : ∃ n : Nat, idxOf p l = n := ⟨(idxOf p l).toNat, by omega⟩
  have hD0 := DelI.start 0 hi0
  simp only [List.replicate, List.append_nil] at hD0
  refine AM.run2 hG1 100 (by cbv) (by (simp only [sxs, sxb, and_self, and_true, true_and, implies_true, imp_self, bne_eq_false_iff_eq, Nat.zero_add, Nat.le_refl, Int.toNat_natCast, Int.ofNat_lt, Int.natCast_nonneg, decide_eq_true_eq, decide_eq_false_iff_not, bne_iff_ne, ne_eq]; try dsimp only [Kd.T, Kds.T, AK.T, AKs.T])) ?_
  refine AM.loopI (fun y : List Call × Nat × Nat => (frame 42 [(0, .sl 2 4 (.l 0) (.t fun _ => l.length)), (1, .fn (.func 87) [] [.ptr 1 0]), (5, .int .i64 (.t fun _ => nI y.2.1)), (6, .int .i64 (.t fun _ => nI y.2.2))], [.box 25 [.int .i64 (.t fun _ => cap), .ro CallK fun _ => l], .box 83 [.fn (.func 72) [] [.fb [.int .i64 (.t fun _ => now)] 0, .fb [.int .i64 (.t fun _ => age)] 0]], .row 38 CallK (fun _ => y.1)]))
    (fun y => DelI p l 0 y.1 y.2.1 y.2.2) (fun y => l.length - y.2.2) (l, i0, i0 + 1) hD0 ?_ ?_ ?_
  · cbv; (simp only [sxs, sxb, and_self, and_true, true_and, implies_true, imp_self, bne_eq_false_iff_eq, Nat.zero_add, Nat.le_refl, Int.toNat_natCast, Int.ofNat_lt, Int.natCast_nonneg, decide_eq_true_eq, decide_eq_false_iff_not, bne_iff_ne, ne_eq]; try dsimp only [Kd.T, Kds.T, AK.T, AKs.T])
    have e2 : idxOf (fun y : Call => !urgentP now age y) l = i0 := by rw [← hp]; exact hi0
    refine ⟨by simpa using e2, ?_⟩
    refine Eq.trans (congrArg (fun z => IntKind.i64.wrap (z + 1)) (by simpa using e2)) (w64s (by have := idxOf_spec hi0; omega))
  · cbv; (simp only [sxs, sxb, and_self, and_true, true_and, implies_true, imp_self, bne_eq_false_iff_eq, Nat.zero_add, Nat.le_refl, Int.toNat_natCast, Int.ofNat_lt, Int.natCast_nonneg, decide_eq_true_eq, decide_eq_false_iff_not, bne_iff_ne, ne_eq]; try dsimp only [Kd.T, Kds.T, AK.T, AKs.T])
    try all_goals ((repeat' apply And.intro) <;> first | rfl | assumption | exact trivial)
  rintro ⟨R1, i, j⟩ hD ih1
  simp only at hD ih1
  have hRl1 := hD.len
  have hij := hD.ij
  have hjl := hD.jl
  refine AM.run2 hG1 100 (by cbv) (by (simp only [sxs, sxb, and_self, and_true, true_and, implies_true, imp_self, bne_eq_false_iff_eq, Nat.zero_add, Nat.le_refl, Int.toNat_natCast, Int.ofNat_lt, Int.natCast_nonneg, decide_eq_true_eq, decide_eq_false_iff_not, bne_iff_ne, ne_eq]; try dsimp only [Kd.T, Kds.T, AK.T, AKs.T])) ?_
  refine AM.case 19 rfl (fun e2 => ?_) (fun e2 => ?_) <;> (simp only [sxs, sxb, and_self, and_true, true_and, implies_true, imp_self, bne_eq_false_iff_eq, Nat.zero_add, Nat.le_refl, Int.toNat_natCast, Int.ofNat_lt, Int.natCast_nonneg, decide_eq_true_eq, decide_eq_false_iff_not, bne_iff_ne, ne_eq] at e2; try dsimp only [Kd.T, Kds.T, AK.T, AKs.T] at e2)
  · have hat := hD.at e2
    refine AM.run2 hG1 100 (by cbv) ?_ ?_
    · (simp only [sxs, sxb, and_self, and_true, true_and, implies_true, imp_self, bne_eq_false_iff_eq, Nat.zero_add, Nat.le_refl, Int.toNat_natCast, Int.ofNat_lt, Int.natCast_nonneg, decide_eq_true_eq, decide_eq_false_iff_not, bne_iff_ne, ne_eq]; try dsimp only [Kd.T, Kds.T, AK.T, AKs.T])
      omega
    refine AM.case 29 rfl (fun e3 => ?_) (fun e3 => ?_) <;> (simp only [sxs, sxb, and_self, and_true, true_and, implies_true, imp_self, bne_eq_false_iff_eq, Nat.zero_add, Nat.le_refl, Int.toNat_natCast, Int.ofNat_lt, Int.natCast_nonneg, decide_eq_true_eq, decide_eq_false_iff_not, bne_iff_ne, ne_eq] at e3; try dsimp only [Kd.T, Kds.T, AK.T, AKs.T] at e3)
    · replace e3 : (fun y : Call => !urgentP now age y) (R1.getD j zc) = false := by first | exact e3 | (cases hx : (fun y : Call => !urgentP now age y) (R1.getD j zc); rfl; exact absurd e3 (by simp_all))
      rw [hat, ← hp] at e3
      have hD1 := hD.keep e2 e3
      rw [← hat] at hD1
      refine AM.run2 hG1 100 (by cbv) ?_ ?_
      · (simp only [sxs, sxb, and_self, and_true, true_and, implies_true, imp_self, bne_eq_false_iff_eq, Nat.zero_add, Nat.le_refl, Int.toNat_natCast, Int.ofNat_lt, Int.natCast_nonneg, decide_eq_true_eq, decide_eq_false_iff_not, bne_iff_ne, ne_eq]; try dsimp only [Kd.T, Kds.T, AK.T, AKs.T])
        omega
      obtain ⟨R2, hR2⟩ : ∃ R2, R1.set i (R1.getD j zc) = R2 := ⟨_, rfl⟩
      rw [hR2] at hD1
      refine AM.ren hB1 [0, 1, 2] (by cbv) (by cbv) (by cbv) ?_ ?_ (ih1 (R2, i + 1, j + 1) hD1 (by simp only; omega))
      · (simp only [sxs, sxb, and_self, and_true, true_and, implies_true, imp_self, bne_eq_false_iff_eq, Nat.zero_add, Nat.le_refl, Int.toNat_natCast, Int.ofNat_lt, Int.natCast_nonneg, decide_eq_true_eq, decide_eq_false_iff_not, bne_iff_ne, ne_eq]; try dsimp only [Kd.T, Kds.T, AK.T, AKs.T])
        exact ⟨w64s (by omega), w64s (by omega)⟩
      · (simp only [sxs, sxb, and_self, and_true, true_and, implies_true, imp_self, bne_eq_false_iff_eq, Nat.zero_add, Nat.le_refl, Int.toNat_natCast, Int.ofNat_lt, Int.natCast_nonneg, decide_eq_true_eq, decide_eq_false_iff_not, bne_iff_ne, ne_eq]; try dsimp only [Kd.T, Kds.T, AK.T, AKs.T])
        rw [← hR2]
    · replace e3 : (fun y : Call => !urgentP now age y) (R1.getD j zc) = true := by first | exact e3 | (cases hx : (fun y : Call => !urgentP now age y) (R1.getD j zc); exact absurd e3 (by simp_all); rfl)
      rw [hat, ← hp] at e3
      have hD1 := hD.del e2 e3
      refine AM.run2 hG1 100 (by cbv) ?_ ?_
      · (simp only [sxs, sxb, and_self, and_true, true_and, implies_true, imp_self, bne_eq_false_iff_eq, Nat.zero_add, Nat.le_refl, Int.toNat_natCast, Int.ofNat_lt, Int.natCast_nonneg, decide_eq_true_eq, decide_eq_false_iff_not, bne_iff_ne, ne_eq]; try dsimp only [Kd.T, Kds.T, AK.T, AKs.T])
      refine AM.ren hB1 [0, 1, 2] (by cbv) (by cbv) (by cbv) ?_ ?_ (ih1 (R1, i, j + 1) hD1 (by simp only; omega))
      · (simp only [sxs, sxb, and_self, and_true, true_and, implies_true, imp_self, bne_eq_false_iff_eq, Nat.zero_add, Nat.le_refl, Int.toNat_natCast, Int.ofNat_lt, Int.natCast_nonneg, decide_eq_true_eq, decide_eq_false_iff_not, bne_iff_ne, ne_eq]; try dsimp only [Kd.T, Kds.T, AK.T, AKs.T])
        exact w64s (by omega)
      · (simp only [sxs, sxb, and_self, and_true, true_and, implies_true, imp_self, bne_eq_false_iff_eq, Nat.zero_add, Nat.le_refl, Int.toNat_natCast, Int.ofNat_lt, Int.natCast_nonneg, decide_eq_true_eq, decide_eq_false_iff_not, bne_iff_ne, ne_eq]; try dsimp only [Kd.T, Kds.T, AK.T, AKs.T])
  · obtain rfl : j = l.length := by omega
    obtain ⟨hi1, hfin⟩ := hD.fin
    clear ih1
    refine AM.run2 hG1 100 (by cbv) ?_ ?_
    · (simp only [sxs, sxb, and_self, and_true, true_and, implies_true, imp_self, bne_eq_false_iff_eq, Nat.zero_add, Nat.le_refl, Int.toNat_natCast, Int.ofNat_lt, Int.natCast_nonneg, decide_eq_true_eq, decide_eq_false_iff_not, bne_iff_ne, ne_eq]; try dsimp only [Kd.T, Kds.T, AK.T, AKs.T])
      omega
    obtain ⟨l2, hend⟩ : ∃ l2, l.filter (fun x => !p x) = l2 := ⟨_, rfl⟩
    rw [hend] at hi1 hfin
    obtain ⟨R2, hR2⟩ : ∃ R2, R1.take i ++ List.replicate (l.length - i) zc ++ R1.drop (i + (l.length - i)) = R2 := ⟨_, rfl⟩
    rw [hR2] at hfin
    have hv2 : R2.take i = l2 := by rw [hfin, hi1, List.take_left']; rfl
    have hil : l2.length ≤ l.length := by rw [← hend]; exact List.length_filter_le _ _
    refine AM.ret2 hG1 (by cbv) (by (simp only [sxs, sxb, and_self, and_true, true_and, implies_true, imp_self, bne_eq_false_iff_eq, Nat.zero_add, Nat.le_refl, Int.toNat_natCast, Int.ofNat_lt, Int.natCast_nonneg, decide_eq_true_eq, decide_eq_false_iff_not, bne_iff_ne, ne_eq]; try dsimp only [Kd.T, Kds.T, AK.T, AKs.T])) (hQ1 _ _ ?_)
    refine AM.run2 hG 100 (by cbv) ?_ ?_
    · (simp only [sxs, sxb, and_self, and_true, true_and, implies_true, imp_self, bne_eq_false_iff_eq, Nat.zero_add, Nat.le_refl, Int.toNat_natCast, Int.ofNat_lt, Int.natCast_nonneg, decide_eq_true_eq, decide_eq_false_iff_not, bne_iff_ne, ne_eq]; try dsimp only [Kd.T, Kds.T, AK.T, AKs.T])
    refine AM.ret2 hG (by cbv) (by (simp only [sxs, sxb, and_self, and_true, true_and, implies_true, imp_self, bne_eq_false_iff_eq, Nat.zero_add, Nat.le_refl, Int.toNat_natCast, Int.ofNat_lt, Int.natCast_nonneg, decide_eq_true_eq, decide_eq_false_iff_not, bne_iff_ne, ne_eq]; try dsimp only [Kd.T, Kds.T, AK.T, AKs.T])) (hQ _ _ (FinRo.of (by cbv) (by cbv) ?_ ?_))
    · (simp only [sxs, sxb, and_self, and_true, true_and, implies_true, imp_self, bne_eq_false_iff_eq, Nat.zero_add, Nat.le_refl, Int.toNat_natCast, Int.ofNat_lt, Int.natCast_nonneg, decide_eq_true_eq, decide_eq_false_iff_not, bne_iff_ne, ne_eq]; try dsimp only [Kd.T, Kds.T, AK.T, AKs.T])
      simp only [List.length_append, List.length_take, List.length_replicate, List.length_drop]
      omega
    try (simp only [sxs, sxb, and_self, and_true, true_and, implies_true, imp_self, bne_eq_false_iff_eq, Nat.zero_add, Nat.le_refl, Int.toNat_natCast, Int.ofNat_lt, Int.natCast_nonneg, decide_eq_true_eq, decide_eq_false_iff_not, bne_iff_ne, ne_eq]; try dsimp only [Kd.T, Kds.T, AK.T, AKs.T])
    rw [hR2, hv2, ← hend, hp]
    simp
end Go.Sx.Ytaijdhocmjnopaa
