/- Modes: the reference's Count. -/
import Derived.Test.YtengkdmlnnehgaaM10
namespace Go.Sx.Ytengkdmlnnehgaa
open Go Go.Sx Go.Proofs
set_option linter.unusedVariables false
set_option linter.unusedSimpArgs false
set_option maxRecDepth 100000


def S29 : List AV → Option FOut := sigSpec [ModesK, I64] [IntsK, I64] (fun x : Modes × Int × Unit => ((countS x.1 x.2.1).1, (countS x.1 x.2.1).2, ())) (fun _ => True)
theorem fn29 : FnOk Try.prog 29 S29 := by
  refine fn_of (rs := [.tmp 4, .tmp 5]) (env [(23, S23), (41, S41)] ⟨fn23, fn41, trivial⟩) Try.func29 (by kernel_rfl) rfl rfl Try.ntmps29 ?_
  rintro ⟨⟨(c : Int), ⟨(a : List Int), (b : List Int), (d : List Int), u⟩, u1⟩, (n : Int), u2⟩ _ G hG hQ
  refine AM.run2 hG 100 (by cbv) (by (simp only [sxs, sxb, and_self, and_true, true_and, implies_true, imp_self, bne_eq_false_iff_eq, Nat.zero_add, Nat.le_refl, Int.toNat_natCast, Int.ofNat_lt, Int.natCast_nonneg, decide_eq_true_eq, decide_eq_false_iff_not, bne_iff_ne, ne_eq]; try dsimp only [Kd.T, Kds.T])) ?_
  refine AM.case 18 rfl (fun h => ?_) (fun h => ?_) <;> (simp only [sxs, sxb, and_self, and_true, true_and, implies_true, imp_self, bne_eq_false_iff_eq, Nat.zero_add, Nat.le_refl, Int.toNat_natCast, Int.ofNat_lt, Int.natCast_nonneg, decide_eq_true_eq, decide_eq_false_iff_not, bne_iff_ne, ne_eq] at h; try dsimp only [Kd.T, Kds.T] at h)
  · obtain ⟨h, g⟩ := h
    refine AM.run2 hG 100 (by cbv) (by (simp only [sxs, sxb, and_self, and_true, true_and, implies_true, imp_self, bne_eq_false_iff_eq, Nat.zero_add, Nat.le_refl, Int.toNat_natCast, Int.ofNat_lt, Int.natCast_nonneg, decide_eq_true_eq, decide_eq_false_iff_not, bne_iff_ne, ne_eq]; try dsimp only [Kd.T, Kds.T])) ?_
    refine AM.ret2 hG (by cbv) (by (simp only [sxs, sxb, and_self, and_true, true_and, implies_true, imp_self, bne_eq_false_iff_eq, Nat.zero_add, Nat.le_refl, Int.toNat_natCast, Int.ofNat_lt, Int.natCast_nonneg, decide_eq_true_eq, decide_eq_false_iff_not, bne_iff_ne, ne_eq]; try dsimp only [Kd.T, Kds.T])) (hQ _ _ (FinRo.of (by cbv) (by cbv) ?_ ?_))
    · (simp only [sxs, sxb, and_self, and_true, true_and, implies_true, imp_self, bne_eq_false_iff_eq, Nat.zero_add, Nat.le_refl, Int.toNat_natCast, Int.ofNat_lt, Int.natCast_nonneg, decide_eq_true_eq, decide_eq_false_iff_not, bne_iff_ne, ne_eq]; try dsimp only [Kd.T, Kds.T])
    try (simp only [sxs, sxb, and_self, and_true, true_and, implies_true, imp_self, bne_eq_false_iff_eq, Nat.zero_add, Nat.le_refl, Int.toNat_natCast, Int.ofNat_lt, Int.natCast_nonneg, decide_eq_true_eq, decide_eq_false_iff_not, bne_iff_ne, ne_eq]; try dsimp only [Kd.T, Kds.T])
    simp only [countS, if_pos h, g, Bool.false_eq_true, if_false, and_self]
  refine AM.run2 hG 100 (by cbv) (by (simp only [sxs, sxb, and_self, and_true, true_and, implies_true, imp_self, bne_eq_false_iff_eq, Nat.zero_add, Nat.le_refl, Int.toNat_natCast, Int.ofNat_lt, Int.natCast_nonneg, decide_eq_true_eq, decide_eq_false_iff_not, bne_iff_ne, ne_eq]; try dsimp only [Kd.T, Kds.T])) ?_
  refine AM.case 20 rfl (fun g => ?_) (fun g => ?_) <;> (simp only [sxs, sxb, and_self, and_true, true_and, implies_true, imp_self, bne_eq_false_iff_eq, Nat.zero_add, Nat.le_refl, Int.toNat_natCast, Int.ofNat_lt, Int.natCast_nonneg, decide_eq_true_eq, decide_eq_false_iff_not, bne_iff_ne, ne_eq] at g; try dsimp only [Kd.T, Kds.T] at g)
  · refine AM.run2 hG 100 (by cbv) (by (simp only [sxs, sxb, and_self, and_true, true_and, implies_true, imp_self, bne_eq_false_iff_eq, Nat.zero_add, Nat.le_refl, Int.toNat_natCast, Int.ofNat_lt, Int.natCast_nonneg, decide_eq_true_eq, decide_eq_false_iff_not, bne_iff_ne, ne_eq]; try dsimp only [Kd.T, Kds.T])) ?_
    refine AM.ret2 hG (by cbv) (by (simp only [sxs, sxb, and_self, and_true, true_and, implies_true, imp_self, bne_eq_false_iff_eq, Nat.zero_add, Nat.le_refl, Int.toNat_natCast, Int.ofNat_lt, Int.natCast_nonneg, decide_eq_true_eq, decide_eq_false_iff_not, bne_iff_ne, ne_eq]; try dsimp only [Kd.T, Kds.T])) (hQ _ _ (FinRo.of (by cbv) (by cbv) ?_ ?_))
    · (simp only [sxs, sxb, and_self, and_true, true_and, implies_true, imp_self, bne_eq_false_iff_eq, Nat.zero_add, Nat.le_refl, Int.toNat_natCast, Int.ofNat_lt, Int.natCast_nonneg, decide_eq_true_eq, decide_eq_false_iff_not, bne_iff_ne, ne_eq]; try dsimp only [Kd.T, Kds.T])
    try (simp only [sxs, sxb, and_self, and_true, true_and, implies_true, imp_self, bne_eq_false_iff_eq, Nat.zero_add, Nat.le_refl, Int.toNat_natCast, Int.ofNat_lt, Int.natCast_nonneg, decide_eq_true_eq, decide_eq_false_iff_not, bne_iff_ne, ne_eq]; try dsimp only [Kd.T, Kds.T])
    simp only [countS, if_neg g, and_self]
  have hv : validS n = true := by simpa using h g
  clear h
  rename checkS _ = 0 => h
  obtain ⟨h6, h7, ⟨h8, h9, h10⟩, _⟩ := check0 h
  simp only at h6 h7 h8 h9 h10
  refine AM.run2 hG 100 (by cbv) (by (simp only [sxs, sxb, and_self, and_true, true_and, implies_true, imp_self, bne_eq_false_iff_eq, Nat.zero_add, Nat.le_refl, Int.toNat_natCast, Int.ofNat_lt, Int.natCast_nonneg, decide_eq_true_eq, decide_eq_false_iff_not, bne_iff_ne, ne_eq]; try dsimp only [Kd.T, Kds.T])) ?_
  refine AM.unroll ?_
  refine AM.run2 hG 100 (by cbv) (by (simp only [sxs, sxb, and_self, and_true, true_and, implies_true, imp_self, bne_eq_false_iff_eq, Nat.zero_add, Nat.le_refl, Int.toNat_natCast, Int.ofNat_lt, Int.natCast_nonneg, decide_eq_true_eq, decide_eq_false_iff_not, bne_iff_ne, ne_eq]; try dsimp only [Kd.T, Kds.T])) ?_
  refine AM.loopI (fun j : Nat => (frame 49 [(1, .int .i64 (.t fun _ => n)), (2, .ptr 0 0), (7, .sl 1 1 (.l 0) (.l 3)), (8, .int .i64 (.l 0)), (9, .int .i64 (.t fun _ => nI j))], [.box 34 [.int .i64 (.t fun _ => c), .ro I64 fun _ => a, .ro I64 fun _ => b, .ro I64 fun _ => d], .row 3 I64 fun _ => [cI n (a.take j), 0, 0]])) (fun j => j ≤ a.length) (fun j => a.length - j) 0 (by simp) ?_ ?_ ?_
  · cbv; (simp only [sxs, sxb, and_self, and_true, true_and, implies_true, imp_self, bne_eq_false_iff_eq, Nat.zero_add, Nat.le_refl, Int.toNat_natCast, Int.ofNat_lt, Int.natCast_nonneg, decide_eq_true_eq, decide_eq_false_iff_not, bne_iff_ne, ne_eq]; try dsimp only [Kd.T, Kds.T]); rfl
  · cbv; (simp only [sxs, sxb, and_self, and_true, true_and, implies_true, imp_self, bne_eq_false_iff_eq, Nat.zero_add, Nat.le_refl, Int.toNat_natCast, Int.ofNat_lt, Int.natCast_nonneg, decide_eq_true_eq, decide_eq_false_iff_not, bne_iff_ne, ne_eq]; try dsimp only [Kd.T, Kds.T]); simp [cI, List.set, *]
  rintro j0 hj0 ih0
  refine AM.run2 hG 100 (by cbv) (by (simp only [sxs, sxb, and_self, and_true, true_and, implies_true, imp_self, bne_eq_false_iff_eq, Nat.zero_add, Nat.le_refl, Int.toNat_natCast, Int.ofNat_lt, Int.natCast_nonneg, decide_eq_true_eq, decide_eq_false_iff_not, bne_iff_ne, ne_eq]; try dsimp only [Kd.T, Kds.T])) ?_
  refine AM.case 30 rfl (fun e0 => ?_) (fun e0 => ?_) <;> (simp only [sxs, sxb, and_self, and_true, true_and, implies_true, imp_self, bne_eq_false_iff_eq, Nat.zero_add, Nat.le_refl, Int.toNat_natCast, Int.ofNat_lt, Int.natCast_nonneg, decide_eq_true_eq, decide_eq_false_iff_not, bne_iff_ne, ne_eq] at e0; try dsimp only [Kd.T, Kds.T] at e0)
  · have e' : j0 < a.length := by omega
    have hs := cI_step (n := n) e'
    have hb := cI_bound n a j0
    refine AM.run2 hG 100 (by cbv) ?_ ?_
    · (simp only [sxs, sxb, and_self, and_true, true_and, implies_true, imp_self, bne_eq_false_iff_eq, Nat.zero_add, Nat.le_refl, Int.toNat_natCast, Int.ofNat_lt, Int.natCast_nonneg, decide_eq_true_eq, decide_eq_false_iff_not, bne_iff_ne, ne_eq]; try dsimp only [Kd.T, Kds.T])
      exact e'
    refine AM.case 41 rfl (fun f => ?_) (fun f => ?_) <;> (simp only [sxs, sxb, and_self, and_true, true_and, implies_true, imp_self, bne_eq_false_iff_eq, Nat.zero_add, Nat.le_refl, Int.toNat_natCast, Int.ofNat_lt, Int.natCast_nonneg, decide_eq_true_eq, decide_eq_false_iff_not, bne_iff_ne, ne_eq] at f; try dsimp only [Kd.T, Kds.T] at f)
    · rw [if_pos f.symm] at hs
      refine AM.run2 hG 100 (by cbv) ?_ ?_
      · (simp only [sxs, sxb, and_self, and_true, true_and, implies_true, imp_self, bne_eq_false_iff_eq, Nat.zero_add, Nat.le_refl, Int.toNat_natCast, Int.ofNat_lt, Int.natCast_nonneg, decide_eq_true_eq, decide_eq_false_iff_not, bne_iff_ne, ne_eq]; try dsimp only [Kd.T, Kds.T])
        omega
      refine AM.imp2 (by cbv) (by cbv) ?_ ?_ (ih0 (j0 + 1) (by omega) (by omega))
      · (simp only [sxs, sxb, and_self, and_true, true_and, implies_true, imp_self, bne_eq_false_iff_eq, Nat.zero_add, Nat.le_refl, Int.toNat_natCast, Int.ofNat_lt, Int.natCast_nonneg, decide_eq_true_eq, decide_eq_false_iff_not, bne_iff_ne, ne_eq]; try dsimp only [Kd.T, Kds.T]); rw [w64s (by omega)]
      · (simp only [sxs, sxb, and_self, and_true, true_and, implies_true, imp_self, bne_eq_false_iff_eq, Nat.zero_add, Nat.le_refl, Int.toNat_natCast, Int.ofNat_lt, Int.natCast_nonneg, decide_eq_true_eq, decide_eq_false_iff_not, bne_iff_ne, ne_eq]; try dsimp only [Kd.T, Kds.T])
        have hw : IntKind.i64.wrap (cI n (a.take j0) + 1) = cI n (a.take j0) + 1 := w64 (by omega) (by omega)
        rw [hs, ← hw]
        rfl
    · rw [if_neg (fun e => f e.symm), Int.add_zero] at hs
      refine AM.run2 hG 100 (by cbv) (by (simp only [sxs, sxb, and_self, and_true, true_and, implies_true, imp_self, bne_eq_false_iff_eq, Nat.zero_add, Nat.le_refl, Int.toNat_natCast, Int.ofNat_lt, Int.natCast_nonneg, decide_eq_true_eq, decide_eq_false_iff_not, bne_iff_ne, ne_eq]; try dsimp only [Kd.T, Kds.T])) ?_
      refine AM.imp2 (by cbv) (by cbv) ?_ ?_ (ih0 (j0 + 1) (by omega) (by omega))
      · (simp only [sxs, sxb, and_self, and_true, true_and, implies_true, imp_self, bne_eq_false_iff_eq, Nat.zero_add, Nat.le_refl, Int.toNat_natCast, Int.ofNat_lt, Int.natCast_nonneg, decide_eq_true_eq, decide_eq_false_iff_not, bne_iff_ne, ne_eq]; try dsimp only [Kd.T, Kds.T]); rw [w64s (by omega)]
      · (simp only [sxs, sxb, and_self, and_true, true_and, implies_true, imp_self, bne_eq_false_iff_eq, Nat.zero_add, Nat.le_refl, Int.toNat_natCast, Int.ofNat_lt, Int.natCast_nonneg, decide_eq_true_eq, decide_eq_false_iff_not, bne_iff_ne, ne_eq]; try dsimp only [Kd.T, Kds.T]); rw [hs]
  have ht0 : a.take j0 = a := List.take_of_length_le (by omega)
  clear ih0
  refine AM.run2 hG 100 (by cbv) (by (simp only [sxs, sxb, and_self, and_true, true_and, implies_true, imp_self, bne_eq_false_iff_eq, Nat.zero_add, Nat.le_refl, Int.toNat_natCast, Int.ofNat_lt, Int.natCast_nonneg, decide_eq_true_eq, decide_eq_false_iff_not, bne_iff_ne, ne_eq]; try dsimp only [Kd.T, Kds.T])) ?_
  refine AM.loopI (fun j : Nat => (frame 49 [(1, .int .i64 (.t fun _ => n)), (2, .ptr 0 0), (7, .sl 1 1 (.l 0) (.l 3)), (8, .int .i64 (.l 1)), (9, .int .i64 (.t fun _ => nI j))], [.box 34 [.int .i64 (.t fun _ => c), .ro I64 fun _ => a, .ro I64 fun _ => b, .ro I64 fun _ => d], .row 3 I64 fun _ => [cI n a, cI n (b.take j), 0]])) (fun j => j ≤ b.length) (fun j => b.length - j) 0 (by simp) ?_ ?_ ?_
  · cbv; (simp only [sxs, sxb, and_self, and_true, true_and, implies_true, imp_self, bne_eq_false_iff_eq, Nat.zero_add, Nat.le_refl, Int.toNat_natCast, Int.ofNat_lt, Int.natCast_nonneg, decide_eq_true_eq, decide_eq_false_iff_not, bne_iff_ne, ne_eq]; try dsimp only [Kd.T, Kds.T]); rfl
  · cbv; (simp only [sxs, sxb, and_self, and_true, true_and, implies_true, imp_self, bne_eq_false_iff_eq, Nat.zero_add, Nat.le_refl, Int.toNat_natCast, Int.ofNat_lt, Int.natCast_nonneg, decide_eq_true_eq, decide_eq_false_iff_not, bne_iff_ne, ne_eq]; try dsimp only [Kd.T, Kds.T]); simp [cI, List.set, *]
  rintro j1 hj1 ih1
  refine AM.run2 hG 100 (by cbv) (by (simp only [sxs, sxb, and_self, and_true, true_and, implies_true, imp_self, bne_eq_false_iff_eq, Nat.zero_add, Nat.le_refl, Int.toNat_natCast, Int.ofNat_lt, Int.natCast_nonneg, decide_eq_true_eq, decide_eq_false_iff_not, bne_iff_ne, ne_eq]; try dsimp only [Kd.T, Kds.T])) ?_
  refine AM.case 30 rfl (fun e1 => ?_) (fun e1 => ?_) <;> (simp only [sxs, sxb, and_self, and_true, true_and, implies_true, imp_self, bne_eq_false_iff_eq, Nat.zero_add, Nat.le_refl, Int.toNat_natCast, Int.ofNat_lt, Int.natCast_nonneg, decide_eq_true_eq, decide_eq_false_iff_not, bne_iff_ne, ne_eq] at e1; try dsimp only [Kd.T, Kds.T] at e1)
  · have e' : j1 < b.length := by omega
    have hs := cI_step (n := n) e'
    have hb := cI_bound n b j1
    refine AM.run2 hG 100 (by cbv) ?_ ?_
    · (simp only [sxs, sxb, and_self, and_true, true_and, implies_true, imp_self, bne_eq_false_iff_eq, Nat.zero_add, Nat.le_refl, Int.toNat_natCast, Int.ofNat_lt, Int.natCast_nonneg, decide_eq_true_eq, decide_eq_false_iff_not, bne_iff_ne, ne_eq]; try dsimp only [Kd.T, Kds.T])
      exact e'
    refine AM.case 41 rfl (fun f => ?_) (fun f => ?_) <;> (simp only [sxs, sxb, and_self, and_true, true_and, implies_true, imp_self, bne_eq_false_iff_eq, Nat.zero_add, Nat.le_refl, Int.toNat_natCast, Int.ofNat_lt, Int.natCast_nonneg, decide_eq_true_eq, decide_eq_false_iff_not, bne_iff_ne, ne_eq] at f; try dsimp only [Kd.T, Kds.T] at f)
    · rw [if_pos f.symm] at hs
      refine AM.run2 hG 100 (by cbv) ?_ ?_
      · (simp only [sxs, sxb, and_self, and_true, true_and, implies_true, imp_self, bne_eq_false_iff_eq, Nat.zero_add, Nat.le_refl, Int.toNat_natCast, Int.ofNat_lt, Int.natCast_nonneg, decide_eq_true_eq, decide_eq_false_iff_not, bne_iff_ne, ne_eq]; try dsimp only [Kd.T, Kds.T])
        omega
      refine AM.imp2 (by cbv) (by cbv) ?_ ?_ (ih1 (j1 + 1) (by omega) (by omega))
      · (simp only [sxs, sxb, and_self, and_true, true_and, implies_true, imp_self, bne_eq_false_iff_eq, Nat.zero_add, Nat.le_refl, Int.toNat_natCast, Int.ofNat_lt, Int.natCast_nonneg, decide_eq_true_eq, decide_eq_false_iff_not, bne_iff_ne, ne_eq]; try dsimp only [Kd.T, Kds.T]); rw [w64s (by omega)]
      · (simp only [sxs, sxb, and_self, and_true, true_and, implies_true, imp_self, bne_eq_false_iff_eq, Nat.zero_add, Nat.le_refl, Int.toNat_natCast, Int.ofNat_lt, Int.natCast_nonneg, decide_eq_true_eq, decide_eq_false_iff_not, bne_iff_ne, ne_eq]; try dsimp only [Kd.T, Kds.T])
        have hw : IntKind.i64.wrap (cI n (b.take j1) + 1) = cI n (b.take j1) + 1 := w64 (by omega) (by omega)
        rw [hs, ← hw]
        rfl
    · rw [if_neg (fun e => f e.symm), Int.add_zero] at hs
      refine AM.run2 hG 100 (by cbv) (by (simp only [sxs, sxb, and_self, and_true, true_and, implies_true, imp_self, bne_eq_false_iff_eq, Nat.zero_add, Nat.le_refl, Int.toNat_natCast, Int.ofNat_lt, Int.natCast_nonneg, decide_eq_true_eq, decide_eq_false_iff_not, bne_iff_ne, ne_eq]; try dsimp only [Kd.T, Kds.T])) ?_
      refine AM.imp2 (by cbv) (by cbv) ?_ ?_ (ih1 (j1 + 1) (by omega) (by omega))
      · (simp only [sxs, sxb, and_self, and_true, true_and, implies_true, imp_self, bne_eq_false_iff_eq, Nat.zero_add, Nat.le_refl, Int.toNat_natCast, Int.ofNat_lt, Int.natCast_nonneg, decide_eq_true_eq, decide_eq_false_iff_not, bne_iff_ne, ne_eq]; try dsimp only [Kd.T, Kds.T]); rw [w64s (by omega)]
      · (simp only [sxs, sxb, and_self, and_true, true_and, implies_true, imp_self, bne_eq_false_iff_eq, Nat.zero_add, Nat.le_refl, Int.toNat_natCast, Int.ofNat_lt, Int.natCast_nonneg, decide_eq_true_eq, decide_eq_false_iff_not, bne_iff_ne, ne_eq]; try dsimp only [Kd.T, Kds.T]); rw [hs]
  have ht1 : b.take j1 = b := List.take_of_length_le (by omega)
  clear ih1
  refine AM.run2 hG 100 (by cbv) (by (simp only [sxs, sxb, and_self, and_true, true_and, implies_true, imp_self, bne_eq_false_iff_eq, Nat.zero_add, Nat.le_refl, Int.toNat_natCast, Int.ofNat_lt, Int.natCast_nonneg, decide_eq_true_eq, decide_eq_false_iff_not, bne_iff_ne, ne_eq]; try dsimp only [Kd.T, Kds.T])) ?_
  refine AM.loopI (fun j : Nat => (frame 49 [(1, .int .i64 (.t fun _ => n)), (2, .ptr 0 0), (7, .sl 1 1 (.l 0) (.l 3)), (8, .int .i64 (.l 2)), (9, .int .i64 (.t fun _ => nI j))], [.box 34 [.int .i64 (.t fun _ => c), .ro I64 fun _ => a, .ro I64 fun _ => b, .ro I64 fun _ => d], .row 3 I64 fun _ => [cI n a, cI n b, cI n (d.take j)]])) (fun j => j ≤ d.length) (fun j => d.length - j) 0 (by simp) ?_ ?_ ?_
  · cbv; (simp only [sxs, sxb, and_self, and_true, true_and, implies_true, imp_self, bne_eq_false_iff_eq, Nat.zero_add, Nat.le_refl, Int.toNat_natCast, Int.ofNat_lt, Int.natCast_nonneg, decide_eq_true_eq, decide_eq_false_iff_not, bne_iff_ne, ne_eq]; try dsimp only [Kd.T, Kds.T]); rfl
  · cbv; (simp only [sxs, sxb, and_self, and_true, true_and, implies_true, imp_self, bne_eq_false_iff_eq, Nat.zero_add, Nat.le_refl, Int.toNat_natCast, Int.ofNat_lt, Int.natCast_nonneg, decide_eq_true_eq, decide_eq_false_iff_not, bne_iff_ne, ne_eq]; try dsimp only [Kd.T, Kds.T]); simp [cI, List.set, *]
  rintro j2 hj2 ih2
  refine AM.run2 hG 100 (by cbv) (by (simp only [sxs, sxb, and_self, and_true, true_and, implies_true, imp_self, bne_eq_false_iff_eq, Nat.zero_add, Nat.le_refl, Int.toNat_natCast, Int.ofNat_lt, Int.natCast_nonneg, decide_eq_true_eq, decide_eq_false_iff_not, bne_iff_ne, ne_eq]; try dsimp only [Kd.T, Kds.T])) ?_
  refine AM.case 30 rfl (fun e2 => ?_) (fun e2 => ?_) <;> (simp only [sxs, sxb, and_self, and_true, true_and, implies_true, imp_self, bne_eq_false_iff_eq, Nat.zero_add, Nat.le_refl, Int.toNat_natCast, Int.ofNat_lt, Int.natCast_nonneg, decide_eq_true_eq, decide_eq_false_iff_not, bne_iff_ne, ne_eq] at e2; try dsimp only [Kd.T, Kds.T] at e2)
  · have e' : j2 < d.length := by omega
    have hs := cI_step (n := n) e'
    have hb := cI_bound n d j2
    refine AM.run2 hG 100 (by cbv) ?_ ?_
    · (simp only [sxs, sxb, and_self, and_true, true_and, implies_true, imp_self, bne_eq_false_iff_eq, Nat.zero_add, Nat.le_refl, Int.toNat_natCast, Int.ofNat_lt, Int.natCast_nonneg, decide_eq_true_eq, decide_eq_false_iff_not, bne_iff_ne, ne_eq]; try dsimp only [Kd.T, Kds.T])
      exact e'
    refine AM.case 41 rfl (fun f => ?_) (fun f => ?_) <;> (simp only [sxs, sxb, and_self, and_true, true_and, implies_true, imp_self, bne_eq_false_iff_eq, Nat.zero_add, Nat.le_refl, Int.toNat_natCast, Int.ofNat_lt, Int.natCast_nonneg, decide_eq_true_eq, decide_eq_false_iff_not, bne_iff_ne, ne_eq] at f; try dsimp only [Kd.T, Kds.T] at f)
    · rw [if_pos f.symm] at hs
      refine AM.run2 hG 100 (by cbv) ?_ ?_
      · (simp only [sxs, sxb, and_self, and_true, true_and, implies_true, imp_self, bne_eq_false_iff_eq, Nat.zero_add, Nat.le_refl, Int.toNat_natCast, Int.ofNat_lt, Int.natCast_nonneg, decide_eq_true_eq, decide_eq_false_iff_not, bne_iff_ne, ne_eq]; try dsimp only [Kd.T, Kds.T])
        omega
      refine AM.imp2 (by cbv) (by cbv) ?_ ?_ (ih2 (j2 + 1) (by omega) (by omega))
      · (simp only [sxs, sxb, and_self, and_true, true_and, implies_true, imp_self, bne_eq_false_iff_eq, Nat.zero_add, Nat.le_refl, Int.toNat_natCast, Int.ofNat_lt, Int.natCast_nonneg, decide_eq_true_eq, decide_eq_false_iff_not, bne_iff_ne, ne_eq]; try dsimp only [Kd.T, Kds.T]); rw [w64s (by omega)]
      · (simp only [sxs, sxb, and_self, and_true, true_and, implies_true, imp_self, bne_eq_false_iff_eq, Nat.zero_add, Nat.le_refl, Int.toNat_natCast, Int.ofNat_lt, Int.natCast_nonneg, decide_eq_true_eq, decide_eq_false_iff_not, bne_iff_ne, ne_eq]; try dsimp only [Kd.T, Kds.T])
        have hw : IntKind.i64.wrap (cI n (d.take j2) + 1) = cI n (d.take j2) + 1 := w64 (by omega) (by omega)
        rw [hs, ← hw]
        rfl
    · rw [if_neg (fun e => f e.symm), Int.add_zero] at hs
      refine AM.run2 hG 100 (by cbv) (by (simp only [sxs, sxb, and_self, and_true, true_and, implies_true, imp_self, bne_eq_false_iff_eq, Nat.zero_add, Nat.le_refl, Int.toNat_natCast, Int.ofNat_lt, Int.natCast_nonneg, decide_eq_true_eq, decide_eq_false_iff_not, bne_iff_ne, ne_eq]; try dsimp only [Kd.T, Kds.T])) ?_
      refine AM.imp2 (by cbv) (by cbv) ?_ ?_ (ih2 (j2 + 1) (by omega) (by omega))
      · (simp only [sxs, sxb, and_self, and_true, true_and, implies_true, imp_self, bne_eq_false_iff_eq, Nat.zero_add, Nat.le_refl, Int.toNat_natCast, Int.ofNat_lt, Int.natCast_nonneg, decide_eq_true_eq, decide_eq_false_iff_not, bne_iff_ne, ne_eq]; try dsimp only [Kd.T, Kds.T]); rw [w64s (by omega)]
      · (simp only [sxs, sxb, and_self, and_true, true_and, implies_true, imp_self, bne_eq_false_iff_eq, Nat.zero_add, Nat.le_refl, Int.toNat_natCast, Int.ofNat_lt, Int.natCast_nonneg, decide_eq_true_eq, decide_eq_false_iff_not, bne_iff_ne, ne_eq]; try dsimp only [Kd.T, Kds.T]); rw [hs]
  have ht2 : d.take j2 = d := List.take_of_length_le (by omega)
  clear ih2
  refine AM.run2 hG 100 (by cbv) (by (simp only [sxs, sxb, and_self, and_true, true_and, implies_true, imp_self, bne_eq_false_iff_eq, Nat.zero_add, Nat.le_refl, Int.toNat_natCast, Int.ofNat_lt, Int.natCast_nonneg, decide_eq_true_eq, decide_eq_false_iff_not, bne_iff_ne, ne_eq]; try dsimp only [Kd.T, Kds.T])) ?_
  refine AM.ret2 hG (by cbv) (by (simp only [sxs, sxb, and_self, and_true, true_and, implies_true, imp_self, bne_eq_false_iff_eq, Nat.zero_add, Nat.le_refl, Int.toNat_natCast, Int.ofNat_lt, Int.natCast_nonneg, decide_eq_true_eq, decide_eq_false_iff_not, bne_iff_ne, ne_eq]; try dsimp only [Kd.T, Kds.T])) (hQ _ _ (FinRo.of (by cbv) (by cbv) ?_ ?_))
  · (simp only [sxs, sxb, and_self, and_true, true_and, implies_true, imp_self, bne_eq_false_iff_eq, Nat.zero_add, Nat.le_refl, Int.toNat_natCast, Int.ofNat_lt, Int.natCast_nonneg, decide_eq_true_eq, decide_eq_false_iff_not, bne_iff_ne, ne_eq]; try dsimp only [Kd.T, Kds.T])
  try (simp only [sxs, sxb, and_self, and_true, true_and, implies_true, imp_self, bne_eq_false_iff_eq, Nat.zero_add, Nat.le_refl, Int.toNat_natCast, Int.ofNat_lt, Int.natCast_nonneg, decide_eq_true_eq, decide_eq_false_iff_not, bne_iff_ne, ne_eq]; try dsimp only [Kd.T, Kds.T])
  simp only [countS, if_pos h, if_pos hv, ht0, ht1, ht2, and_true]
  rfl
end Go.Sx.Ytengkdmlnnehgaa
