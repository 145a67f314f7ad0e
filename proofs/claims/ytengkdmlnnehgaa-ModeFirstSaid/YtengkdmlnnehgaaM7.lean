/- Modes: the reference's Check, at, Get, Set. -/
import Derived.Test.YtengkdmlnnehgaaM6
namespace Go.Sx.Ytengkdmlnnehgaa
open Go Go.Sx Go.Proofs
set_option linter.unusedVariables false
set_option linter.unusedSimpArgs false
set_option maxRecDepth 100000

def S23 : List AV → Option FOut := sigSpec [ModesK] [I64] (fun x : Modes × Unit => (checkS x.1, ())) (fun _ => True)
theorem fn23 : FnOk Try.prog 23 S23 := by
  refine fn_of (rs := [.tmp 2]) (env [(41, S41)] ⟨fn41, trivial⟩) Try.func23 (by kernel_rfl) rfl rfl Try.ntmps23 ?_
  rintro ⟨⟨(c : Int), ⟨(a : List Int), (b : List Int), (d : List Int), u⟩, u1⟩, u2⟩ _ G hG hQ
  refine AM.run2 hG 100 (by cbv) (by (simp only [sxs, sxb, and_self, and_true, true_and, implies_true, imp_self, bne_eq_false_iff_eq, Nat.zero_add, Nat.le_refl, Int.toNat_natCast, Int.ofNat_lt, Int.natCast_nonneg, decide_eq_true_eq, decide_eq_false_iff_not, bne_iff_ne, ne_eq]; try dsimp only [Kd.T, Kds.T])) ?_
  refine AM.case 13 rfl (fun h => ?_) (fun h => ?_) <;> (simp only [sxs, sxb, and_self, and_true, true_and, implies_true, imp_self, bne_eq_false_iff_eq, Nat.zero_add, Nat.le_refl, Int.toNat_natCast, Int.ofNat_lt, Int.natCast_nonneg, decide_eq_true_eq, decide_eq_false_iff_not, bne_iff_ne, ne_eq] at h; try dsimp only [Kd.T, Kds.T] at h)
  · refine AM.run2 hG 100 (by cbv) (by (simp only [sxs, sxb, and_self, and_true, true_and, implies_true, imp_self, bne_eq_false_iff_eq, Nat.zero_add, Nat.le_refl, Int.toNat_natCast, Int.ofNat_lt, Int.natCast_nonneg, decide_eq_true_eq, decide_eq_false_iff_not, bne_iff_ne, ne_eq]; try dsimp only [Kd.T, Kds.T])) ?_
    refine AM.ret2 hG (by cbv) (by (simp only [sxs, sxb, and_self, and_true, true_and, implies_true, imp_self, bne_eq_false_iff_eq, Nat.zero_add, Nat.le_refl, Int.toNat_natCast, Int.ofNat_lt, Int.natCast_nonneg, decide_eq_true_eq, decide_eq_false_iff_not, bne_iff_ne, ne_eq]; try dsimp only [Kd.T, Kds.T])) (hQ _ _ (FinRo.of (by cbv) (by cbv) ?_ ?_))
    · (simp only [sxs, sxb, and_self, and_true, true_and, implies_true, imp_self, bne_eq_false_iff_eq, Nat.zero_add, Nat.le_refl, Int.toNat_natCast, Int.ofNat_lt, Int.natCast_nonneg, decide_eq_true_eq, decide_eq_false_iff_not, bne_iff_ne, ne_eq]; try dsimp only [Kd.T, Kds.T])
    try (simp only [sxs, sxb, and_self, and_true, true_and, implies_true, imp_self, bne_eq_false_iff_eq, Nat.zero_add, Nat.le_refl, Int.toNat_natCast, Int.ofNat_lt, Int.natCast_nonneg, decide_eq_true_eq, decide_eq_false_iff_not, bne_iff_ne, ne_eq]; try dsimp only [Kd.T, Kds.T])
    simp only [checkS, if_pos h]
  have h' : ¬ (c < 1 ∨ 8 < c) := by omega
  refine AM.run2 hG 100 (by cbv) (by (simp only [sxs, sxb, and_self, and_true, true_and, implies_true, imp_self, bne_eq_false_iff_eq, Nat.zero_add, Nat.le_refl, Int.toNat_natCast, Int.ofNat_lt, Int.natCast_nonneg, decide_eq_true_eq, decide_eq_false_iff_not, bne_iff_ne, ne_eq]; try dsimp only [Kd.T, Kds.T])) ?_
  refine AM.unroll ?_
  refine AM.run2 hG 100 (by cbv) (by (simp only [sxs, sxb, and_self, and_true, true_and, implies_true, imp_self, bne_eq_false_iff_eq, Nat.zero_add, Nat.le_refl, Int.toNat_natCast, Int.ofNat_lt, Int.natCast_nonneg, decide_eq_true_eq, decide_eq_false_iff_not, bne_iff_ne, ne_eq]; try dsimp only [Kd.T, Kds.T])) ?_
  refine AM.case 25 rfl (fun g0 => ?_) (fun g0 => ?_) <;> (simp only [sxs, sxb, and_self, and_true, true_and, implies_true, imp_self, bne_eq_false_iff_eq, Nat.zero_add, Nat.le_refl, Int.toNat_natCast, Int.ofNat_lt, Int.natCast_nonneg, decide_eq_true_eq, decide_eq_false_iff_not, bne_iff_ne, ne_eq] at g0; try dsimp only [Kd.T, Kds.T] at g0)
  · refine AM.run2 hG 100 (by cbv) (by (simp only [sxs, sxb, and_self, and_true, true_and, implies_true, imp_self, bne_eq_false_iff_eq, Nat.zero_add, Nat.le_refl, Int.toNat_natCast, Int.ofNat_lt, Int.natCast_nonneg, decide_eq_true_eq, decide_eq_false_iff_not, bne_iff_ne, ne_eq]; try dsimp only [Kd.T, Kds.T])) ?_
    refine AM.ret2 hG (by cbv) (by (simp only [sxs, sxb, and_self, and_true, true_and, implies_true, imp_self, bne_eq_false_iff_eq, Nat.zero_add, Nat.le_refl, Int.toNat_natCast, Int.ofNat_lt, Int.natCast_nonneg, decide_eq_true_eq, decide_eq_false_iff_not, bne_iff_ne, ne_eq]; try dsimp only [Kd.T, Kds.T])) (hQ _ _ (FinRo.of (by cbv) (by cbv) ?_ ?_))
    · (simp only [sxs, sxb, and_self, and_true, true_and, implies_true, imp_self, bne_eq_false_iff_eq, Nat.zero_add, Nat.le_refl, Int.toNat_natCast, Int.ofNat_lt, Int.natCast_nonneg, decide_eq_true_eq, decide_eq_false_iff_not, bne_iff_ne, ne_eq]; try dsimp only [Kd.T, Kds.T])
    try (simp only [sxs, sxb, and_self, and_true, true_and, implies_true, imp_self, bne_eq_false_iff_eq, Nat.zero_add, Nat.le_refl, Int.toNat_natCast, Int.ofNat_lt, Int.natCast_nonneg, decide_eq_true_eq, decide_eq_false_iff_not, bne_iff_ne, ne_eq]; try dsimp only [Kd.T, Kds.T])
    simp only [checkS, if_neg h']
    rw [if_pos (show ¬ lensOk (c, (a, b, d, u), u1) by simp only [lensOk]; omega)]
  refine AM.run2 hG 100 (by cbv) (by (simp only [sxs, sxb, and_self, and_true, true_and, implies_true, imp_self, bne_eq_false_iff_eq, Nat.zero_add, Nat.le_refl, Int.toNat_natCast, Int.ofNat_lt, Int.natCast_nonneg, decide_eq_true_eq, decide_eq_false_iff_not, bne_iff_ne, ne_eq]; try dsimp only [Kd.T, Kds.T])) ?_
  refine AM.case 25 rfl (fun g1 => ?_) (fun g1 => ?_) <;> (simp only [sxs, sxb, and_self, and_true, true_and, implies_true, imp_self, bne_eq_false_iff_eq, Nat.zero_add, Nat.le_refl, Int.toNat_natCast, Int.ofNat_lt, Int.natCast_nonneg, decide_eq_true_eq, decide_eq_false_iff_not, bne_iff_ne, ne_eq] at g1; try dsimp only [Kd.T, Kds.T] at g1)
  · refine AM.run2 hG 100 (by cbv) (by (simp only [sxs, sxb, and_self, and_true, true_and, implies_true, imp_self, bne_eq_false_iff_eq, Nat.zero_add, Nat.le_refl, Int.toNat_natCast, Int.ofNat_lt, Int.natCast_nonneg, decide_eq_true_eq, decide_eq_false_iff_not, bne_iff_ne, ne_eq]; try dsimp only [Kd.T, Kds.T])) ?_
    refine AM.ret2 hG (by cbv) (by (simp only [sxs, sxb, and_self, and_true, true_and, implies_true, imp_self, bne_eq_false_iff_eq, Nat.zero_add, Nat.le_refl, Int.toNat_natCast, Int.ofNat_lt, Int.natCast_nonneg, decide_eq_true_eq, decide_eq_false_iff_not, bne_iff_ne, ne_eq]; try dsimp only [Kd.T, Kds.T])) (hQ _ _ (FinRo.of (by cbv) (by cbv) ?_ ?_))
    · (simp only [sxs, sxb, and_self, and_true, true_and, implies_true, imp_self, bne_eq_false_iff_eq, Nat.zero_add, Nat.le_refl, Int.toNat_natCast, Int.ofNat_lt, Int.natCast_nonneg, decide_eq_true_eq, decide_eq_false_iff_not, bne_iff_ne, ne_eq]; try dsimp only [Kd.T, Kds.T])
    try (simp only [sxs, sxb, and_self, and_true, true_and, implies_true, imp_self, bne_eq_false_iff_eq, Nat.zero_add, Nat.le_refl, Int.toNat_natCast, Int.ofNat_lt, Int.natCast_nonneg, decide_eq_true_eq, decide_eq_false_iff_not, bne_iff_ne, ne_eq]; try dsimp only [Kd.T, Kds.T])
    simp only [checkS, if_neg h']
    rw [if_pos (show ¬ lensOk (c, (a, b, d, u), u1) by simp only [lensOk]; omega)]
  refine AM.run2 hG 100 (by cbv) (by (simp only [sxs, sxb, and_self, and_true, true_and, implies_true, imp_self, bne_eq_false_iff_eq, Nat.zero_add, Nat.le_refl, Int.toNat_natCast, Int.ofNat_lt, Int.natCast_nonneg, decide_eq_true_eq, decide_eq_false_iff_not, bne_iff_ne, ne_eq]; try dsimp only [Kd.T, Kds.T])) ?_
  refine AM.case 25 rfl (fun g2 => ?_) (fun g2 => ?_) <;> (simp only [sxs, sxb, and_self, and_true, true_and, implies_true, imp_self, bne_eq_false_iff_eq, Nat.zero_add, Nat.le_refl, Int.toNat_natCast, Int.ofNat_lt, Int.natCast_nonneg, decide_eq_true_eq, decide_eq_false_iff_not, bne_iff_ne, ne_eq] at g2; try dsimp only [Kd.T, Kds.T] at g2)
  · refine AM.run2 hG 100 (by cbv) (by (simp only [sxs, sxb, and_self, and_true, true_and, implies_true, imp_self, bne_eq_false_iff_eq, Nat.zero_add, Nat.le_refl, Int.toNat_natCast, Int.ofNat_lt, Int.natCast_nonneg, decide_eq_true_eq, decide_eq_false_iff_not, bne_iff_ne, ne_eq]; try dsimp only [Kd.T, Kds.T])) ?_
    refine AM.ret2 hG (by cbv) (by (simp only [sxs, sxb, and_self, and_true, true_and, implies_true, imp_self, bne_eq_false_iff_eq, Nat.zero_add, Nat.le_refl, Int.toNat_natCast, Int.ofNat_lt, Int.natCast_nonneg, decide_eq_true_eq, decide_eq_false_iff_not, bne_iff_ne, ne_eq]; try dsimp only [Kd.T, Kds.T])) (hQ _ _ (FinRo.of (by cbv) (by cbv) ?_ ?_))
    · (simp only [sxs, sxb, and_self, and_true, true_and, implies_true, imp_self, bne_eq_false_iff_eq, Nat.zero_add, Nat.le_refl, Int.toNat_natCast, Int.ofNat_lt, Int.natCast_nonneg, decide_eq_true_eq, decide_eq_false_iff_not, bne_iff_ne, ne_eq]; try dsimp only [Kd.T, Kds.T])
    try (simp only [sxs, sxb, and_self, and_true, true_and, implies_true, imp_self, bne_eq_false_iff_eq, Nat.zero_add, Nat.le_refl, Int.toNat_natCast, Int.ofNat_lt, Int.natCast_nonneg, decide_eq_true_eq, decide_eq_false_iff_not, bne_iff_ne, ne_eq]; try dsimp only [Kd.T, Kds.T])
    simp only [checkS, if_neg h']
    rw [if_pos (show ¬ lensOk (c, (a, b, d, u), u1) by simp only [lensOk]; omega)]
  have hl : ¬ ¬ lensOk (c, (a, b, d, u), u1) := by simp only [lensOk]; omega
  refine AM.run2 hG 100 (by cbv) (by (simp only [sxs, sxb, and_self, and_true, true_and, implies_true, imp_self, bne_eq_false_iff_eq, Nat.zero_add, Nat.le_refl, Int.toNat_natCast, Int.ofNat_lt, Int.natCast_nonneg, decide_eq_true_eq, decide_eq_false_iff_not, bne_iff_ne, ne_eq]; try dsimp only [Kd.T, Kds.T])) ?_
  refine AM.unroll ?_
  refine AM.run2 hG 100 (by cbv) (by (simp only [sxs, sxb, and_self, and_true, true_and, implies_true, imp_self, bne_eq_false_iff_eq, Nat.zero_add, Nat.le_refl, Int.toNat_natCast, Int.ofNat_lt, Int.natCast_nonneg, decide_eq_true_eq, decide_eq_false_iff_not, bne_iff_ne, ne_eq]; try dsimp only [Kd.T, Kds.T])) ?_
  refine AM.loopI (fun j : Nat => (frame 45 [(1, .ptr 0 0), (4, .int .i64 (.l 0)), (5, .int .i64 (.t fun _ => nI j))], [.box 34 [.int .i64 (.t fun _ => c), .ro I64 fun _ => a, .ro I64 fun _ => b, .ro I64 fun _ => d]])) (fun j => j ≤ a.length ∧ (a.drop j).all validS = a.all validS) (fun j => a.length - j) 0 ⟨by simp, rfl⟩ ?_ ?_ ?_
  · cbv; (simp only [sxs, sxb, and_self, and_true, true_and, implies_true, imp_self, bne_eq_false_iff_eq, Nat.zero_add, Nat.le_refl, Int.toNat_natCast, Int.ofNat_lt, Int.natCast_nonneg, decide_eq_true_eq, decide_eq_false_iff_not, bne_iff_ne, ne_eq]; try dsimp only [Kd.T, Kds.T]); rfl
  · cbv; (simp only [sxs, sxb, and_self, and_true, true_and, implies_true, imp_self, bne_eq_false_iff_eq, Nat.zero_add, Nat.le_refl, Int.toNat_natCast, Int.ofNat_lt, Int.natCast_nonneg, decide_eq_true_eq, decide_eq_false_iff_not, bne_iff_ne, ne_eq]; try dsimp only [Kd.T, Kds.T])
  rintro j0 ⟨hj0, hc0⟩ ih0
  refine AM.run2 hG 100 (by cbv) (by (simp only [sxs, sxb, and_self, and_true, true_and, implies_true, imp_self, bne_eq_false_iff_eq, Nat.zero_add, Nat.le_refl, Int.toNat_natCast, Int.ofNat_lt, Int.natCast_nonneg, decide_eq_true_eq, decide_eq_false_iff_not, bne_iff_ne, ne_eq]; try dsimp only [Kd.T, Kds.T])) ?_
  refine AM.case 33 rfl (fun e0 => ?_) (fun e0 => ?_) <;> (simp only [sxs, sxb, and_self, and_true, true_and, implies_true, imp_self, bne_eq_false_iff_eq, Nat.zero_add, Nat.le_refl, Int.toNat_natCast, Int.ofNat_lt, Int.natCast_nonneg, decide_eq_true_eq, decide_eq_false_iff_not, bne_iff_ne, ne_eq] at e0; try dsimp only [Kd.T, Kds.T] at e0)
  · have e' : j0 < a.length := by omega
    rw [dropD e' 0, List.all_cons] at hc0
    refine AM.run2 hG 100 (by cbv) ?_ ?_
    · (simp only [sxs, sxb, and_self, and_true, true_and, implies_true, imp_self, bne_eq_false_iff_eq, Nat.zero_add, Nat.le_refl, Int.toNat_natCast, Int.ofNat_lt, Int.natCast_nonneg, decide_eq_true_eq, decide_eq_false_iff_not, bne_iff_ne, ne_eq]; try dsimp only [Kd.T, Kds.T])
      exact e'
    refine AM.case 44 rfl (fun f => ?_) (fun f => ?_) <;> (simp only [sxs, sxb, and_self, and_true, true_and, implies_true, imp_self, bne_eq_false_iff_eq, Nat.zero_add, Nat.le_refl, Int.toNat_natCast, Int.ofNat_lt, Int.natCast_nonneg, decide_eq_true_eq, decide_eq_false_iff_not, bne_iff_ne, ne_eq] at f; try dsimp only [Kd.T, Kds.T] at f)
    · refine AM.run2 hG 100 (by cbv) (by (simp only [sxs, sxb, and_self, and_true, true_and, implies_true, imp_self, bne_eq_false_iff_eq, Nat.zero_add, Nat.le_refl, Int.toNat_natCast, Int.ofNat_lt, Int.natCast_nonneg, decide_eq_true_eq, decide_eq_false_iff_not, bne_iff_ne, ne_eq]; try dsimp only [Kd.T, Kds.T])) ?_
      refine AM.ret2 hG (by cbv) (by (simp only [sxs, sxb, and_self, and_true, true_and, implies_true, imp_self, bne_eq_false_iff_eq, Nat.zero_add, Nat.le_refl, Int.toNat_natCast, Int.ofNat_lt, Int.natCast_nonneg, decide_eq_true_eq, decide_eq_false_iff_not, bne_iff_ne, ne_eq]; try dsimp only [Kd.T, Kds.T])) (hQ _ _ (FinRo.of (by cbv) (by cbv) ?_ ?_))
      · (simp only [sxs, sxb, and_self, and_true, true_and, implies_true, imp_self, bne_eq_false_iff_eq, Nat.zero_add, Nat.le_refl, Int.toNat_natCast, Int.ofNat_lt, Int.natCast_nonneg, decide_eq_true_eq, decide_eq_false_iff_not, bne_iff_ne, ne_eq]; try dsimp only [Kd.T, Kds.T])
      try (simp only [sxs, sxb, and_self, and_true, true_and, implies_true, imp_self, bne_eq_false_iff_eq, Nat.zero_add, Nat.le_refl, Int.toNat_natCast, Int.ofNat_lt, Int.natCast_nonneg, decide_eq_true_eq, decide_eq_false_iff_not, bne_iff_ne, ne_eq]; try dsimp only [Kd.T, Kds.T])
      rw [f] at hc0
      simp only [checkS, if_neg h', if_neg hl]
      rw [if_neg (show ¬ kindsOk (c, (a, b, d, u), u1) = true by simp only [kindsOk, ← hc0]; simp)]
    · refine AM.run2 hG 100 (by cbv) (by (simp only [sxs, sxb, and_self, and_true, true_and, implies_true, imp_self, bne_eq_false_iff_eq, Nat.zero_add, Nat.le_refl, Int.toNat_natCast, Int.ofNat_lt, Int.natCast_nonneg, decide_eq_true_eq, decide_eq_false_iff_not, bne_iff_ne, ne_eq]; try dsimp only [Kd.T, Kds.T])) ?_
      refine AM.imp2 (by cbv) (by cbv) ?_ (by (simp only [sxs, sxb, and_self, and_true, true_and, implies_true, imp_self, bne_eq_false_iff_eq, Nat.zero_add, Nat.le_refl, Int.toNat_natCast, Int.ofNat_lt, Int.natCast_nonneg, decide_eq_true_eq, decide_eq_false_iff_not, bne_iff_ne, ne_eq]; try dsimp only [Kd.T, Kds.T])) (ih0 (j0 + 1) ⟨by omega, ?_⟩ (by omega))
      · (simp only [sxs, sxb, and_self, and_true, true_and, implies_true, imp_self, bne_eq_false_iff_eq, Nat.zero_add, Nat.le_refl, Int.toNat_natCast, Int.ofNat_lt, Int.natCast_nonneg, decide_eq_true_eq, decide_eq_false_iff_not, bne_iff_ne, ne_eq]; try dsimp only [Kd.T, Kds.T]); rw [w64s (by omega)]
      · rw [← hc0, f]; rfl
  rw [List.drop_of_length_le (by omega)] at hc0
  clear ih0
  refine AM.run2 hG 100 (by cbv) (by (simp only [sxs, sxb, and_self, and_true, true_and, implies_true, imp_self, bne_eq_false_iff_eq, Nat.zero_add, Nat.le_refl, Int.toNat_natCast, Int.ofNat_lt, Int.natCast_nonneg, decide_eq_true_eq, decide_eq_false_iff_not, bne_iff_ne, ne_eq]; try dsimp only [Kd.T, Kds.T])) ?_
  refine AM.loopI (fun j : Nat => (frame 45 [(1, .ptr 0 0), (4, .int .i64 (.l 1)), (5, .int .i64 (.t fun _ => nI j))], [.box 34 [.int .i64 (.t fun _ => c), .ro I64 fun _ => a, .ro I64 fun _ => b, .ro I64 fun _ => d]])) (fun j => j ≤ b.length ∧ (b.drop j).all validS = b.all validS) (fun j => b.length - j) 0 ⟨by simp, rfl⟩ ?_ ?_ ?_
  · cbv; (simp only [sxs, sxb, and_self, and_true, true_and, implies_true, imp_self, bne_eq_false_iff_eq, Nat.zero_add, Nat.le_refl, Int.toNat_natCast, Int.ofNat_lt, Int.natCast_nonneg, decide_eq_true_eq, decide_eq_false_iff_not, bne_iff_ne, ne_eq]; try dsimp only [Kd.T, Kds.T]); rfl
  · cbv; (simp only [sxs, sxb, and_self, and_true, true_and, implies_true, imp_self, bne_eq_false_iff_eq, Nat.zero_add, Nat.le_refl, Int.toNat_natCast, Int.ofNat_lt, Int.natCast_nonneg, decide_eq_true_eq, decide_eq_false_iff_not, bne_iff_ne, ne_eq]; try dsimp only [Kd.T, Kds.T])
  rintro j1 ⟨hj1, hc1⟩ ih1
  refine AM.run2 hG 100 (by cbv) (by (simp only [sxs, sxb, and_self, and_true, true_and, implies_true, imp_self, bne_eq_false_iff_eq, Nat.zero_add, Nat.le_refl, Int.toNat_natCast, Int.ofNat_lt, Int.natCast_nonneg, decide_eq_true_eq, decide_eq_false_iff_not, bne_iff_ne, ne_eq]; try dsimp only [Kd.T, Kds.T])) ?_
  refine AM.case 33 rfl (fun e1 => ?_) (fun e1 => ?_) <;> (simp only [sxs, sxb, and_self, and_true, true_and, implies_true, imp_self, bne_eq_false_iff_eq, Nat.zero_add, Nat.le_refl, Int.toNat_natCast, Int.ofNat_lt, Int.natCast_nonneg, decide_eq_true_eq, decide_eq_false_iff_not, bne_iff_ne, ne_eq] at e1; try dsimp only [Kd.T, Kds.T] at e1)
  · have e' : j1 < b.length := by omega
    rw [dropD e' 0, List.all_cons] at hc1
    refine AM.run2 hG 100 (by cbv) ?_ ?_
    · (simp only [sxs, sxb, and_self, and_true, true_and, implies_true, imp_self, bne_eq_false_iff_eq, Nat.zero_add, Nat.le_refl, Int.toNat_natCast, Int.ofNat_lt, Int.natCast_nonneg, decide_eq_true_eq, decide_eq_false_iff_not, bne_iff_ne, ne_eq]; try dsimp only [Kd.T, Kds.T])
      exact e'
    refine AM.case 44 rfl (fun f => ?_) (fun f => ?_) <;> (simp only [sxs, sxb, and_self, and_true, true_and, implies_true, imp_self, bne_eq_false_iff_eq, Nat.zero_add, Nat.le_refl, Int.toNat_natCast, Int.ofNat_lt, Int.natCast_nonneg, decide_eq_true_eq, decide_eq_false_iff_not, bne_iff_ne, ne_eq] at f; try dsimp only [Kd.T, Kds.T] at f)
    · refine AM.run2 hG 100 (by cbv) (by (simp only [sxs, sxb, and_self, and_true, true_and, implies_true, imp_self, bne_eq_false_iff_eq, Nat.zero_add, Nat.le_refl, Int.toNat_natCast, Int.ofNat_lt, Int.natCast_nonneg, decide_eq_true_eq, decide_eq_false_iff_not, bne_iff_ne, ne_eq]; try dsimp only [Kd.T, Kds.T])) ?_
      refine AM.ret2 hG (by cbv) (by (simp only [sxs, sxb, and_self, and_true, true_and, implies_true, imp_self, bne_eq_false_iff_eq, Nat.zero_add, Nat.le_refl, Int.toNat_natCast, Int.ofNat_lt, Int.natCast_nonneg, decide_eq_true_eq, decide_eq_false_iff_not, bne_iff_ne, ne_eq]; try dsimp only [Kd.T, Kds.T])) (hQ _ _ (FinRo.of (by cbv) (by cbv) ?_ ?_))
      · (simp only [sxs, sxb, and_self, and_true, true_and, implies_true, imp_self, bne_eq_false_iff_eq, Nat.zero_add, Nat.le_refl, Int.toNat_natCast, Int.ofNat_lt, Int.natCast_nonneg, decide_eq_true_eq, decide_eq_false_iff_not, bne_iff_ne, ne_eq]; try dsimp only [Kd.T, Kds.T])
      try (simp only [sxs, sxb, and_self, and_true, true_and, implies_true, imp_self, bne_eq_false_iff_eq, Nat.zero_add, Nat.le_refl, Int.toNat_natCast, Int.ofNat_lt, Int.natCast_nonneg, decide_eq_true_eq, decide_eq_false_iff_not, bne_iff_ne, ne_eq]; try dsimp only [Kd.T, Kds.T])
      rw [f] at hc1
      simp only [checkS, if_neg h', if_neg hl]
      rw [if_neg (show ¬ kindsOk (c, (a, b, d, u), u1) = true by simp only [kindsOk, ← hc1]; simp)]
    · refine AM.run2 hG 100 (by cbv) (by (simp only [sxs, sxb, and_self, and_true, true_and, implies_true, imp_self, bne_eq_false_iff_eq, Nat.zero_add, Nat.le_refl, Int.toNat_natCast, Int.ofNat_lt, Int.natCast_nonneg, decide_eq_true_eq, decide_eq_false_iff_not, bne_iff_ne, ne_eq]; try dsimp only [Kd.T, Kds.T])) ?_
      refine AM.imp2 (by cbv) (by cbv) ?_ (by (simp only [sxs, sxb, and_self, and_true, true_and, implies_true, imp_self, bne_eq_false_iff_eq, Nat.zero_add, Nat.le_refl, Int.toNat_natCast, Int.ofNat_lt, Int.natCast_nonneg, decide_eq_true_eq, decide_eq_false_iff_not, bne_iff_ne, ne_eq]; try dsimp only [Kd.T, Kds.T])) (ih1 (j1 + 1) ⟨by omega, ?_⟩ (by omega))
      · (simp only [sxs, sxb, and_self, and_true, true_and, implies_true, imp_self, bne_eq_false_iff_eq, Nat.zero_add, Nat.le_refl, Int.toNat_natCast, Int.ofNat_lt, Int.natCast_nonneg, decide_eq_true_eq, decide_eq_false_iff_not, bne_iff_ne, ne_eq]; try dsimp only [Kd.T, Kds.T]); rw [w64s (by omega)]
      · rw [← hc1, f]; rfl
  rw [List.drop_of_length_le (by omega)] at hc1
  clear ih1
  refine AM.run2 hG 100 (by cbv) (by (simp only [sxs, sxb, and_self, and_true, true_and, implies_true, imp_self, bne_eq_false_iff_eq, Nat.zero_add, Nat.le_refl, Int.toNat_natCast, Int.ofNat_lt, Int.natCast_nonneg, decide_eq_true_eq, decide_eq_false_iff_not, bne_iff_ne, ne_eq]; try dsimp only [Kd.T, Kds.T])) ?_
  refine AM.loopI (fun j : Nat => (frame 45 [(1, .ptr 0 0), (4, .int .i64 (.l 2)), (5, .int .i64 (.t fun _ => nI j))], [.box 34 [.int .i64 (.t fun _ => c), .ro I64 fun _ => a, .ro I64 fun _ => b, .ro I64 fun _ => d]])) (fun j => j ≤ d.length ∧ (d.drop j).all validS = d.all validS) (fun j => d.length - j) 0 ⟨by simp, rfl⟩ ?_ ?_ ?_
  · cbv; (simp only [sxs, sxb, and_self, and_true, true_and, implies_true, imp_self, bne_eq_false_iff_eq, Nat.zero_add, Nat.le_refl, Int.toNat_natCast, Int.ofNat_lt, Int.natCast_nonneg, decide_eq_true_eq, decide_eq_false_iff_not, bne_iff_ne, ne_eq]; try dsimp only [Kd.T, Kds.T]); rfl
  · cbv; (simp only [sxs, sxb, and_self, and_true, true_and, implies_true, imp_self, bne_eq_false_iff_eq, Nat.zero_add, Nat.le_refl, Int.toNat_natCast, Int.ofNat_lt, Int.natCast_nonneg, decide_eq_true_eq, decide_eq_false_iff_not, bne_iff_ne, ne_eq]; try dsimp only [Kd.T, Kds.T])
  rintro j2 ⟨hj2, hc2⟩ ih2
  refine AM.run2 hG 100 (by cbv) (by (simp only [sxs, sxb, and_self, and_true, true_and, implies_true, imp_self, bne_eq_false_iff_eq, Nat.zero_add, Nat.le_refl, Int.toNat_natCast, Int.ofNat_lt, Int.natCast_nonneg, decide_eq_true_eq, decide_eq_false_iff_not, bne_iff_ne, ne_eq]; try dsimp only [Kd.T, Kds.T])) ?_
  refine AM.case 33 rfl (fun e2 => ?_) (fun e2 => ?_) <;> (simp only [sxs, sxb, and_self, and_true, true_and, implies_true, imp_self, bne_eq_false_iff_eq, Nat.zero_add, Nat.le_refl, Int.toNat_natCast, Int.ofNat_lt, Int.natCast_nonneg, decide_eq_true_eq, decide_eq_false_iff_not, bne_iff_ne, ne_eq] at e2; try dsimp only [Kd.T, Kds.T] at e2)
  · have e' : j2 < d.length := by omega
    rw [dropD e' 0, List.all_cons] at hc2
    refine AM.run2 hG 100 (by cbv) ?_ ?_
    · (simp only [sxs, sxb, and_self, and_true, true_and, implies_true, imp_self, bne_eq_false_iff_eq, Nat.zero_add, Nat.le_refl, Int.toNat_natCast, Int.ofNat_lt, Int.natCast_nonneg, decide_eq_true_eq, decide_eq_false_iff_not, bne_iff_ne, ne_eq]; try dsimp only [Kd.T, Kds.T])
      exact e'
    refine AM.case 44 rfl (fun f => ?_) (fun f => ?_) <;> (simp only [sxs, sxb, and_self, and_true, true_and, implies_true, imp_self, bne_eq_false_iff_eq, Nat.zero_add, Nat.le_refl, Int.toNat_natCast, Int.ofNat_lt, Int.natCast_nonneg, decide_eq_true_eq, decide_eq_false_iff_not, bne_iff_ne, ne_eq] at f; try dsimp only [Kd.T, Kds.T] at f)
    · refine AM.run2 hG 100 (by cbv) (by (simp only [sxs, sxb, and_self, and_true, true_and, implies_true, imp_self, bne_eq_false_iff_eq, Nat.zero_add, Nat.le_refl, Int.toNat_natCast, Int.ofNat_lt, Int.natCast_nonneg, decide_eq_true_eq, decide_eq_false_iff_not, bne_iff_ne, ne_eq]; try dsimp only [Kd.T, Kds.T])) ?_
      refine AM.ret2 hG (by cbv) (by (simp only [sxs, sxb, and_self, and_true, true_and, implies_true, imp_self, bne_eq_false_iff_eq, Nat.zero_add, Nat.le_refl, Int.toNat_natCast, Int.ofNat_lt, Int.natCast_nonneg, decide_eq_true_eq, decide_eq_false_iff_not, bne_iff_ne, ne_eq]; try dsimp only [Kd.T, Kds.T])) (hQ _ _ (FinRo.of (by cbv) (by cbv) ?_ ?_))
      · (simp only [sxs, sxb, and_self, and_true, true_and, implies_true, imp_self, bne_eq_false_iff_eq, Nat.zero_add, Nat.le_refl, Int.toNat_natCast, Int.ofNat_lt, Int.natCast_nonneg, decide_eq_true_eq, decide_eq_false_iff_not, bne_iff_ne, ne_eq]; try dsimp only [Kd.T, Kds.T])
      try (simp only [sxs, sxb, and_self, and_true, true_and, implies_true, imp_self, bne_eq_false_iff_eq, Nat.zero_add, Nat.le_refl, Int.toNat_natCast, Int.ofNat_lt, Int.natCast_nonneg, decide_eq_true_eq, decide_eq_false_iff_not, bne_iff_ne, ne_eq]; try dsimp only [Kd.T, Kds.T])
      rw [f] at hc2
      simp only [checkS, if_neg h', if_neg hl]
      rw [if_neg (show ¬ kindsOk (c, (a, b, d, u), u1) = true by simp only [kindsOk, ← hc2]; simp)]
    · refine AM.run2 hG 100 (by cbv) (by (simp only [sxs, sxb, and_self, and_true, true_and, implies_true, imp_self, bne_eq_false_iff_eq, Nat.zero_add, Nat.le_refl, Int.toNat_natCast, Int.ofNat_lt, Int.natCast_nonneg, decide_eq_true_eq, decide_eq_false_iff_not, bne_iff_ne, ne_eq]; try dsimp only [Kd.T, Kds.T])) ?_
      refine AM.imp2 (by cbv) (by cbv) ?_ (by (simp only [sxs, sxb, and_self, and_true, true_and, implies_true, imp_self, bne_eq_false_iff_eq, Nat.zero_add, Nat.le_refl, Int.toNat_natCast, Int.ofNat_lt, Int.natCast_nonneg, decide_eq_true_eq, decide_eq_false_iff_not, bne_iff_ne, ne_eq]; try dsimp only [Kd.T, Kds.T])) (ih2 (j2 + 1) ⟨by omega, ?_⟩ (by omega))
      · (simp only [sxs, sxb, and_self, and_true, true_and, implies_true, imp_self, bne_eq_false_iff_eq, Nat.zero_add, Nat.le_refl, Int.toNat_natCast, Int.ofNat_lt, Int.natCast_nonneg, decide_eq_true_eq, decide_eq_false_iff_not, bne_iff_ne, ne_eq]; try dsimp only [Kd.T, Kds.T]); rw [w64s (by omega)]
      · rw [← hc2, f]; rfl
  rw [List.drop_of_length_le (by omega)] at hc2
  clear ih2
  refine AM.run2 hG 100 (by cbv) (by (simp only [sxs, sxb, and_self, and_true, true_and, implies_true, imp_self, bne_eq_false_iff_eq, Nat.zero_add, Nat.le_refl, Int.toNat_natCast, Int.ofNat_lt, Int.natCast_nonneg, decide_eq_true_eq, decide_eq_false_iff_not, bne_iff_ne, ne_eq]; try dsimp only [Kd.T, Kds.T])) ?_
  refine AM.ret2 hG (by cbv) (by (simp only [sxs, sxb, and_self, and_true, true_and, implies_true, imp_self, bne_eq_false_iff_eq, Nat.zero_add, Nat.le_refl, Int.toNat_natCast, Int.ofNat_lt, Int.natCast_nonneg, decide_eq_true_eq, decide_eq_false_iff_not, bne_iff_ne, ne_eq]; try dsimp only [Kd.T, Kds.T])) (hQ _ _ (FinRo.of (by cbv) (by cbv) ?_ ?_))
  · (simp only [sxs, sxb, and_self, and_true, true_and, implies_true, imp_self, bne_eq_false_iff_eq, Nat.zero_add, Nat.le_refl, Int.toNat_natCast, Int.ofNat_lt, Int.natCast_nonneg, decide_eq_true_eq, decide_eq_false_iff_not, bne_iff_ne, ne_eq]; try dsimp only [Kd.T, Kds.T])
  try (simp only [sxs, sxb, and_self, and_true, true_and, implies_true, imp_self, bne_eq_false_iff_eq, Nat.zero_add, Nat.le_refl, Int.toNat_natCast, Int.ofNat_lt, Int.natCast_nonneg, decide_eq_true_eq, decide_eq_false_iff_not, bne_iff_ne, ne_eq]; try dsimp only [Kd.T, Kds.T])
  simp only [checkS, if_neg h', if_neg hl]
  rw [if_pos (show kindsOk (c, (a, b, d, u), u1) = true by simp only [kindsOk, ← hc0, ← hc1, ← hc2]; rfl)]

theorem check0 {m : Modes} (h : checkS m = 0) : 1 ≤ m.1 ∧ m.1 ≤ 8 ∧ lensOk m ∧ kindsOk m = true := by
  unfold checkS at h
  split at h
  · cases h
  · split at h
    · cases h
    · split at h
      · rename_i h1 h2 h3
        exact ⟨by omega, by omega, by simpa using h2, h3⟩
      · cases h

def atS (m : Modes) (dom car : Int) : Int :=
  if checkS m = 0 then (if dom < 1 ∨ 3 < dom ∨ car < 1 ∨ m.1 < car then 2 else 0) else checkS m
def S42 : List AV → Option FOut := sigSpec [ModesK, I64, I64] [I64] (fun x : Modes × Int × Int × Unit => (atS x.1 x.2.1 x.2.2.1, ())) (fun _ => True)
theorem fn42 : FnOk Try.prog 42 S42 := by
  refine fn_of (rs := [.tmp 6]) (env [(22, S22)] ⟨fn22, trivial⟩) Try.func42 (by kernel_rfl) rfl rfl Try.ntmps42 ?_
  rintro ⟨⟨(c : Int), ⟨(a : List Int), (b : List Int), (d : List Int), u⟩, u1⟩, (dom : Int), (car : Int), u2⟩ _ G hG hQ
  refine AM.run2 hG 100 (by cbv) (by (simp only [sxs, sxb, and_self, and_true, true_and, implies_true, imp_self, bne_eq_false_iff_eq, Nat.zero_add, Nat.le_refl, Int.toNat_natCast, Int.ofNat_lt, Int.natCast_nonneg, decide_eq_true_eq, decide_eq_false_iff_not, bne_iff_ne, ne_eq]; try dsimp only [Kd.T, Kds.T])) ?_
  refine AM.case 11 rfl (fun h => ?_) (fun h => ?_) <;> (simp only [sxs, sxb, and_self, and_true, true_and, implies_true, imp_self, bne_eq_false_iff_eq, Nat.zero_add, Nat.le_refl, Int.toNat_natCast, Int.ofNat_lt, Int.natCast_nonneg, decide_eq_true_eq, decide_eq_false_iff_not, bne_iff_ne, ne_eq] at h; try dsimp only [Kd.T, Kds.T] at h)
  · refine AM.run2 hG 100 (by cbv) (by (simp only [sxs, sxb, and_self, and_true, true_and, implies_true, imp_self, bne_eq_false_iff_eq, Nat.zero_add, Nat.le_refl, Int.toNat_natCast, Int.ofNat_lt, Int.natCast_nonneg, decide_eq_true_eq, decide_eq_false_iff_not, bne_iff_ne, ne_eq]; try dsimp only [Kd.T, Kds.T])) ?_
    refine AM.ret2 hG (by cbv) (by (simp only [sxs, sxb, and_self, and_true, true_and, implies_true, imp_self, bne_eq_false_iff_eq, Nat.zero_add, Nat.le_refl, Int.toNat_natCast, Int.ofNat_lt, Int.natCast_nonneg, decide_eq_true_eq, decide_eq_false_iff_not, bne_iff_ne, ne_eq]; try dsimp only [Kd.T, Kds.T])) (hQ _ _ (FinRo.of (by cbv) (by cbv) ?_ ?_))
    · (simp only [sxs, sxb, and_self, and_true, true_and, implies_true, imp_self, bne_eq_false_iff_eq, Nat.zero_add, Nat.le_refl, Int.toNat_natCast, Int.ofNat_lt, Int.natCast_nonneg, decide_eq_true_eq, decide_eq_false_iff_not, bne_iff_ne, ne_eq]; try dsimp only [Kd.T, Kds.T])
    try (simp only [sxs, sxb, and_self, and_true, true_and, implies_true, imp_self, bne_eq_false_iff_eq, Nat.zero_add, Nat.le_refl, Int.toNat_natCast, Int.ofNat_lt, Int.natCast_nonneg, decide_eq_true_eq, decide_eq_false_iff_not, bne_iff_ne, ne_eq]; try dsimp only [Kd.T, Kds.T])
    simp only [atS, if_neg h]
  refine AM.run2 hG 100 (by cbv) (by (simp only [sxs, sxb, and_self, and_true, true_and, implies_true, imp_self, bne_eq_false_iff_eq, Nat.zero_add, Nat.le_refl, Int.toNat_natCast, Int.ofNat_lt, Int.natCast_nonneg, decide_eq_true_eq, decide_eq_false_iff_not, bne_iff_ne, ne_eq]; try dsimp only [Kd.T, Kds.T])) ?_
  refine AM.case 28 rfl (fun g => ?_) (fun g => ?_) <;> (simp only [sxs, sxb, and_self, and_true, true_and, implies_true, imp_self, bne_eq_false_iff_eq, Nat.zero_add, Nat.le_refl, Int.toNat_natCast, Int.ofNat_lt, Int.natCast_nonneg, decide_eq_true_eq, decide_eq_false_iff_not, bne_iff_ne, ne_eq] at g; try dsimp only [Kd.T, Kds.T] at g)
  · refine AM.run2 hG 100 (by cbv) (by (simp only [sxs, sxb, and_self, and_true, true_and, implies_true, imp_self, bne_eq_false_iff_eq, Nat.zero_add, Nat.le_refl, Int.toNat_natCast, Int.ofNat_lt, Int.natCast_nonneg, decide_eq_true_eq, decide_eq_false_iff_not, bne_iff_ne, ne_eq]; try dsimp only [Kd.T, Kds.T])) ?_
    refine AM.ret2 hG (by cbv) (by (simp only [sxs, sxb, and_self, and_true, true_and, implies_true, imp_self, bne_eq_false_iff_eq, Nat.zero_add, Nat.le_refl, Int.toNat_natCast, Int.ofNat_lt, Int.natCast_nonneg, decide_eq_true_eq, decide_eq_false_iff_not, bne_iff_ne, ne_eq]; try dsimp only [Kd.T, Kds.T])) (hQ _ _ (FinRo.of (by cbv) (by cbv) ?_ ?_))
    · (simp only [sxs, sxb, and_self, and_true, true_and, implies_true, imp_self, bne_eq_false_iff_eq, Nat.zero_add, Nat.le_refl, Int.toNat_natCast, Int.ofNat_lt, Int.natCast_nonneg, decide_eq_true_eq, decide_eq_false_iff_not, bne_iff_ne, ne_eq]; try dsimp only [Kd.T, Kds.T])
    try (simp only [sxs, sxb, and_self, and_true, true_and, implies_true, imp_self, bne_eq_false_iff_eq, Nat.zero_add, Nat.le_refl, Int.toNat_natCast, Int.ofNat_lt, Int.natCast_nonneg, decide_eq_true_eq, decide_eq_false_iff_not, bne_iff_ne, ne_eq]; try dsimp only [Kd.T, Kds.T])
    simp only [atS, if_pos h]
    rw [if_pos (by omega)]
  · refine AM.run2 hG 100 (by cbv) (by (simp only [sxs, sxb, and_self, and_true, true_and, implies_true, imp_self, bne_eq_false_iff_eq, Nat.zero_add, Nat.le_refl, Int.toNat_natCast, Int.ofNat_lt, Int.natCast_nonneg, decide_eq_true_eq, decide_eq_false_iff_not, bne_iff_ne, ne_eq]; try dsimp only [Kd.T, Kds.T])) ?_
    refine AM.ret2 hG (by cbv) (by (simp only [sxs, sxb, and_self, and_true, true_and, implies_true, imp_self, bne_eq_false_iff_eq, Nat.zero_add, Nat.le_refl, Int.toNat_natCast, Int.ofNat_lt, Int.natCast_nonneg, decide_eq_true_eq, decide_eq_false_iff_not, bne_iff_ne, ne_eq]; try dsimp only [Kd.T, Kds.T])) (hQ _ _ (FinRo.of (by cbv) (by cbv) ?_ ?_))
    · (simp only [sxs, sxb, and_self, and_true, true_and, implies_true, imp_self, bne_eq_false_iff_eq, Nat.zero_add, Nat.le_refl, Int.toNat_natCast, Int.ofNat_lt, Int.natCast_nonneg, decide_eq_true_eq, decide_eq_false_iff_not, bne_iff_ne, ne_eq]; try dsimp only [Kd.T, Kds.T])
    try (simp only [sxs, sxb, and_self, and_true, true_and, implies_true, imp_self, bne_eq_false_iff_eq, Nat.zero_add, Nat.le_refl, Int.toNat_natCast, Int.ofNat_lt, Int.natCast_nonneg, decide_eq_true_eq, decide_eq_false_iff_not, bne_iff_ne, ne_eq]; try dsimp only [Kd.T, Kds.T])
    simp only [atS, if_pos h]
    rw [if_neg (by omega)]
def S43 : List AV → Option FOut := sigSpec [ModesK, I64, I64] [I64] (fun x : Modes × Int × Int × Unit => (atS x.1 x.2.1 x.2.2.1, ())) (fun _ => True)
theorem fn43 : FnOk Try.prog 43 S43 := by
  refine fn_of (rs := [.tmp 6]) (env [(23, S23)] ⟨fn23, trivial⟩) Try.func43 (by kernel_rfl) rfl rfl Try.ntmps43 ?_
  rintro ⟨⟨(c : Int), ⟨(a : List Int), (b : List Int), (d : List Int), u⟩, u1⟩, (dom : Int), (car : Int), u2⟩ _ G hG hQ
  refine AM.runTo2 hG 13 100 (by cbv) (by (simp only [sxs, sxb, and_self, and_true, true_and, implies_true, imp_self, bne_eq_false_iff_eq, Nat.zero_add, Nat.le_refl, Int.toNat_natCast, Int.ofNat_lt, Int.natCast_nonneg, decide_eq_true_eq, decide_eq_false_iff_not, bne_iff_ne, ne_eq]; try dsimp only [Kd.T, Kds.T])) ?_
  refine AM.case 12 rfl (fun h => ?_) (fun h => ?_) <;> (simp only [sxs, sxb, and_self, and_true, true_and, implies_true, imp_self, bne_eq_false_iff_eq, Nat.zero_add, Nat.le_refl, Int.toNat_natCast, Int.ofNat_lt, Int.natCast_nonneg, decide_eq_true_eq, decide_eq_false_iff_not, bne_iff_ne, ne_eq] at h; try dsimp only [Kd.T, Kds.T] at h)
  · refine AM.run2 hG 100 (by cbv) (by (simp only [sxs, sxb, and_self, and_true, true_and, implies_true, imp_self, bne_eq_false_iff_eq, Nat.zero_add, Nat.le_refl, Int.toNat_natCast, Int.ofNat_lt, Int.natCast_nonneg, decide_eq_true_eq, decide_eq_false_iff_not, bne_iff_ne, ne_eq]; try dsimp only [Kd.T, Kds.T])) ?_
    refine AM.case 29 rfl (fun g => ?_) (fun g => ?_) <;> (simp only [sxs, sxb, and_self, and_true, true_and, implies_true, imp_self, bne_eq_false_iff_eq, Nat.zero_add, Nat.le_refl, Int.toNat_natCast, Int.ofNat_lt, Int.natCast_nonneg, decide_eq_true_eq, decide_eq_false_iff_not, bne_iff_ne, ne_eq] at g; try dsimp only [Kd.T, Kds.T] at g)
    · refine AM.run2 hG 100 (by cbv) (by (simp only [sxs, sxb, and_self, and_true, true_and, implies_true, imp_self, bne_eq_false_iff_eq, Nat.zero_add, Nat.le_refl, Int.toNat_natCast, Int.ofNat_lt, Int.natCast_nonneg, decide_eq_true_eq, decide_eq_false_iff_not, bne_iff_ne, ne_eq]; try dsimp only [Kd.T, Kds.T])) ?_
      refine AM.ret2 hG (by cbv) (by (simp only [sxs, sxb, and_self, and_true, true_and, implies_true, imp_self, bne_eq_false_iff_eq, Nat.zero_add, Nat.le_refl, Int.toNat_natCast, Int.ofNat_lt, Int.natCast_nonneg, decide_eq_true_eq, decide_eq_false_iff_not, bne_iff_ne, ne_eq]; try dsimp only [Kd.T, Kds.T])) (hQ _ _ (FinRo.of (by cbv) (by cbv) ?_ ?_))
      · (simp only [sxs, sxb, and_self, and_true, true_and, implies_true, imp_self, bne_eq_false_iff_eq, Nat.zero_add, Nat.le_refl, Int.toNat_natCast, Int.ofNat_lt, Int.natCast_nonneg, decide_eq_true_eq, decide_eq_false_iff_not, bne_iff_ne, ne_eq]; try dsimp only [Kd.T, Kds.T])
      try (simp only [sxs, sxb, and_self, and_true, true_and, implies_true, imp_self, bne_eq_false_iff_eq, Nat.zero_add, Nat.le_refl, Int.toNat_natCast, Int.ofNat_lt, Int.natCast_nonneg, decide_eq_true_eq, decide_eq_false_iff_not, bne_iff_ne, ne_eq]; try dsimp only [Kd.T, Kds.T])
      simp only [atS, if_pos h]
      rw [if_pos (by omega)]
    · refine AM.run2 hG 100 (by cbv) (by (simp only [sxs, sxb, and_self, and_true, true_and, implies_true, imp_self, bne_eq_false_iff_eq, Nat.zero_add, Nat.le_refl, Int.toNat_natCast, Int.ofNat_lt, Int.natCast_nonneg, decide_eq_true_eq, decide_eq_false_iff_not, bne_iff_ne, ne_eq]; try dsimp only [Kd.T, Kds.T])) ?_
      refine AM.ret2 hG (by cbv) (by (simp only [sxs, sxb, and_self, and_true, true_and, implies_true, imp_self, bne_eq_false_iff_eq, Nat.zero_add, Nat.le_refl, Int.toNat_natCast, Int.ofNat_lt, Int.natCast_nonneg, decide_eq_true_eq, decide_eq_false_iff_not, bne_iff_ne, ne_eq]; try dsimp only [Kd.T, Kds.T])) (hQ _ _ (FinRo.of (by cbv) (by cbv) ?_ ?_))
      · (simp only [sxs, sxb, and_self, and_true, true_and, implies_true, imp_self, bne_eq_false_iff_eq, Nat.zero_add, Nat.le_refl, Int.toNat_natCast, Int.ofNat_lt, Int.natCast_nonneg, decide_eq_true_eq, decide_eq_false_iff_not, bne_iff_ne, ne_eq]; try dsimp only [Kd.T, Kds.T])
      try (simp only [sxs, sxb, and_self, and_true, true_and, implies_true, imp_self, bne_eq_false_iff_eq, Nat.zero_add, Nat.le_refl, Int.toNat_natCast, Int.ofNat_lt, Int.natCast_nonneg, decide_eq_true_eq, decide_eq_false_iff_not, bne_iff_ne, ne_eq]; try dsimp only [Kd.T, Kds.T])
      simp only [atS, if_pos h]
      rw [if_neg (by omega)]
      exact h
  · refine AM.run2 hG 100 (by cbv) (by (simp only [sxs, sxb, and_self, and_true, true_and, implies_true, imp_self, bne_eq_false_iff_eq, Nat.zero_add, Nat.le_refl, Int.toNat_natCast, Int.ofNat_lt, Int.natCast_nonneg, decide_eq_true_eq, decide_eq_false_iff_not, bne_iff_ne, ne_eq]; try dsimp only [Kd.T, Kds.T])) ?_
    refine AM.ret2 hG (by cbv) (by (simp only [sxs, sxb, and_self, and_true, true_and, implies_true, imp_self, bne_eq_false_iff_eq, Nat.zero_add, Nat.le_refl, Int.toNat_natCast, Int.ofNat_lt, Int.natCast_nonneg, decide_eq_true_eq, decide_eq_false_iff_not, bne_iff_ne, ne_eq]; try dsimp only [Kd.T, Kds.T])) (hQ _ _ (FinRo.of (by cbv) (by cbv) ?_ ?_))
    · (simp only [sxs, sxb, and_self, and_true, true_and, implies_true, imp_self, bne_eq_false_iff_eq, Nat.zero_add, Nat.le_refl, Int.toNat_natCast, Int.ofNat_lt, Int.natCast_nonneg, decide_eq_true_eq, decide_eq_false_iff_not, bne_iff_ne, ne_eq]; try dsimp only [Kd.T, Kds.T])
    try (simp only [sxs, sxb, and_self, and_true, true_and, implies_true, imp_self, bne_eq_false_iff_eq, Nat.zero_add, Nat.le_refl, Int.toNat_natCast, Int.ofNat_lt, Int.natCast_nonneg, decide_eq_true_eq, decide_eq_false_iff_not, bne_iff_ne, ne_eq]; try dsimp only [Kd.T, Kds.T])
    simp only [atS, if_neg h]

def listOf (m : Modes) (dom : Int) : List Int := if dom = 1 then m.2.1.1 else if dom = 2 then m.2.1.2.1 else m.2.1.2.2.1
def getS (m : Modes) (dom car : Int) : Int × Int :=
  if atS m dom car = 0 then ((listOf m dom).getD (car - 1).toNat 0, 0) else (0, atS m dom car)
theorem at0 {m : Modes} {dom car : Int} (h : atS m dom car = 0) : checkS m = 0 ∧ 1 ≤ dom ∧ dom ≤ 3 ∧ 1 ≤ car ∧ car ≤ m.1 := by
  unfold atS at h
  split at h
  · split at h
    · cases h
    · rename_i h1 h2
      exact ⟨h1, by omega, by omega, by omega, by omega⟩
  · rename_i h1; exact absurd h h1
def S24 : List AV → Option FOut := sigSpec [ModesK, I64, I64] [I64, I64] (fun x : Modes × Int × Int × Unit => ((getS x.1 x.2.1 x.2.2.1).1, (getS x.1 x.2.1 x.2.2.1).2, ())) (fun _ => True)
theorem fn24 : FnOk Try.prog 24 S24 := by
  refine fn_of (rs := [.tmp 6, .tmp 7]) (env [(42, S42)] ⟨fn42, trivial⟩) Try.func24 (by kernel_rfl) rfl rfl Try.ntmps24 ?_
  rintro ⟨⟨(c : Int), ⟨(a : List Int), (b : List Int), (d : List Int), u⟩, u1⟩, (dom : Int), (car : Int), u2⟩ _ G hG hQ
  refine AM.run2 hG 100 (by cbv) (by (simp only [sxs, sxb, and_self, and_true, true_and, implies_true, imp_self, bne_eq_false_iff_eq, Nat.zero_add, Nat.le_refl, Int.toNat_natCast, Int.ofNat_lt, Int.natCast_nonneg, decide_eq_true_eq, decide_eq_false_iff_not, bne_iff_ne, ne_eq]; try dsimp only [Kd.T, Kds.T])) ?_
  refine AM.case 14 rfl (fun h => ?_) (fun h => ?_) <;> (simp only [sxs, sxb, and_self, and_true, true_and, implies_true, imp_self, bne_eq_false_iff_eq, Nat.zero_add, Nat.le_refl, Int.toNat_natCast, Int.ofNat_lt, Int.natCast_nonneg, decide_eq_true_eq, decide_eq_false_iff_not, bne_iff_ne, ne_eq] at h; try dsimp only [Kd.T, Kds.T] at h)
  · refine AM.run2 hG 100 (by cbv) (by (simp only [sxs, sxb, and_self, and_true, true_and, implies_true, imp_self, bne_eq_false_iff_eq, Nat.zero_add, Nat.le_refl, Int.toNat_natCast, Int.ofNat_lt, Int.natCast_nonneg, decide_eq_true_eq, decide_eq_false_iff_not, bne_iff_ne, ne_eq]; try dsimp only [Kd.T, Kds.T])) ?_
    refine AM.ret2 hG (by cbv) (by (simp only [sxs, sxb, and_self, and_true, true_and, implies_true, imp_self, bne_eq_false_iff_eq, Nat.zero_add, Nat.le_refl, Int.toNat_natCast, Int.ofNat_lt, Int.natCast_nonneg, decide_eq_true_eq, decide_eq_false_iff_not, bne_iff_ne, ne_eq]; try dsimp only [Kd.T, Kds.T])) (hQ _ _ (FinRo.of (by cbv) (by cbv) ?_ ?_))
    · (simp only [sxs, sxb, and_self, and_true, true_and, implies_true, imp_self, bne_eq_false_iff_eq, Nat.zero_add, Nat.le_refl, Int.toNat_natCast, Int.ofNat_lt, Int.natCast_nonneg, decide_eq_true_eq, decide_eq_false_iff_not, bne_iff_ne, ne_eq]; try dsimp only [Kd.T, Kds.T])
    try (simp only [sxs, sxb, and_self, and_true, true_and, implies_true, imp_self, bne_eq_false_iff_eq, Nat.zero_add, Nat.le_refl, Int.toNat_natCast, Int.ofNat_lt, Int.natCast_nonneg, decide_eq_true_eq, decide_eq_false_iff_not, bne_iff_ne, ne_eq]; try dsimp only [Kd.T, Kds.T])
    simp only [getS, if_neg h, and_self]
  · obtain ⟨h1, h2, h3, h4, h5⟩ := at0 h
    obtain ⟨h6, h7, ⟨h8, h9, h10⟩, _⟩ := check0 h1
    simp only at h5 h6 h7 h8 h9 h10
    refine AM.run2 hG 100 (by cbv) (by (simp only [sxs, sxb, and_self, and_true, true_and, implies_true, imp_self, bne_eq_false_iff_eq, Nat.zero_add, Nat.le_refl, Int.toNat_natCast, Int.ofNat_lt, Int.natCast_nonneg, decide_eq_true_eq, decide_eq_false_iff_not, bne_iff_ne, ne_eq]; try dsimp only [Kd.T, Kds.T])) ?_
    have hw : IntKind.i64.wrap (car - 1) = car - 1 := w64 (by omega) (by omega)
    rcases (show dom = 1 ∨ dom = 2 ∨ dom = 3 by omega) with rfl | rfl | rfl
    · refine AM.pin 17 0 rfl rfl ?_
      refine AM.run2 hG 100 (by cbv) ?_ ?_
      · (simp only [sxs, sxb, and_self, and_true, true_and, implies_true, imp_self, bne_eq_false_iff_eq, Nat.zero_add, Nat.le_refl, Int.toNat_natCast, Int.ofNat_lt, Int.natCast_nonneg, decide_eq_true_eq, decide_eq_false_iff_not, bne_iff_ne, ne_eq, hw]; try dsimp only [Kd.T, Kds.T])
        omega
      refine AM.ret2 hG (by cbv) (by (simp only [sxs, sxb, and_self, and_true, true_and, implies_true, imp_self, bne_eq_false_iff_eq, Nat.zero_add, Nat.le_refl, Int.toNat_natCast, Int.ofNat_lt, Int.natCast_nonneg, decide_eq_true_eq, decide_eq_false_iff_not, bne_iff_ne, ne_eq]; try dsimp only [Kd.T, Kds.T])) (hQ _ _ (FinRo.of (by cbv) (by cbv) ?_ ?_))
      · (simp only [sxs, sxb, and_self, and_true, true_and, implies_true, imp_self, bne_eq_false_iff_eq, Nat.zero_add, Nat.le_refl, Int.toNat_natCast, Int.ofNat_lt, Int.natCast_nonneg, decide_eq_true_eq, decide_eq_false_iff_not, bne_iff_ne, ne_eq, hw]; try dsimp only [Kd.T, Kds.T])
      try (simp only [sxs, sxb, and_self, and_true, true_and, implies_true, imp_self, bne_eq_false_iff_eq, Nat.zero_add, Nat.le_refl, Int.toNat_natCast, Int.ofNat_lt, Int.natCast_nonneg, decide_eq_true_eq, decide_eq_false_iff_not, bne_iff_ne, ne_eq, hw]; try dsimp only [Kd.T, Kds.T])
      simp only [getS, if_pos h, listOf]
      simp
    · refine AM.pin 17 1 rfl rfl ?_
      refine AM.run2 hG 100 (by cbv) ?_ ?_
      · (simp only [sxs, sxb, and_self, and_true, true_and, implies_true, imp_self, bne_eq_false_iff_eq, Nat.zero_add, Nat.le_refl, Int.toNat_natCast, Int.ofNat_lt, Int.natCast_nonneg, decide_eq_true_eq, decide_eq_false_iff_not, bne_iff_ne, ne_eq, hw]; try dsimp only [Kd.T, Kds.T])
        omega
      refine AM.ret2 hG (by cbv) (by (simp only [sxs, sxb, and_self, and_true, true_and, implies_true, imp_self, bne_eq_false_iff_eq, Nat.zero_add, Nat.le_refl, Int.toNat_natCast, Int.ofNat_lt, Int.natCast_nonneg, decide_eq_true_eq, decide_eq_false_iff_not, bne_iff_ne, ne_eq]; try dsimp only [Kd.T, Kds.T])) (hQ _ _ (FinRo.of (by cbv) (by cbv) ?_ ?_))
      · (simp only [sxs, sxb, and_self, and_true, true_and, implies_true, imp_self, bne_eq_false_iff_eq, Nat.zero_add, Nat.le_refl, Int.toNat_natCast, Int.ofNat_lt, Int.natCast_nonneg, decide_eq_true_eq, decide_eq_false_iff_not, bne_iff_ne, ne_eq, hw]; try dsimp only [Kd.T, Kds.T])
      try (simp only [sxs, sxb, and_self, and_true, true_and, implies_true, imp_self, bne_eq_false_iff_eq, Nat.zero_add, Nat.le_refl, Int.toNat_natCast, Int.ofNat_lt, Int.natCast_nonneg, decide_eq_true_eq, decide_eq_false_iff_not, bne_iff_ne, ne_eq, hw]; try dsimp only [Kd.T, Kds.T])
      simp only [getS, if_pos h, listOf]
      simp
    · refine AM.pin 17 2 rfl rfl ?_
      refine AM.run2 hG 100 (by cbv) ?_ ?_
      · (simp only [sxs, sxb, and_self, and_true, true_and, implies_true, imp_self, bne_eq_false_iff_eq, Nat.zero_add, Nat.le_refl, Int.toNat_natCast, Int.ofNat_lt, Int.natCast_nonneg, decide_eq_true_eq, decide_eq_false_iff_not, bne_iff_ne, ne_eq, hw]; try dsimp only [Kd.T, Kds.T])
        omega
      refine AM.ret2 hG (by cbv) (by (simp only [sxs, sxb, and_self, and_true, true_and, implies_true, imp_self, bne_eq_false_iff_eq, Nat.zero_add, Nat.le_refl, Int.toNat_natCast, Int.ofNat_lt, Int.natCast_nonneg, decide_eq_true_eq, decide_eq_false_iff_not, bne_iff_ne, ne_eq]; try dsimp only [Kd.T, Kds.T])) (hQ _ _ (FinRo.of (by cbv) (by cbv) ?_ ?_))
      · (simp only [sxs, sxb, and_self, and_true, true_and, implies_true, imp_self, bne_eq_false_iff_eq, Nat.zero_add, Nat.le_refl, Int.toNat_natCast, Int.ofNat_lt, Int.natCast_nonneg, decide_eq_true_eq, decide_eq_false_iff_not, bne_iff_ne, ne_eq, hw]; try dsimp only [Kd.T, Kds.T])
      try (simp only [sxs, sxb, and_self, and_true, true_and, implies_true, imp_self, bne_eq_false_iff_eq, Nat.zero_add, Nat.le_refl, Int.toNat_natCast, Int.ofNat_lt, Int.natCast_nonneg, decide_eq_true_eq, decide_eq_false_iff_not, bne_iff_ne, ne_eq, hw]; try dsimp only [Kd.T, Kds.T])
      simp only [getS, if_pos h, listOf]
      simp
def S25 : List AV → Option FOut := sigSpec [ModesK, I64, I64] [I64, I64] (fun x : Modes × Int × Int × Unit => ((getS x.1 x.2.1 x.2.2.1).1, (getS x.1 x.2.1 x.2.2.1).2, ())) (fun _ => True)
theorem fn25 : FnOk Try.prog 25 S25 := by
  refine fn_of (rs := [.tmp 6, .tmp 7]) (env [(43, S43)] ⟨fn43, trivial⟩) Try.func25 (by kernel_rfl) rfl rfl Try.ntmps25 ?_
  rintro ⟨⟨(c : Int), ⟨(a : List Int), (b : List Int), (d : List Int), u⟩, u1⟩, (dom : Int), (car : Int), u2⟩ _ G hG hQ
  refine AM.run2 hG 100 (by cbv) (by (simp only [sxs, sxb, and_self, and_true, true_and, implies_true, imp_self, bne_eq_false_iff_eq, Nat.zero_add, Nat.le_refl, Int.toNat_natCast, Int.ofNat_lt, Int.natCast_nonneg, decide_eq_true_eq, decide_eq_false_iff_not, bne_iff_ne, ne_eq]; try dsimp only [Kd.T, Kds.T])) ?_
  refine AM.case 14 rfl (fun h => ?_) (fun h => ?_) <;> (simp only [sxs, sxb, and_self, and_true, true_and, implies_true, imp_self, bne_eq_false_iff_eq, Nat.zero_add, Nat.le_refl, Int.toNat_natCast, Int.ofNat_lt, Int.natCast_nonneg, decide_eq_true_eq, decide_eq_false_iff_not, bne_iff_ne, ne_eq] at h; try dsimp only [Kd.T, Kds.T] at h)
  · refine AM.run2 hG 100 (by cbv) (by (simp only [sxs, sxb, and_self, and_true, true_and, implies_true, imp_self, bne_eq_false_iff_eq, Nat.zero_add, Nat.le_refl, Int.toNat_natCast, Int.ofNat_lt, Int.natCast_nonneg, decide_eq_true_eq, decide_eq_false_iff_not, bne_iff_ne, ne_eq]; try dsimp only [Kd.T, Kds.T])) ?_
    refine AM.ret2 hG (by cbv) (by (simp only [sxs, sxb, and_self, and_true, true_and, implies_true, imp_self, bne_eq_false_iff_eq, Nat.zero_add, Nat.le_refl, Int.toNat_natCast, Int.ofNat_lt, Int.natCast_nonneg, decide_eq_true_eq, decide_eq_false_iff_not, bne_iff_ne, ne_eq]; try dsimp only [Kd.T, Kds.T])) (hQ _ _ (FinRo.of (by cbv) (by cbv) ?_ ?_))
    · (simp only [sxs, sxb, and_self, and_true, true_and, implies_true, imp_self, bne_eq_false_iff_eq, Nat.zero_add, Nat.le_refl, Int.toNat_natCast, Int.ofNat_lt, Int.natCast_nonneg, decide_eq_true_eq, decide_eq_false_iff_not, bne_iff_ne, ne_eq]; try dsimp only [Kd.T, Kds.T])
    try (simp only [sxs, sxb, and_self, and_true, true_and, implies_true, imp_self, bne_eq_false_iff_eq, Nat.zero_add, Nat.le_refl, Int.toNat_natCast, Int.ofNat_lt, Int.natCast_nonneg, decide_eq_true_eq, decide_eq_false_iff_not, bne_iff_ne, ne_eq]; try dsimp only [Kd.T, Kds.T])
    simp only [getS, if_neg h, and_self]
  · obtain ⟨h1, h2, h3, h4, h5⟩ := at0 h
    obtain ⟨h6, h7, ⟨h8, h9, h10⟩, _⟩ := check0 h1
    simp only at h5 h6 h7 h8 h9 h10
    refine AM.run2 hG 100 (by cbv) (by (simp only [sxs, sxb, and_self, and_true, true_and, implies_true, imp_self, bne_eq_false_iff_eq, Nat.zero_add, Nat.le_refl, Int.toNat_natCast, Int.ofNat_lt, Int.natCast_nonneg, decide_eq_true_eq, decide_eq_false_iff_not, bne_iff_ne, ne_eq]; try dsimp only [Kd.T, Kds.T])) ?_
    have hw : IntKind.i64.wrap (car - 1) = car - 1 := w64 (by omega) (by omega)
    rcases (show dom = 1 ∨ dom = 2 ∨ dom = 3 by omega) with rfl | rfl | rfl
    · refine AM.pin 17 0 rfl rfl ?_
      refine AM.run2 hG 100 (by cbv) ?_ ?_
      · (simp only [sxs, sxb, and_self, and_true, true_and, implies_true, imp_self, bne_eq_false_iff_eq, Nat.zero_add, Nat.le_refl, Int.toNat_natCast, Int.ofNat_lt, Int.natCast_nonneg, decide_eq_true_eq, decide_eq_false_iff_not, bne_iff_ne, ne_eq, hw]; try dsimp only [Kd.T, Kds.T])
        omega
      refine AM.ret2 hG (by cbv) (by (simp only [sxs, sxb, and_self, and_true, true_and, implies_true, imp_self, bne_eq_false_iff_eq, Nat.zero_add, Nat.le_refl, Int.toNat_natCast, Int.ofNat_lt, Int.natCast_nonneg, decide_eq_true_eq, decide_eq_false_iff_not, bne_iff_ne, ne_eq]; try dsimp only [Kd.T, Kds.T])) (hQ _ _ (FinRo.of (by cbv) (by cbv) ?_ ?_))
      · (simp only [sxs, sxb, and_self, and_true, true_and, implies_true, imp_self, bne_eq_false_iff_eq, Nat.zero_add, Nat.le_refl, Int.toNat_natCast, Int.ofNat_lt, Int.natCast_nonneg, decide_eq_true_eq, decide_eq_false_iff_not, bne_iff_ne, ne_eq, hw]; try dsimp only [Kd.T, Kds.T])
      try (simp only [sxs, sxb, and_self, and_true, true_and, implies_true, imp_self, bne_eq_false_iff_eq, Nat.zero_add, Nat.le_refl, Int.toNat_natCast, Int.ofNat_lt, Int.natCast_nonneg, decide_eq_true_eq, decide_eq_false_iff_not, bne_iff_ne, ne_eq, hw]; try dsimp only [Kd.T, Kds.T])
      simp only [getS, if_pos h, listOf]
      simp
    · refine AM.pin 17 1 rfl rfl ?_
      refine AM.run2 hG 100 (by cbv) ?_ ?_
      · (simp only [sxs, sxb, and_self, and_true, true_and, implies_true, imp_self, bne_eq_false_iff_eq, Nat.zero_add, Nat.le_refl, Int.toNat_natCast, Int.ofNat_lt, Int.natCast_nonneg, decide_eq_true_eq, decide_eq_false_iff_not, bne_iff_ne, ne_eq, hw]; try dsimp only [Kd.T, Kds.T])
        omega
      refine AM.ret2 hG (by cbv) (by (simp only [sxs, sxb, and_self, and_true, true_and, implies_true, imp_self, bne_eq_false_iff_eq, Nat.zero_add, Nat.le_refl, Int.toNat_natCast, Int.ofNat_lt, Int.natCast_nonneg, decide_eq_true_eq, decide_eq_false_iff_not, bne_iff_ne, ne_eq]; try dsimp only [Kd.T, Kds.T])) (hQ _ _ (FinRo.of (by cbv) (by cbv) ?_ ?_))
      · (simp only [sxs, sxb, and_self, and_true, true_and, implies_true, imp_self, bne_eq_false_iff_eq, Nat.zero_add, Nat.le_refl, Int.toNat_natCast, Int.ofNat_lt, Int.natCast_nonneg, decide_eq_true_eq, decide_eq_false_iff_not, bne_iff_ne, ne_eq, hw]; try dsimp only [Kd.T, Kds.T])
      try (simp only [sxs, sxb, and_self, and_true, true_and, implies_true, imp_self, bne_eq_false_iff_eq, Nat.zero_add, Nat.le_refl, Int.toNat_natCast, Int.ofNat_lt, Int.natCast_nonneg, decide_eq_true_eq, decide_eq_false_iff_not, bne_iff_ne, ne_eq, hw]; try dsimp only [Kd.T, Kds.T])
      simp only [getS, if_pos h, listOf]
      simp
    · refine AM.pin 17 2 rfl rfl ?_
      refine AM.run2 hG 100 (by cbv) ?_ ?_
      · (simp only [sxs, sxb, and_self, and_true, true_and, implies_true, imp_self, bne_eq_false_iff_eq, Nat.zero_add, Nat.le_refl, Int.toNat_natCast, Int.ofNat_lt, Int.natCast_nonneg, decide_eq_true_eq, decide_eq_false_iff_not, bne_iff_ne, ne_eq, hw]; try dsimp only [Kd.T, Kds.T])
        omega
      refine AM.ret2 hG (by cbv) (by (simp only [sxs, sxb, and_self, and_true, true_and, implies_true, imp_self, bne_eq_false_iff_eq, Nat.zero_add, Nat.le_refl, Int.toNat_natCast, Int.ofNat_lt, Int.natCast_nonneg, decide_eq_true_eq, decide_eq_false_iff_not, bne_iff_ne, ne_eq]; try dsimp only [Kd.T, Kds.T])) (hQ _ _ (FinRo.of (by cbv) (by cbv) ?_ ?_))
      · (simp only [sxs, sxb, and_self, and_true, true_and, implies_true, imp_self, bne_eq_false_iff_eq, Nat.zero_add, Nat.le_refl, Int.toNat_natCast, Int.ofNat_lt, Int.natCast_nonneg, decide_eq_true_eq, decide_eq_false_iff_not, bne_iff_ne, ne_eq, hw]; try dsimp only [Kd.T, Kds.T])
      try (simp only [sxs, sxb, and_self, and_true, true_and, implies_true, imp_self, bne_eq_false_iff_eq, Nat.zero_add, Nat.le_refl, Int.toNat_natCast, Int.ofNat_lt, Int.natCast_nonneg, decide_eq_true_eq, decide_eq_false_iff_not, bne_iff_ne, ne_eq, hw]; try dsimp only [Kd.T, Kds.T])
      simp only [getS, if_pos h, listOf]
      simp
end Go.Sx.Ytengkdmlnnehgaa
