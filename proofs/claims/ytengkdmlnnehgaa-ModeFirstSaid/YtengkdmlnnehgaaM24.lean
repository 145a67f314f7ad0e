/- Modes: the law ModeFirst. -/
import Derived.Test.YtengkdmlnnehgaaM23
import Derived.Test.YtengkdmlnnehgaaSx27
namespace Go.Sx.Ytengkdmlnnehgaa
open Go Go.Sx Go.Proofs
set_option linter.unusedVariables false
set_option linter.unusedSimpArgs false
set_option maxRecDepth 100000

theorem allows_ok {n t : Int} (hn : 0 ≤ n ∧ n ≤ 3) (ht : 0 ≤ t ∧ t < 16) : (allowsS n t).2 = 0 := by
  unfold allowsS
  rw [if_neg (by rw [valid_of hn]; decide), if_neg (by omega)]
theorem allows_zero {t : Int} (ht : 0 ≤ t ∧ t < 16) : allowsS 0 t = (if t % 2 = 1 then [2, 1] else [1, 2], 0) := by
  unfold allowsS
  have hv : ¬ validS 0 = false := by decide
  rw [if_neg hv, if_neg (by omega), if_pos rfl, Int.tmod_eq_emod_of_nonneg ht.1]
theorem allows_swap {t : Int} (ht : 0 ≤ t ∧ t < 15) : (allowsS 0 t).1.length = 2 ∧ (allowsS 0 (t + 1)).1.length = 2 ∧ (allowsS 0 t).1.getD 0 0 = (allowsS 0 (t + 1)).1.getD 1 0 ∧ (allowsS 0 t).1.getD 1 0 = (allowsS 0 (t + 1)).1.getD 0 0 := by
  rw [allows_zero (by omega), allows_zero (by omega)]
  by_cases h : t % 2 = 1
  · rw [if_pos h, if_neg (by omega)]; decide
  · rw [if_neg h, if_pos (by omega)]; decide
theorem firstL_step {P l : List Int} {j : Nat} (h : j < l.length) : firstL P (l.drop j) = if l.getD j 0 ∈ P then l.getD j 0 else firstL P (l.drop (j + 1)) := by
  rw [dropD h 0]
  rfl

theorem firstL_mem (P : List Int) : ∀ l : List Int, firstL P l = 0 ∨ firstL P l ∈ l
  | [] => .inl rfl
  | x :: l => by
    unfold firstL
    split
    · exact .inr List.mem_cons_self
    · rcases firstL_mem P l with h | h
      · exact .inl h
      · exact .inr (List.mem_cons_of_mem _ h)
theorem allows_mem {n t x : Int} (h : x ∈ (allowsS n t).1) : x = 1 ∨ x = 2 ∨ x = 3 := by
  unfold allowsS at h
  repeat' split at h
  all_goals simp at h
  all_goals omega
theorem law9 : FnOk Try.prog 9 (sigSpec [I64, I64, I64] [.bool] (fun _ => (true, ())) (Kds.wf [I64, I64, I64])) := by
  refine fn_ofB (rs := [.tmp 6]) (env [(6, S6), (38, S38), (12, S12), (14, S14), (39, S39)] ⟨fn6, fn38, fn12, fn14, fn39, trivial⟩) Try.func9 (by kernel_rfl) rfl rfl Try.ntmps9 ?_
  rintro ⟨(n0 : Int), (t0 : Int), (w0 : Int), u⟩ hp G hG hB hQ
  clear hp
  have hB := GB.of hB
  obtain ⟨n, hn⟩ : ∃ n, modS n0 4 = n := ⟨_, rfl⟩
  obtain ⟨t, ht⟩ : ∃ t, modS t0 15 = t := ⟨_, rfl⟩
  obtain ⟨w, hw⟩ : ∃ w, modS w0 8 = w := ⟨_, rfl⟩
  have hnb : 0 ≤ n ∧ n ≤ 3 := by rw [← hn]; unfold modS; rw [if_neg (by omega)]; omega
  have htb : 0 ≤ t ∧ t < 15 := by rw [← ht]; unfold modS; rw [if_neg (by omega)]; omega
  have hwb : 0 ≤ w ∧ w < 8 := by rw [← hw]; unfold modS; rw [if_neg (by omega)]; omega
  refine AM.run2 hG 100 (by cbv) ?_ ?_
  · (simp only [sxs, sxb, and_self, and_true, true_and, implies_true, imp_self, bne_eq_false_iff_eq, Nat.zero_add, Nat.le_refl, Int.toNat_natCast, Int.ofNat_lt, Int.natCast_nonneg, decide_eq_true_eq, decide_eq_false_iff_not, bne_iff_ne, ne_eq]; try dsimp only [Kd.T, Kds.T])
    decide
  refine AM.sure 7 true rfl rfl ?_
  refine AM.emptySlot 8 3 I64 rfl ?_
  refine AM.loopI (fun i : Nat × List Int => (frame 131 [(0, .int .i64 (.t fun _ => n)), (1, .int .i64 (.t fun _ => t)), (2, .int .i64 (.t fun _ => w)), (6, .bool (.l false)), (7, .bool (.l true)), (8, .sl 0 1 (.l 0) (.t fun _ => i.2.length)), (9, .int .i64 (.t fun _ => nI i.1))], [.row 3 I64 fun _ => i.2]))
    (fun i => i.1 ≤ 3 ∧ i.2.length ≤ i.1) (fun i => 3 - i.1) (0, []) ⟨by simp, by simp⟩ ?_ ?_ ?_
  · cbv; (simp only [sxs, sxb, and_self, and_true, true_and, implies_true, imp_self, bne_eq_false_iff_eq, Nat.zero_add, Nat.le_refl, Int.toNat_natCast, Int.ofNat_lt, Int.natCast_nonneg, decide_eq_true_eq, decide_eq_false_iff_not, bne_iff_ne, ne_eq, hn, ht, hw]; try dsimp only [Kd.T, Kds.T]); first | rfl | exact ⟨rfl, rfl⟩ | trivial
  · cbv; (simp only [sxs, sxb, and_self, and_true, true_and, implies_true, imp_self, bne_eq_false_iff_eq, Nat.zero_add, Nat.le_refl, Int.toNat_natCast, Int.ofNat_lt, Int.natCast_nonneg, decide_eq_true_eq, decide_eq_false_iff_not, bne_iff_ne, ne_eq]; try dsimp only [Kd.T, Kds.T])
  rintro ⟨i, P⟩ ⟨hi, hP⟩ ih
  simp only at hi hP
  refine AM.run2 hG 100 (by cbv) (by (simp only [sxs, sxb, and_self, and_true, true_and, implies_true, imp_self, bne_eq_false_iff_eq, Nat.zero_add, Nat.le_refl, Int.toNat_natCast, Int.ofNat_lt, Int.natCast_nonneg, decide_eq_true_eq, decide_eq_false_iff_not, bne_iff_ne, ne_eq]; try dsimp only [Kd.T, Kds.T])) ?_
  refine AM.case 28 rfl (fun h => ?_) (fun h => ?_) <;> (simp only [sxs, sxb, and_self, and_true, true_and, implies_true, imp_self, bne_eq_false_iff_eq, Nat.zero_add, Nat.le_refl, Int.toNat_natCast, Int.ofNat_lt, Int.natCast_nonneg, decide_eq_true_eq, decide_eq_false_iff_not, bne_iff_ne, ne_eq] at h; try dsimp only [Kd.T, Kds.T] at h)
  · refine AM.run2 hG 100 (by cbv) ?_ ?_
    · (simp only [sxs, sxb, and_self, and_true, true_and, implies_true, imp_self, bne_eq_false_iff_eq, Nat.zero_add, Nat.le_refl, Int.toNat_natCast, Int.ofNat_lt, Int.natCast_nonneg, decide_eq_true_eq, decide_eq_false_iff_not, bne_iff_ne, ne_eq]; try dsimp only [Kd.T, Kds.T])
      exact ⟨by decide, by rw [IntKind.wrap_u64]; omega⟩
    refine AM.case 36 rfl (fun h2 => ?_) (fun h2 => ?_)
    · clear h2
      obtain ⟨P', hP'⟩ : ∃ P', P' = P ++ [(i : Int) + 1] := ⟨_, rfl⟩
      have hl' : P'.length = P.length + 1 := by rw [hP', List.length_append]; rfl
      have hw1 : IntKind.i64.wrap ((i : Int) + 1) = (i : Int) + 1 := w64 (by omega) (by omega)
      refine AM.run2 hG 100 (by cbv) ?_ ?_
      · (simp only [sxs, sxb, and_self, and_true, true_and, implies_true, imp_self, bne_eq_false_iff_eq, Nat.zero_add, Nat.le_refl, Int.toNat_natCast, Int.ofNat_lt, Int.natCast_nonneg, decide_eq_true_eq, decide_eq_false_iff_not, bne_iff_ne, ne_eq, maxLen, List.take_succ_cons, List.take_zero]; try dsimp only [Kd.T, Kds.T])
        omega
      refine AM.ren hB [2] (by cbv) (by cbv) (by cbv) ?_ ?_ (ih (i + 1, P') ⟨by simp only; omega, by simp only; omega⟩ (by simp only; omega))
      · (simp only [sxs, sxb, and_self, and_true, true_and, implies_true, imp_self, bne_eq_false_iff_eq, Nat.zero_add, Nat.le_refl, Int.toNat_natCast, Int.ofNat_lt, Int.natCast_nonneg, decide_eq_true_eq, decide_eq_false_iff_not, bne_iff_ne, ne_eq, List.take_succ_cons, List.take_zero]; try dsimp only [Kd.T, Kds.T])
        rw [hl', w64s (by omega)]
        first | exact ⟨rfl, rfl⟩ | trivial
      · (simp only [sxs, sxb, and_self, and_true, true_and, implies_true, imp_self, bne_eq_false_iff_eq, Nat.zero_add, Nat.le_refl, Int.toNat_natCast, Int.ofNat_lt, Int.natCast_nonneg, decide_eq_true_eq, decide_eq_false_iff_not, bne_iff_ne, ne_eq, List.take_succ_cons, List.take_zero, hw1]; try dsimp only [Kd.T, Kds.T])
        rw [hP']
    · clear h2
      refine AM.run2 hG 100 (by cbv) (by (simp only [sxs, sxb, and_self, and_true, true_and, implies_true, imp_self, bne_eq_false_iff_eq, Nat.zero_add, Nat.le_refl, Int.toNat_natCast, Int.ofNat_lt, Int.natCast_nonneg, decide_eq_true_eq, decide_eq_false_iff_not, bne_iff_ne, ne_eq]; try dsimp only [Kd.T, Kds.T])) ?_
      refine AM.ren hB [0] (by cbv) (by cbv) (by cbv) ?_ ?_ (ih (i + 1, P) ⟨by simp only; omega, by simp only; omega⟩ (by simp only; omega))
      · (simp only [sxs, sxb, and_self, and_true, true_and, implies_true, imp_self, bne_eq_false_iff_eq, Nat.zero_add, Nat.le_refl, Int.toNat_natCast, Int.ofNat_lt, Int.natCast_nonneg, decide_eq_true_eq, decide_eq_false_iff_not, bne_iff_ne, ne_eq]; try dsimp only [Kd.T, Kds.T])
        rw [w64s (by omega)]
      · (simp only [sxs, sxb, and_self, and_true, true_and, implies_true, imp_self, bne_eq_false_iff_eq, Nat.zero_add, Nat.le_refl, Int.toNat_natCast, Int.ofNat_lt, Int.natCast_nonneg, decide_eq_true_eq, decide_eq_false_iff_not, bne_iff_ne, ne_eq]; try dsimp only [Kd.T, Kds.T])
  clear ih
  refine AM.frz [0] (by cbv) (by (simp only [sxs, sxb, and_self, and_true, true_and, implies_true, imp_self, bne_eq_false_iff_eq, Nat.zero_add, Nat.le_refl, Int.toNat_natCast, Int.ofNat_lt, Int.natCast_nonneg, decide_eq_true_eq, decide_eq_false_iff_not, bne_iff_ne, ne_eq]; try dsimp only [Kd.T, Kds.T])) ?_
  refine AM.imp2 (fr' := frame 131 [(0, .int .i64 (.t fun _ => n)), (1, .int .i64 (.t fun _ => t)), (6, .bool (.l false)), (7, .bool (.l true)), (8, .ro I64 fun _ => P), (28, .bool (.l false))]) (h' := [.dead]) (by cbv) (by cbv) ?_ ?_ ?_
  · (simp only [sxs, sxb, and_self, and_true, true_and, implies_true, imp_self, bne_eq_false_iff_eq, Nat.zero_add, Nat.le_refl, Int.toNat_natCast, Int.ofNat_lt, Int.natCast_nonneg, decide_eq_true_eq, decide_eq_false_iff_not, bne_iff_ne, ne_eq, List.take_length]; try dsimp only [Kd.T, Kds.T])
  · (simp only [sxs, sxb, and_self, and_true, true_and, implies_true, imp_self, bne_eq_false_iff_eq, Nat.zero_add, Nat.le_refl, Int.toNat_natCast, Int.ofNat_lt, Int.natCast_nonneg, decide_eq_true_eq, decide_eq_false_iff_not, bne_iff_ne, ne_eq]; try dsimp only [Kd.T, Kds.T])
  have hl := allows_len n t
  have ha := allows_ok hnb (show 0 ≤ t ∧ t < 16 by omega)
  obtain ⟨l, hll⟩ : ∃ l, allowsS n t = l := ⟨_, rfl⟩
  have hf : firstS n t P = (firstL P l.1, 0) := by unfold firstS; rw [if_pos ha, hll]
  rw [hll] at hl ha
  refine AM.run2 hG 100 (by cbv) ?_ ?_
  · (simp only [sxs, sxb, and_self, and_true, true_and, implies_true, imp_self, bne_eq_false_iff_eq, Nat.zero_add, Nat.le_refl, Int.toNat_natCast, Int.ofNat_lt, Int.natCast_nonneg, decide_eq_true_eq, decide_eq_false_iff_not, bne_iff_ne, ne_eq]; try dsimp only [Kd.T, Kds.T])
    omega
  refine AM.sure 60 false rfl (by (simp only [sxs, sxb, and_self, and_true, true_and, implies_true, imp_self, bne_eq_false_iff_eq, Nat.zero_add, Nat.le_refl, Int.toNat_natCast, Int.ofNat_lt, Int.natCast_nonneg, decide_eq_true_eq, decide_eq_false_iff_not, bne_iff_ne, ne_eq, hll, ha, hf]; try dsimp only [Kd.T, Kds.T]); try decide) ?_
  refine AM.run2 hG 100 (by cbv) (by (simp only [sxs, sxb, and_self, and_true, true_and, implies_true, imp_self, bne_eq_false_iff_eq, Nat.zero_add, Nat.le_refl, Int.toNat_natCast, Int.ofNat_lt, Int.natCast_nonneg, decide_eq_true_eq, decide_eq_false_iff_not, bne_iff_ne, ne_eq]; try dsimp only [Kd.T, Kds.T])) ?_
  refine AM.loopI (fun j : Nat => (frame 131 [(1, .int .i64 (.t fun _ => t)), (6, .bool (.l false)), (7, .bool (.l true)), (8, .ro I64 fun _ => P), (10, .ro I64 fun _ => l.1), (12, .int .i64 (.t fun _ => firstL P l.1)), (14, .int .i64 (.t fun _ => firstL P (l.1.drop j))), (15, .int .i64 (.t fun _ => (j : Int) - 1))], [.dead]))
    (fun j => j ≤ l.1.length) (fun j => j) l.1.length (Nat.le_refl _) ?_ ?_ ?_
  · cbv; (simp only [sxs, sxb, and_self, and_true, true_and, implies_true, imp_self, bne_eq_false_iff_eq, Nat.zero_add, Nat.le_refl, Int.toNat_natCast, Int.ofNat_lt, Int.natCast_nonneg, decide_eq_true_eq, decide_eq_false_iff_not, bne_iff_ne, ne_eq]; try dsimp only [Kd.T, Kds.T])
    rw [hll, hf, List.drop_length, w64 (n := (l.1.length : Int) - 1) (by omega) (by omega)]
    try exact ⟨rfl, rfl, rfl, rfl⟩
  · cbv
  rintro j hj ih
  refine AM.run2 hG 100 (by cbv) (by (simp only [sxs, sxb, and_self, and_true, true_and, implies_true, imp_self, bne_eq_false_iff_eq, Nat.zero_add, Nat.le_refl, Int.toNat_natCast, Int.ofNat_lt, Int.natCast_nonneg, decide_eq_true_eq, decide_eq_false_iff_not, bne_iff_ne, ne_eq]; try dsimp only [Kd.T, Kds.T])) ?_
  refine AM.case 65 rfl (fun h => ?_) (fun h => ?_) <;> (simp only [sxs, sxb, and_self, and_true, true_and, implies_true, imp_self, bne_eq_false_iff_eq, Nat.zero_add, Nat.le_refl, Int.toNat_natCast, Int.ofNat_lt, Int.natCast_nonneg, decide_eq_true_eq, decide_eq_false_iff_not, bne_iff_ne, ne_eq] at h; try dsimp only [Kd.T, Kds.T] at h)
  · obtain ⟨i, rfl⟩ : ∃ i, j = i + 1 := ⟨j - 1, by omega⟩
    have hst := firstL_step (P := P) (l := l.1) (j := i) (by omega)
    have ej : ((i + 1 : Nat) : Int) - 1 = i := by omega
    have ew : IntKind.i64.wrap ((i : Int) - 1) = (i : Int) - 1 := w64 (by omega) (by omega)
    refine AM.run2 hG 100 (by cbv) ?_ ?_
    · (simp only [sxs, sxb, and_self, and_true, true_and, implies_true, imp_self, bne_eq_false_iff_eq, Nat.zero_add, Nat.le_refl, Int.toNat_natCast, Int.ofNat_lt, Int.natCast_nonneg, decide_eq_true_eq, decide_eq_false_iff_not, bne_iff_ne, ne_eq, ej]; try dsimp only [Kd.T, Kds.T])
      omega
    refine AM.case 73 rfl (fun h2 => ?_) (fun h2 => ?_) <;> (simp only [sxs, sxb, and_self, and_true, true_and, implies_true, imp_self, bne_eq_false_iff_eq, Nat.zero_add, Nat.le_refl, Int.toNat_natCast, Int.ofNat_lt, Int.natCast_nonneg, decide_eq_true_eq, decide_eq_false_iff_not, bne_iff_ne, ne_eq, ej] at h2; try dsimp only [Kd.T, Kds.T] at h2)
    · rw [if_pos (by simpa using h2)] at hst
      refine AM.run2 hG 100 (by cbv) ?_ ?_
      · (simp only [sxs, sxb, and_self, and_true, true_and, implies_true, imp_self, bne_eq_false_iff_eq, Nat.zero_add, Nat.le_refl, Int.toNat_natCast, Int.ofNat_lt, Int.natCast_nonneg, decide_eq_true_eq, decide_eq_false_iff_not, bne_iff_ne, ne_eq, ej]; try dsimp only [Kd.T, Kds.T])
        omega
      refine AM.imp2 (by cbv) (by cbv) ?_ (by (simp only [sxs, sxb, and_self, and_true, true_and, implies_true, imp_self, bne_eq_false_iff_eq, Nat.zero_add, Nat.le_refl, Int.toNat_natCast, Int.ofNat_lt, Int.natCast_nonneg, decide_eq_true_eq, decide_eq_false_iff_not, bne_iff_ne, ne_eq]; try dsimp only [Kd.T, Kds.T])) (ih i (by omega) (by omega))
      (simp only [sxs, sxb, and_self, and_true, true_and, implies_true, imp_self, bne_eq_false_iff_eq, Nat.zero_add, Nat.le_refl, Int.toNat_natCast, Int.ofNat_lt, Int.natCast_nonneg, decide_eq_true_eq, decide_eq_false_iff_not, bne_iff_ne, ne_eq, ej]; try dsimp only [Kd.T, Kds.T])
      rw [ew, hst]
      try exact ⟨rfl, rfl⟩
    · rw [if_neg (by simpa using h2)] at hst
      refine AM.run2 hG 100 (by cbv) ?_ ?_
      · (simp only [sxs, sxb, and_self, and_true, true_and, implies_true, imp_self, bne_eq_false_iff_eq, Nat.zero_add, Nat.le_refl, Int.toNat_natCast, Int.ofNat_lt, Int.natCast_nonneg, decide_eq_true_eq, decide_eq_false_iff_not, bne_iff_ne, ne_eq, ej]; try dsimp only [Kd.T, Kds.T])
      refine AM.imp2 (by cbv) (by cbv) ?_ (by (simp only [sxs, sxb, and_self, and_true, true_and, implies_true, imp_self, bne_eq_false_iff_eq, Nat.zero_add, Nat.le_refl, Int.toNat_natCast, Int.ofNat_lt, Int.natCast_nonneg, decide_eq_true_eq, decide_eq_false_iff_not, bne_iff_ne, ne_eq]; try dsimp only [Kd.T, Kds.T])) (ih i (by omega) (by omega))
      (simp only [sxs, sxb, and_self, and_true, true_and, implies_true, imp_self, bne_eq_false_iff_eq, Nat.zero_add, Nat.le_refl, Int.toNat_natCast, Int.ofNat_lt, Int.natCast_nonneg, decide_eq_true_eq, decide_eq_false_iff_not, bne_iff_ne, ne_eq, ej]; try dsimp only [Kd.T, Kds.T])
      rw [ew, hst]
      try exact ⟨rfl, rfl⟩
  clear ih
  obtain rfl : j = 0 := by omega
  rw [List.drop_zero]
  have z0 := allows_zero (t := t) (by omega)
  have z1 := allows_zero (t := t + 1) (by omega)
  have sw : IntKind.i64.wrap (t + 1) = t + 1 := w64 (by omega) (by omega)
  obtain ⟨l0, hl0⟩ : ∃ l0, allowsS 0 t = (l0, 0) := ⟨_, z0⟩
  obtain ⟨l1, hl1⟩ : ∃ l1, allowsS 0 (t + 1) = (l1, 0) := ⟨_, z1⟩
  have hs : (l0 = [2, 1] ∧ l1 = [1, 2]) ∨ (l0 = [1, 2] ∧ l1 = [2, 1]) := by
    rw [hl0] at z0
    rw [hl1] at z1
    have z0 := congrArg (·.1) z0
    have z1 := congrArg (·.1) z1
    simp only at z0 z1
    rw [z0, z1]
    by_cases h : t % 2 = 1
    · rw [if_pos h, if_neg (by omega)]; exact .inl ⟨rfl, rfl⟩
    · rw [if_neg h, if_pos (by omega)]; exact .inr ⟨rfl, rfl⟩
  refine AM.runTo2 hG 19 300 (by cbv) ?_ ?_
  · (simp only [sxs, sxb, and_self, and_true, true_and, implies_true, imp_self, bne_eq_false_iff_eq, Nat.zero_add, Nat.le_refl, Int.toNat_natCast, Int.ofNat_lt, Int.natCast_nonneg, decide_eq_true_eq, decide_eq_false_iff_not, bne_iff_ne, ne_eq]; try dsimp only [Kd.T, Kds.T])
  refine AM.pin 17 0 rfl (by (simp only [sxs, sxb, and_self, and_true, true_and, implies_true, imp_self, bne_eq_false_iff_eq, Nat.zero_add, Nat.le_refl, Int.toNat_natCast, Int.ofNat_lt, Int.natCast_nonneg, decide_eq_true_eq, decide_eq_false_iff_not, bne_iff_ne, ne_eq, hl0]; try dsimp only [Kd.T, Kds.T])) ?_
  refine AM.pin 88 0 rfl (by (simp only [sxs, sxb, and_self, and_true, true_and, implies_true, imp_self, bne_eq_false_iff_eq, Nat.zero_add, Nat.le_refl, Int.toNat_natCast, Int.ofNat_lt, Int.natCast_nonneg, decide_eq_true_eq, decide_eq_false_iff_not, bne_iff_ne, ne_eq, sw, hl1]; try dsimp only [Kd.T, Kds.T])) ?_
  obtain ⟨z, hz⟩ : ∃ z, firstL P l.1 = z := ⟨_, rfl⟩
  refine AM.imp2 (fr' := frame 131 [(6, .bool (.l false)), (7, .bool (.l true)), (12, .int .i64 (.t fun _ => z)), (14, .int .i64 (.t fun _ => z)), (16, .ro I64 fun _ => l0), (17, .int .i64 (.l 0)), (18, .ro I64 fun _ => l1), (88, .int .i64 (.l 0))]) (h' := [.dead]) (by cbv) (by cbv) ?_ ?_ ?_
  · (simp only [sxs, sxb, and_self, and_true, true_and, implies_true, imp_self, bne_eq_false_iff_eq, Nat.zero_add, Nat.le_refl, Int.toNat_natCast, Int.ofNat_lt, Int.natCast_nonneg, decide_eq_true_eq, decide_eq_false_iff_not, bne_iff_ne, ne_eq, sw, hl0, hl1, hz]; try dsimp only [Kd.T, Kds.T])
  · (simp only [sxs, sxb, and_self, and_true, true_and, implies_true, imp_self, bne_eq_false_iff_eq, Nat.zero_add, Nat.le_refl, Int.toNat_natCast, Int.ofNat_lt, Int.natCast_nonneg, decide_eq_true_eq, decide_eq_false_iff_not, bne_iff_ne, ne_eq]; try dsimp only [Kd.T, Kds.T])
  rcases hs with ⟨rfl, rfl⟩ | ⟨rfl, rfl⟩
  · refine AM.run2 hG 3 (by cbv) (by (simp only [sxs, sxb, and_self, and_true, true_and, implies_true, imp_self, bne_eq_false_iff_eq, Nat.zero_add, Nat.le_refl, Int.toNat_natCast, Int.ofNat_lt, Int.natCast_nonneg, decide_eq_true_eq, decide_eq_false_iff_not, bne_iff_ne, ne_eq]; try dsimp only [Kd.T, Kds.T])) ?_
    refine AM.draw hG (by cbv) (by cbv) (by cbv) ?_ ?_
    · (simp only [sxs, sxb, and_self, and_true, true_and, implies_true, imp_self, bne_eq_false_iff_eq, Nat.zero_add, Nat.le_refl, Int.toNat_natCast, Int.ofNat_lt, Int.natCast_nonneg, decide_eq_true_eq, decide_eq_false_iff_not, bne_iff_ne, ne_eq]; try dsimp only [Kd.T, Kds.T])
      try simp
    refine AM.ret2 hG (by cbv) (by (simp only [sxs, sxb, and_self, and_true, true_and, implies_true, imp_self, bne_eq_false_iff_eq, Nat.zero_add, Nat.le_refl, Int.toNat_natCast, Int.ofNat_lt, Int.natCast_nonneg, decide_eq_true_eq, decide_eq_false_iff_not, bne_iff_ne, ne_eq]; try dsimp only [Kd.T, Kds.T])) (hQ _ _ (FinRo.of (by cbv) (by cbv) ?_ ?_))
    · (simp only [sxs, sxb, and_self, and_true, true_and, implies_true, imp_self, bne_eq_false_iff_eq, Nat.zero_add, Nat.le_refl, Int.toNat_natCast, Int.ofNat_lt, Int.natCast_nonneg, decide_eq_true_eq, decide_eq_false_iff_not, bne_iff_ne, ne_eq]; try dsimp only [Kd.T, Kds.T])
    try (simp only [sxs, sxb, and_self, and_true, true_and, implies_true, imp_self, bne_eq_false_iff_eq, Nat.zero_add, Nat.le_refl, Int.toNat_natCast, Int.ofNat_lt, Int.natCast_nonneg, decide_eq_true_eq, decide_eq_false_iff_not, bne_iff_ne, ne_eq]; try dsimp only [Kd.T, Kds.T])
    try simp [eqI]
  · refine AM.run2 hG 3 (by cbv) (by (simp only [sxs, sxb, and_self, and_true, true_and, implies_true, imp_self, bne_eq_false_iff_eq, Nat.zero_add, Nat.le_refl, Int.toNat_natCast, Int.ofNat_lt, Int.natCast_nonneg, decide_eq_true_eq, decide_eq_false_iff_not, bne_iff_ne, ne_eq]; try dsimp only [Kd.T, Kds.T])) ?_
    refine AM.draw hG (by cbv) (by cbv) (by cbv) ?_ ?_
    · (simp only [sxs, sxb, and_self, and_true, true_and, implies_true, imp_self, bne_eq_false_iff_eq, Nat.zero_add, Nat.le_refl, Int.toNat_natCast, Int.ofNat_lt, Int.natCast_nonneg, decide_eq_true_eq, decide_eq_false_iff_not, bne_iff_ne, ne_eq]; try dsimp only [Kd.T, Kds.T])
      try simp
    refine AM.ret2 hG (by cbv) (by (simp only [sxs, sxb, and_self, and_true, true_and, implies_true, imp_self, bne_eq_false_iff_eq, Nat.zero_add, Nat.le_refl, Int.toNat_natCast, Int.ofNat_lt, Int.natCast_nonneg, decide_eq_true_eq, decide_eq_false_iff_not, bne_iff_ne, ne_eq]; try dsimp only [Kd.T, Kds.T])) (hQ _ _ (FinRo.of (by cbv) (by cbv) ?_ ?_))
    · (simp only [sxs, sxb, and_self, and_true, true_and, implies_true, imp_self, bne_eq_false_iff_eq, Nat.zero_add, Nat.le_refl, Int.toNat_natCast, Int.ofNat_lt, Int.natCast_nonneg, decide_eq_true_eq, decide_eq_false_iff_not, bne_iff_ne, ne_eq]; try dsimp only [Kd.T, Kds.T])
    try (simp only [sxs, sxb, and_self, and_true, true_and, implies_true, imp_self, bne_eq_false_iff_eq, Nat.zero_add, Nat.le_refl, Int.toNat_natCast, Int.ofNat_lt, Int.natCast_nonneg, decide_eq_true_eq, decide_eq_false_iff_not, bne_iff_ne, ne_eq]; try dsimp only [Kd.T, Kds.T])
    try simp [eqI]
end Go.Sx.Ytengkdmlnnehgaa
