/- The reference's numbers: times; Add, Sub, Mul. -/
import Derived.Test.YtpfdknpbiambnaaN1
namespace Go.Sx.Ytpfdknpbiambnaa
open Go Go.Sx Go.Proofs
set_option linter.unusedVariables false
set_option linter.unusedSimpArgs false
set_option maxRecDepth 100000

theorem dval_set : ∀ {l : List Int} {k : Nat} (d : Int), k < l.length → dval (l.set k d) = dval l + 65536 ^ k * (d - l.getD k 0)
  | [], k, d, h => by simp at h
  | e :: l, 0, d, h => by
    rw [List.set_cons_zero, dval, dval, List.getD_cons_zero, Int.pow_zero]
    omega
  | e :: l, k + 1, d, h => by
    have h1 := dval_set (l := l) (k := k) d (by simpa using h)
    rw [List.set_cons_succ, dval, dval, h1, List.getD_cons_succ, Int.pow_succ, Int.mul_comm (65536 ^ k) 65536, Int.mul_assoc]
    omega
theorem drng_set {l : List Int} {k : Nat} {d : Int} (h : drng l) (hd : 0 ≤ d ∧ d < 65536) : drng (l.set k d) := by
  intro x hx
  rcases List.mem_or_eq_of_mem_set hx with hx | rfl
  · exact h x hx
  · exact hd
theorem getD_set_ne {l : List Int} {k j : Nat} {d : Int} (h : j ≠ k) : (l.set k d).getD j 0 = l.getD j 0 := by
  rw [List.getD_eq_getElem?_getD, List.getD_eq_getElem?_getD, List.getElem?_set_ne (Ne.symm h)]
theorem times_step {P Q v w c xi yj d c' r V : Int} (h : v + P * Q * c = w + P * xi * V) (ht : d + 65536 * c' = r + xi * yj + c) : v + P * Q * (d - r) + P * (Q * 65536) * c' = w + P * xi * (V + Q * yj) := by
  have e1 : P * (Q * 65536) * c' = P * Q * (65536 * c') := by rw [← Int.mul_assoc, Int.mul_assoc (P * Q)]
  have e2 : P * xi * (V + Q * yj) = P * xi * V + P * Q * (xi * yj) := by
    rw [Int.mul_add]
    congr 1
    rw [Int.mul_assoc P xi, Int.mul_left_comm xi Q, ← Int.mul_assoc]
  have e3 : P * Q * (d - r) + P * Q * (65536 * c') = P * Q * (xi * yj) + P * Q * c := by
    rw [← Int.mul_add, ← Int.mul_add]
    congr 1
    omega
  rw [e1, e2]
  omega
def S43 : List AV → Option FOut := sigSpec [NumK, NumK] [NumK] (fun x : Num × Num × Unit => (canonN (valN x.1 * valN x.2.1), ())) (fun x : Num × Num × Unit => okN x.1 ∧ okN x.2.1 ∧ x.1.2.1.length ≤ 1000 ∧ x.2.1.2.1.length ≤ 1000)
set_option maxHeartbeats 8000000 in
theorem fn43 : FnOk Try.prog 43 S43 := by
  refine fn_ofB (rs := [.cell 4 53]) (env [(55, S55), (56, S56)] ⟨fn55, fn56, trivial⟩) Try.func43 (by kernel_rfl) rfl rfl Try.ntmps43 ?_
  rintro ⟨⟨(s : Int), (x : List Int), u⟩, ⟨(s2 : Int), (y : List Int), u2⟩, u3⟩ ⟨hx, hy, hxl, hyl⟩ G hG hB hQ
  have hB := GB.of hB
  simp only at hx hy hxl hyl
  obtain ⟨f1, f2, f3, f4⟩ := okN_facts hx
  obtain ⟨g1, g2, g3, g4⟩ := okN_facts hy
  simp only at f1 f3 f4 g1 g3 g4
  have hs1 : -1 ≤ s ∧ s ≤ 1 := by rw [f4]; unfold sgnI; split <;> (try split) <;> omega
  have hs2 : -1 ≤ s2 ∧ s2 ≤ 1 := by rw [g4]; unfold sgnI; split <;> (try split) <;> omega
  have hss : s * s2 = -1 ∨ s * s2 = 0 ∧ (s = 0 ∨ s2 = 0) ∨ s * s2 = 1 := by
    have a1 : s = -1 ∨ s = 0 ∨ s = 1 := by omega
    have a2 : s2 = -1 ∨ s2 = 0 ∨ s2 = 1 := by omega
    rcases a1 with rfl | rfl | rfl <;> rcases a2 with rfl | rfl | rfl <;> decide
  obtain ⟨L, hL⟩ : ∃ L : Nat, x.length + y.length + 1 = L := ⟨_, rfl⟩
  have eL : IntKind.i64.wrap (IntKind.i64.wrap ((x.length : Int) + y.length) + 1) = (L : Int) := by
    rw [w64 (n := (x.length : Int) + y.length) (by omega) (by omega), w64 (by omega) (by omega)]
    omega
  have ess : IntKind.i64.wrap (s * s2) = s * s2 := w64 (by omega) (by omega)
  refine AM.run2 hG 100 (by cbv) ?_ ?_
  · (simp only [sxs, sxb, and_self, and_true, true_and, implies_true, imp_self, bne_eq_false_iff_eq, Nat.zero_add, Nat.le_refl, Int.toNat_natCast, Int.ofNat_lt, Int.natCast_nonneg, decide_eq_true_eq, decide_eq_false_iff_not, bne_iff_ne, ne_eq]; try dsimp only [Kd.T, Kds.T, AK.T, AKs.T])
    rw [eL]
    omega
  refine AM.loopI (fun z : Nat × List Int => (frame 75 [(2, .ptr 0 0), (3, .ptr 1 0), (4, .ptr 2 0), (5, .ptr 4 0), (6, .int .i64 (.t fun _ => nI z.1))], [.box 53 [.int .i64 (.t fun _ => s), .ro U64 fun _ => x], .box 53 [.int .i64 (.t fun _ => s2), .ro U64 fun _ => y], .box 53 [.int .i64 (.l 0), .nils], .row 55 U64 (fun _ => z.2), .box 53 [.int .i64 (.t fun _ => s * s2), .sl 3 1 (.l 0) (.t fun _ => L)]]))
    (fun z => z.1 ≤ x.length ∧ z.2.length = L ∧ drng z.2 ∧ (∀ j, z.1 + y.length ≤ j → z.2.getD j 0 = 0) ∧ dval z.2 = dval (x.take z.1) * dval y) (fun z => x.length - z.1) (0, List.replicate L 0) ⟨by omega, by simp, ?_, ?_, ?_⟩ ?_ ?_ ?_
  · intro d hd
    rw [List.eq_of_mem_replicate hd]
    decide
  · intro j _
    simp only
    by_cases e : j < L
    · rw [List.getD_eq_getElem?_getD, List.getElem?_replicate, if_pos e]
      rfl
    · rw [List.getD_eq_getElem?_getD, List.getElem?_replicate, if_neg e]
      rfl
  · simp only [List.take_zero]
    rw [dval_zeros (List.replicate L 0) fun j => by
      rw [List.getD_eq_getElem?_getD, List.getElem?_replicate]
      split <;> rfl]
    simp [dval]
  · cbv; (simp only [sxs, sxb, and_self, and_true, true_and, implies_true, imp_self, bne_eq_false_iff_eq, Nat.zero_add, Nat.le_refl, Int.toNat_natCast, Int.ofNat_lt, Int.natCast_nonneg, decide_eq_true_eq, decide_eq_false_iff_not, bne_iff_ne, ne_eq]; try dsimp only [Kd.T, Kds.T, AK.T, AKs.T])
    first | rfl | trivial
  · cbv; (simp only [sxs, sxb, and_self, and_true, true_and, implies_true, imp_self, bne_eq_false_iff_eq, Nat.zero_add, Nat.le_refl, Int.toNat_natCast, Int.ofNat_lt, Int.natCast_nonneg, decide_eq_true_eq, decide_eq_false_iff_not, bne_iff_ne, ne_eq]; try dsimp only [Kd.T, Kds.T, AK.T, AKs.T])
    rw [eL, Int.toNat_natCast, ess]
    exact ⟨rfl, rfl, rfl⟩
  rintro ⟨i, R⟩ ⟨k1, k2, k3, k4, k5⟩ ih
  simp only at k1 k2 k3 k4 k5 ih
  refine AM.run2 hG 100 (by cbv) ?_ ?_
  · (simp only [sxs, sxb, and_self, and_true, true_and, implies_true, imp_self, bne_eq_false_iff_eq, Nat.zero_add, Nat.le_refl, Int.toNat_natCast, Int.ofNat_lt, Int.natCast_nonneg, decide_eq_true_eq, decide_eq_false_iff_not, bne_iff_ne, ne_eq]; try dsimp only [Kd.T, Kds.T, AK.T, AKs.T])
  refine AM.case 29 rfl (fun h => ?_) (fun h => ?_) <;> (simp only [sxs, sxb, and_self, and_true, true_and, implies_true, imp_self, bne_eq_false_iff_eq, Nat.zero_add, Nat.le_refl, Int.toNat_natCast, Int.ofNat_lt, Int.natCast_nonneg, decide_eq_true_eq, decide_eq_false_iff_not, bne_iff_ne, ne_eq] at h; try dsimp only [Kd.T, Kds.T, AK.T, AKs.T] at h)
  · have hX := drng_get f1 i
    refine AM.run2 hG 100 (by cbv) ?_ ?_
    · (simp only [sxs, sxb, and_self, and_true, true_and, implies_true, imp_self, bne_eq_false_iff_eq, Nat.zero_add, Nat.le_refl, Int.toNat_natCast, Int.ofNat_lt, Int.natCast_nonneg, decide_eq_true_eq, decide_eq_false_iff_not, bne_iff_ne, ne_eq]; try dsimp only [Kd.T, Kds.T, AK.T, AKs.T])
    refine AM.loopI (fun z : Nat × Int × List Int => (frame 75 [(2, .ptr 0 0), (3, .ptr 1 0), (4, .ptr 2 0), (5, .ptr 4 0), (6, .int .i64 (.t fun _ => nI i)), (7, .int .u64 (.t fun _ => z.2.1)), (8, .int .i64 (.t fun _ => nI z.1))], [.box 53 [.int .i64 (.t fun _ => s), .ro U64 fun _ => x], .box 53 [.int .i64 (.t fun _ => s2), .ro U64 fun _ => y], .box 53 [.int .i64 (.l 0), .nils], .row 55 U64 (fun _ => z.2.2), .box 53 [.int .i64 (.t fun _ => s * s2), .sl 3 1 (.l 0) (.t fun _ => L)]]))
      (fun z => z.1 ≤ y.length + 1 ∧ (z.1 = y.length + 1 → z.2.1 = 0) ∧ z.2.2.length = L ∧ drng z.2.2 ∧ (0 ≤ z.2.1 ∧ z.2.1 < 65536) ∧ (∀ j, i + y.length ≤ j → (i + z.1 ≤ j) → z.2.2.getD j 0 = 0) ∧ dval z.2.2 + 65536 ^ i * 65536 ^ z.1 * z.2.1 = dval R + 65536 ^ i * x.getD i 0 * dval (y.take z.1)) (fun z => y.length + 2 - z.1) (0, 0, R) ⟨by omega, by simp, k2, k3, ⟨by simp only; omega, by simp only; omega⟩, fun j h1 h2 => k4 j h1, by simp [dval]⟩ ?_ ?_ ?_
    · cbv; (simp only [sxs, sxb, and_self, and_true, true_and, implies_true, imp_self, bne_eq_false_iff_eq, Nat.zero_add, Nat.le_refl, Int.toNat_natCast, Int.ofNat_lt, Int.natCast_nonneg, decide_eq_true_eq, decide_eq_false_iff_not, bne_iff_ne, ne_eq]; try dsimp only [Kd.T, Kds.T, AK.T, AKs.T])
      try rfl
    · cbv; (simp only [sxs, sxb, and_self, and_true, true_and, implies_true, imp_self, bne_eq_false_iff_eq, Nat.zero_add, Nat.le_refl, Int.toNat_natCast, Int.ofNat_lt, Int.natCast_nonneg, decide_eq_true_eq, decide_eq_false_iff_not, bne_iff_ne, ne_eq]; try dsimp only [Kd.T, Kds.T, AK.T, AKs.T])
    rintro ⟨j, c, T⟩ ⟨m1, m2, m3, m4, m5, m6, m7⟩ ih2
    simp only at m1 m2 m3 m4 m5 m6 m7 ih2
    refine AM.run2 hG 100 (by cbv) ?_ ?_
    · (simp only [sxs, sxb, and_self, and_true, true_and, implies_true, imp_self, bne_eq_false_iff_eq, Nat.zero_add, Nat.le_refl, Int.toNat_natCast, Int.ofNat_lt, Int.natCast_nonneg, decide_eq_true_eq, decide_eq_false_iff_not, bne_iff_ne, ne_eq]; try dsimp only [Kd.T, Kds.T, AK.T, AKs.T])
    refine AM.case 40 rfl (fun e => ?_) (fun e => ?_) <;> (simp only [sxs, sxb, and_self, and_true, true_and, implies_true, imp_self, bne_eq_false_iff_eq, Nat.zero_add, Nat.le_refl, Int.toNat_natCast, Int.ofNat_lt, Int.natCast_nonneg, decide_eq_true_eq, decide_eq_false_iff_not, bne_iff_ne, ne_eq] at e; try dsimp only [Kd.T, Kds.T, AK.T, AKs.T] at e)
    · have hj : j ≤ y.length := by
        rcases e with e | e
        · omega
        · by_cases e5 : j = y.length + 1
          · have := m2 e5; omega
          · omega
      have hY := drng_get g1 j
      have hT := drng_get m4 (i + j)
      have hxy := Int.mul_nonneg hX.1 hY.1
      have hxy2 : x.getD i 0 * y.getD j 0 ≤ 4294836225 := by
        have := Int.mul_le_mul (show x.getD i 0 ≤ 65535 by omega) (show y.getD j 0 ≤ 65535 by omega) hY.1 (by decide)
        omega
      refine AM.run2 hG 100 (by cbv) ?_ ?_
      · (simp only [sxs, sxb, and_self, and_true, true_and, implies_true, imp_self, bne_eq_false_iff_eq, Nat.zero_add, Nat.le_refl, Int.toNat_natCast, Int.ofNat_lt, Int.natCast_nonneg, decide_eq_true_eq, decide_eq_false_iff_not, bne_iff_ne, ne_eq]; try dsimp only [Kd.T, Kds.T, AK.T, AKs.T])
        rw [w64 (by omega) (by omega)]
        refine ⟨by decide, by omega, ⟨by omega, by omega⟩, by decide, ⟨by omega, by omega⟩, by omega, by omega⟩
      obtain ⟨t, ht⟩ : ∃ t, T.getD (i + j) 0 + x.getD i 0 * y.getD j 0 + c = t := ⟨_, rfl⟩
      obtain ⟨T2, hT2⟩ : ∃ T2, T.set (i + j) (t % 65536) = T2 := ⟨_, rfl⟩
      have ew : IntKind.i64.wrap ((i : Int) + j) = ((i + j : Nat) : Int) := by rw [w64 (by omega) (by omega)]; rfl
      have et : IntKind.u64.wrap (IntKind.u64.wrap (T.getD (i + j) 0 + IntKind.u64.wrap (x.getD i 0 * y.getD j 0)) + c) = t := by
        rw [wz (z := x.getD i 0 * y.getD j 0) ⟨hxy, by omega⟩, wz (z := T.getD (i + j) 0 + x.getD i 0 * y.getD j 0) ⟨by omega, by omega⟩, wz ⟨by omega, by omega⟩, ht]
      have ht0 : 0 ≤ t := by omega
      have htm : t % 65536 + 65536 * (t / 65536) = T.getD (i + j) 0 + x.getD i 0 * y.getD j 0 + c := by omega
      refine AM.imp2 (by cbv) (by cbv) ?_ ?_ (ih2 (j + 1, t / 65536, T2) ⟨by simp only; omega, ?_, by simp only; rw [← hT2, List.length_set]; exact m3, by simp only; rw [← hT2]; exact drng_set m4 (by omega), by simp only; omega, ?_, ?_⟩ (by simp only; omega))
      · (simp only [sxs, sxb, and_self, and_true, true_and, implies_true, imp_self, bne_eq_false_iff_eq, Nat.zero_add, Nat.le_refl, Int.toNat_natCast, Int.ofNat_lt, Int.natCast_nonneg, decide_eq_true_eq, decide_eq_false_iff_not, bne_iff_ne, ne_eq]; try dsimp only [Kd.T, Kds.T, AK.T, AKs.T])
        rw [ew, Int.toNat_natCast, et, Int.tdiv_eq_ediv_of_nonneg ht0, wz ⟨by omega, by omega⟩, w64s (by omega)]
        exact ⟨rfl, rfl⟩
      · (simp only [sxs, sxb, and_self, and_true, true_and, implies_true, imp_self, bne_eq_false_iff_eq, Nat.zero_add, Nat.le_refl, Int.toNat_natCast, Int.ofNat_lt, Int.natCast_nonneg, decide_eq_true_eq, decide_eq_false_iff_not, bne_iff_ne, ne_eq]; try dsimp only [Kd.T, Kds.T, AK.T, AKs.T])
        rw [ew, Int.toNat_natCast, et, Int.tmod_eq_emod_of_nonneg ht0]
        exact hT2
      · intro e6
        simp only at e6 ⊢
        have e7 : j = y.length := by omega
        have hT0 : T.getD (i + j) 0 = 0 := m6 (i + j) (by omega) (Nat.le_refl _)
        have hY0 : y.getD j 0 = 0 := by rw [List.getD_eq_getElem?_getD, List.getElem?_eq_none (by omega)]; rfl
        rw [hT0, hY0, Int.mul_zero] at ht
        omega
      · intro q hq1 hq2
        simp only at hq2 ⊢
        rw [← hT2, getD_set_ne (by omega)]
        exact m6 q hq1 (by omega)
      · simp only
        rw [← hT2, dval_set _ (by omega), Int.pow_add, dval_take_succ, Int.pow_succ]
        exact times_step m7 htm
    · refine AM.run2 hG 100 (by cbv) ?_ ?_
      · (simp only [sxs, sxb, and_self, and_true, true_and, implies_true, imp_self, bne_eq_false_iff_eq, Nat.zero_add, Nat.le_refl, Int.toNat_natCast, Int.ofNat_lt, Int.natCast_nonneg, decide_eq_true_eq, decide_eq_false_iff_not, bne_iff_ne, ne_eq]; try dsimp only [Kd.T, Kds.T, AK.T, AKs.T])
      have ec : c = 0 := by omega
      have ej : y.length ≤ j := by omega
      rw [ec, Int.mul_zero, Int.add_zero, List.take_of_length_le ej] at m7
      refine AM.imp2 (by cbv) (by cbv) ?_ ?_ (ih (i + 1, T) ⟨by simp only; omega, m3, m4, ?_, ?_⟩ (by simp only; omega))
      · (simp only [sxs, sxb, and_self, and_true, true_and, implies_true, imp_self, bne_eq_false_iff_eq, Nat.zero_add, Nat.le_refl, Int.toNat_natCast, Int.ofNat_lt, Int.natCast_nonneg, decide_eq_true_eq, decide_eq_false_iff_not, bne_iff_ne, ne_eq]; try dsimp only [Kd.T, Kds.T, AK.T, AKs.T])
        exact w64s (by omega)
      · (simp only [sxs, sxb, and_self, and_true, true_and, implies_true, imp_self, bne_eq_false_iff_eq, Nat.zero_add, Nat.le_refl, Int.toNat_natCast, Int.ofNat_lt, Int.natCast_nonneg, decide_eq_true_eq, decide_eq_false_iff_not, bne_iff_ne, ne_eq]; try dsimp only [Kd.T, Kds.T, AK.T, AKs.T])
      · intro q hq
        simp only at hq ⊢
        exact m6 q (by omega) (by omega)
      · simp only
        rw [m7, k5, dval_take_succ, Int.add_mul]
  · obtain rfl : i = x.length := by omega
    clear ih
    rw [List.take_length] at k5
    have hRt : R.take L = R := List.take_of_length_le (by omega)
    refine AM.runTo2 hG 73 100 (by cbv) ?_ ?_
    · (simp only [sxs, sxb, and_self, and_true, true_and, implies_true, imp_self, bne_eq_false_iff_eq, Nat.zero_add, Nat.le_refl, Int.toNat_natCast, Int.ofNat_lt, Int.natCast_nonneg, decide_eq_true_eq, decide_eq_false_iff_not, bne_iff_ne, ne_eq]; try dsimp only [Kd.T, Kds.T, AK.T, AKs.T])
    refine AM.frz [3] (by cbv) ?_ ?_
    · (simp only [sxs, sxb, and_self, and_true, true_and, implies_true, imp_self, bne_eq_false_iff_eq, Nat.zero_add, Nat.le_refl, Int.toNat_natCast, Int.ofNat_lt, Int.natCast_nonneg, decide_eq_true_eq, decide_eq_false_iff_not, bne_iff_ne, ne_eq]; try dsimp only [Kd.T, Kds.T, AK.T, AKs.T])
      omega
    refine AM.run2 hG 100 (by cbv) ?_ ?_
    · (simp only [sxs, sxb, and_self, and_true, true_and, implies_true, imp_self, bne_eq_false_iff_eq, Nat.zero_add, Nat.le_refl, Int.toNat_natCast, Int.ofNat_lt, Int.natCast_nonneg, decide_eq_true_eq, decide_eq_false_iff_not, bne_iff_ne, ne_eq]; try dsimp only [Kd.T, Kds.T, AK.T, AKs.T])
      rw [hRt]
      refine ⟨?_, k3, by omega⟩
      rcases hss with e | ⟨e, e2⟩ | e
      · exact .inl e
      · refine .inr (.inl ⟨e, ?_⟩)
        rw [k5]
        rcases e2 with e2 | e2
        · have v0 : valN (s, x, u) = 0 := by unfold valN; simp only; rw [e2, Int.zero_mul]
          rw [v0] at f3
          rw [f3]; simp
        · have v0 : valN (s2, y, u2) = 0 := by unfold valN; simp only; rw [e2, Int.zero_mul]
          rw [v0] at g3
          rw [g3]; simp
      · exact .inr (.inr e)
    refine AM.ret2 hG (by cbv) (by (simp only [sxs, sxb, and_self, and_true, true_and, implies_true, imp_self, bne_eq_false_iff_eq, Nat.zero_add, Nat.le_refl, Int.toNat_natCast, Int.ofNat_lt, Int.natCast_nonneg, decide_eq_true_eq, decide_eq_false_iff_not, bne_iff_ne, ne_eq]; try dsimp only [Kd.T, Kds.T, AK.T, AKs.T])) (hQ _ _ (FinRo.of (by cbv) (by cbv) ?_ ?_))
    · (simp only [sxs, sxb, and_self, and_true, true_and, implies_true, imp_self, bne_eq_false_iff_eq, Nat.zero_add, Nat.le_refl, Int.toNat_natCast, Int.ofNat_lt, Int.natCast_nonneg, decide_eq_true_eq, decide_eq_false_iff_not, bne_iff_ne, ne_eq]; try dsimp only [Kd.T, Kds.T, AK.T, AKs.T])
    try (simp only [sxs, sxb, and_self, and_true, true_and, implies_true, imp_self, bne_eq_false_iff_eq, Nat.zero_add, Nat.le_refl, Int.toNat_natCast, Int.ofNat_lt, Int.natCast_nonneg, decide_eq_true_eq, decide_eq_false_iff_not, bne_iff_ne, ne_eq]; try dsimp only [Kd.T, Kds.T, AK.T, AKs.T])
    have ev : valN (s * s2, R, PUnit.unit) = valN (s, x, u) * valN (s2, y, u2) := by
      unfold valN
      simp only
      rw [k5, Int.mul_assoc, Int.mul_assoc, Int.mul_left_comm s2]
    rw [hRt, ev]
    exact ⟨rfl, rfl⟩
end Go.Sx.Ytpfdknpbiambnaa
