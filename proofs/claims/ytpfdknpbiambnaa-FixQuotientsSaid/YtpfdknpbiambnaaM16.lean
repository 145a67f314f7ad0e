/- The law FixList. -/
import Derived.Test.YtpfdknpbiambnaaM15
namespace Go.Sx.Ytpfdknpbiambnaa
open Go Go.Sx Go.Proofs
set_option linter.unusedVariables false
set_option linter.unusedSimpArgs false
set_option maxRecDepth 100000

set_option maxHeartbeats 8000000 in
theorem law9 : FnOk Try.prog 9 (sigSpec [IntsK, WithinK, I64, I64] [.bool] (fun _ => (true, ())) (Kds.wf [IntsK, WithinK, I64, I64])) := by
  refine fn_ofB (rs := [.tmp 8]) (env [(6, sigSpec [] [.bool] (fun _ => (true, ())) (Kds.wf [])), (31, S31), (26, S26), (38, S38), (28, S28), (33, S33), (23, S23)]
    ⟨law6, fn31, fn26, fn38, fn28, fn33, fn23, trivial⟩) Try.func9 (by kernel_rfl) rfl rfl Try.ntmps9 ?_
  rintro ⟨(l0 : List Int), ⟨(lo : Int), (hi : Int), u1⟩, (n : Int), (parts : Int), u⟩ ⟨hl0, _, hn, hp, _⟩ G hG hB hQ
  have hB := GB.of hB
  replace hn : inI n := wfI hn
  replace hl0 : ∀ x ∈ l0, inI x := fun x hx => wfI (hl0 x hx)
  refine AM.run2 hG 100 (by cbv) ?_ ?_
  · (simp only [sxs, sxb, and_self, and_true, true_and, implies_true, imp_self, bne_eq_false_iff_eq, Nat.zero_add, Nat.le_refl, Int.toNat_natCast, Int.ofNat_lt, Int.natCast_nonneg, decide_eq_true_eq, decide_eq_false_iff_not, bne_iff_ne, ne_eq]; try dsimp only [Kd.T, Kds.T, AK.T, AKs.T])
    simp only [Bool.false_eq_true, if_false]
    refine ⟨⟨by decide, ?_, ?_⟩, trivial⟩ <;> split <;> omega
  obtain ⟨l, hl⟩ : ∃ l : List Int, l0.take (if 50 < (l0.length : Int) then 50 else (l0.length : Int)).toNat = l := ⟨_, rfl⟩
  have hlen : l.length ≤ 50 := by
    rw [← hl, List.length_take]
    split <;> omega
  have hlin : ∀ x ∈ l, inI x := fun x hx => hl0 x (by rw [← hl] at hx; exact List.mem_of_mem_take hx)
  refine AM.emptySlot 10 3 I64 rfl ?_
  refine AM.loopI (fun k : Nat × List Int => (frame 187 [(0, .ro I64 fun _ => l), (2, .int .i64 (.t fun _ => n)), (3, .int .i64 (.t fun _ => parts)), (5, .ptr 0 0), (9, .bool (.t fun _ => true)), (10, .sl 1 1 (.l 0) (.t fun _ => k.2.length)), (11, .int .i64 (.t fun _ => (l.length : Int) - 1 - k.1))], [.box 23 [.int .i64 (.t fun _ => lo), .int .i64 (.t fun _ => hi)], .row 3 I64 (fun _ => k.2)]))
    (fun k => k.1 ≤ l.length ∧ k.2 = l.reverse.take k.1) (fun k => l.length - k.1) (0, []) ⟨by simp, by simp⟩ ?_ ?_ ?_
  · cbv; (simp only [sxs, sxb, and_self, and_true, true_and, implies_true, imp_self, bne_eq_false_iff_eq, Nat.zero_add, Nat.le_refl, Int.toNat_natCast, Int.ofNat_lt, Int.natCast_nonneg, decide_eq_true_eq, decide_eq_false_iff_not, bne_iff_ne, ne_eq]; try dsimp only [Kd.T, Kds.T, AK.T, AKs.T])
    simp only [Bool.false_eq_true, if_false, Int.toNat_zero, List.drop_zero, hl]
    rw [w64 (by omega) (by omega)]
    exact ⟨by trivial, by simp⟩
  · cbv; (simp only [sxs, sxb, and_self, and_true, true_and, implies_true, imp_self, bne_eq_false_iff_eq, Nat.zero_add, Nat.le_refl, Int.toNat_natCast, Int.ofNat_lt, Int.natCast_nonneg, decide_eq_true_eq, decide_eq_false_iff_not, bne_iff_ne, ne_eq]; try dsimp only [Kd.T, Kds.T, AK.T, AKs.T])
  rintro ⟨k, rv⟩ ⟨hk, hrv⟩ ih
  simp only at hk hrv ih
  have hrl : rv.length = k := by rw [hrv, List.length_take, List.length_reverse]; omega
  refine AM.run2 hG 100 (by cbv) ?_ ?_
  · (simp only [sxs, sxb, and_self, and_true, true_and, implies_true, imp_self, bne_eq_false_iff_eq, Nat.zero_add, Nat.le_refl, Int.toNat_natCast, Int.ofNat_lt, Int.natCast_nonneg, decide_eq_true_eq, decide_eq_false_iff_not, bne_iff_ne, ne_eq]; try dsimp only [Kd.T, Kds.T, AK.T, AKs.T])
  refine AM.case 36 rfl (fun h => ?_) (fun h => ?_) <;> (simp only [sxs, sxb, and_self, and_true, true_and, implies_true, imp_self, bne_eq_false_iff_eq, Nat.zero_add, Nat.le_refl, Int.toNat_natCast, Int.ofNat_lt, Int.natCast_nonneg, decide_eq_true_eq, decide_eq_false_iff_not, bne_iff_ne, ne_eq] at h; try dsimp only [Kd.T, Kds.T, AK.T, AKs.T] at h)
  · refine AM.run2 hG 100 (by cbv) ?_ ?_
    · (simp only [sxs, sxb, and_self, and_true, true_and, implies_true, imp_self, bne_eq_false_iff_eq, Nat.zero_add, Nat.le_refl, Int.toNat_natCast, Int.ofNat_lt, Int.natCast_nonneg, decide_eq_true_eq, decide_eq_false_iff_not, bne_iff_ne, ne_eq]; try dsimp only [Kd.T, Kds.T, AK.T, AKs.T])
      simp only [maxLen, List.length_take, List.length_cons, List.length_nil]
      omega
    obtain ⟨r2, hr2⟩ : ∃ r2, rv ++ [l.getD (l.length - 1 - k) 0] = r2 := ⟨_, rfl⟩
    refine AM.ren hB [0, 3] (by cbv) (by cbv) (by cbv) ?_ ?_ (ih (k + 1, r2) ⟨by simp only; omega, by simp only; rw [← hr2, hrv, rev_step (by omega)]⟩ (by simp only; omega))
    · (simp only [sxs, sxb, and_self, and_true, true_and, implies_true, imp_self, bne_eq_false_iff_eq, Nat.zero_add, Nat.le_refl, Int.toNat_natCast, Int.ofNat_lt, Int.natCast_nonneg, decide_eq_true_eq, decide_eq_false_iff_not, bne_iff_ne, ne_eq]; try dsimp only [Kd.T, Kds.T, AK.T, AKs.T])
      rw [← hr2, List.length_append, w64 (by omega) (by omega)]
      exact ⟨by simp, by omega⟩
    · (simp only [sxs, sxb, and_self, and_true, true_and, implies_true, imp_self, bne_eq_false_iff_eq, Nat.zero_add, Nat.le_refl, Int.toNat_natCast, Int.ofNat_lt, Int.natCast_nonneg, decide_eq_true_eq, decide_eq_false_iff_not, bne_iff_ne, ne_eq]; try dsimp only [Kd.T, Kds.T, AK.T, AKs.T])
      rw [← hr2, show ((l.length : Int) - 1 - k).toNat = l.length - 1 - k by omega]
      rfl
  obtain rfl : k = l.length := by omega
  obtain rfl : rv = l.reverse := by rw [hrv, List.take_of_length_le (by simp)]
  clear ih
  refine AM.run2 hG 100 (by cbv) ?_ ?_
  · (simp only [sxs, sxb, and_self, and_true, true_and, implies_true, imp_self, bne_eq_false_iff_eq, Nat.zero_add, Nat.le_refl, Int.toNat_natCast, Int.ofNat_lt, Int.natCast_nonneg, decide_eq_true_eq, decide_eq_false_iff_not, bne_iff_ne, ne_eq]; try dsimp only [Kd.T, Kds.T, AK.T, AKs.T])
    exact ⟨fun x hx => hlin x (by simpa using List.mem_of_mem_take hx), hlin⟩
  refine AM.case 65 rfl (fun h => ?_) (fun h => ?_) <;> (simp only [sxs, sxb, and_self, and_true, true_and, implies_true, imp_self, bne_eq_false_iff_eq, Nat.zero_add, Nat.le_refl, Int.toNat_natCast, Int.ofNat_lt, Int.natCast_nonneg, decide_eq_true_eq, decide_eq_false_iff_not, bne_iff_ne, ne_eq] at h; try dsimp only [Kd.T, Kds.T, AK.T, AKs.T] at h)
  · exfalso
    rw [show l.reverse.take l.reverse.length = l.reverse from List.take_of_length_le (Nat.le_refl _), sumListR_rev] at h
    simp at h
  obtain ⟨p, hp⟩ : ∃ p, 1 + modS parts 50 = p := ⟨_, rfl⟩
  obtain ⟨n0, hn0⟩ : ∃ n0 : Int, max 0 n = n0 := ⟨_, rfl⟩
  have hmod := modS_50 parts
  have hn' := hn
  unfold inI at hn'
  have hN1 : (if 0 < n then n else 0) = n0 := by rw [← hn0]; split <;> omega
  have hP : IntKind.i64.wrap (1 + modS parts 50) = p := by rw [w64 (by omega) (by omega), hp]
  obtain ⟨g1, g2, g3, g4, g5, g6⟩ := split_facts (n := n0) (p := p) (by omega) (by unfold inI; omega) (by omega)
  have hsum : sumListR (-9223372036854775808) 9223372036854775807 (splitL n0 p p.toNat) = (n0, 0) := by
    rw [sumListR, if_neg (by decide), if_neg (by rw [splitL_len]; omega), g2, outS, if_neg (by omega)]
  refine AM.run2 hG 400 (by cbv) ?_ ?_
  · (simp only [sxs, sxb, and_self, and_true, true_and, implies_true, imp_self, bne_eq_false_iff_eq, Nat.zero_add, Nat.le_refl, Int.toNat_natCast, Int.ofNat_lt, Int.natCast_nonneg, decide_eq_true_eq, decide_eq_false_iff_not, bne_iff_ne, ne_eq]; try dsimp only [Kd.T, Kds.T, AK.T, AKs.T])
    simp only [if_true, hN1, hP, g1]
    exact ⟨g3, by unfold inI; omega, by decide⟩
  refine AM.case 97 rfl (fun h => ?_) (fun h => ?_) <;> (simp only [sxs, sxb, and_self, and_true, true_and, implies_true, imp_self, bne_eq_false_iff_eq, Nat.zero_add, Nat.le_refl, Int.toNat_natCast, Int.ofNat_lt, Int.natCast_nonneg, decide_eq_true_eq, decide_eq_false_iff_not, bne_iff_ne, ne_eq] at h; try dsimp only [Kd.T, Kds.T, AK.T, AKs.T] at h)
  · exfalso
    simp only [if_true, hN1, hP, g1] at h
    rw [hsum, splitL_len] at h
    simp only [not_true_eq_false, false_or, or_false, forall_const] at h
    omega
  clear h
  refine AM.run2 hG 100 (by cbv) ?_ ?_
  · (simp only [sxs, sxb, and_self, and_true, true_and, implies_true, imp_self, bne_eq_false_iff_eq, Nat.zero_add, Nat.le_refl, Int.toNat_natCast, Int.ofNat_lt, Int.natCast_nonneg, decide_eq_true_eq, decide_eq_false_iff_not, bne_iff_ne, ne_eq]; try dsimp only [Kd.T, Kds.T, AK.T, AKs.T])
  obtain ⟨m, hm⟩ : ∃ m : Nat, p.toNat = m := ⟨_, rfl⟩
  rw [hm] at g1 g2 g3 g6 hsum
  obtain ⟨sl, hsl⟩ : ∃ sl, splitL n0 p m = sl := ⟨_, rfl⟩
  have hsll : sl.length = m := by rw [← hsl, splitL_len]
  have hget : ∀ i : Nat, i < m → sl.getD i 0 = partS n0 p i := fun i hi => by rw [← hsl, splitL_get n0 p hi]
  refine AM.loopI (fun i : Nat => (frame 187 [(2, .int .i64 (.t fun _ => n)), (5, .ptr 0 0), (9, .bool (.t fun _ => true)), (17, .ro I64 fun _ => sl), (21, .int .i64 (.t fun _ => nI i))], [.box 23 [.int .i64 (.t fun _ => lo), .int .i64 (.t fun _ => hi)], .dead]))
    (fun i => 1 ≤ i ∧ i ≤ m) (fun i => m - i) 1 ⟨by omega, by omega⟩ ?_ ?_ ?_
  · cbv; (simp only [sxs, sxb, and_self, and_true, true_and, implies_true, imp_self, bne_eq_false_iff_eq, Nat.zero_add, Nat.le_refl, Int.toNat_natCast, Int.ofNat_lt, Int.natCast_nonneg, decide_eq_true_eq, decide_eq_false_iff_not, bne_iff_ne, ne_eq]; try dsimp only [Kd.T, Kds.T, AK.T, AKs.T])
    simp only [if_true, hN1, hP]
    rw [g1]
    exact ⟨hsl, rfl⟩
  · cbv; (simp only [sxs, sxb, and_self, and_true, true_and, implies_true, imp_self, bne_eq_false_iff_eq, Nat.zero_add, Nat.le_refl, Int.toNat_natCast, Int.ofNat_lt, Int.natCast_nonneg, decide_eq_true_eq, decide_eq_false_iff_not, bne_iff_ne, ne_eq]; try dsimp only [Kd.T, Kds.T, AK.T, AKs.T])
  rintro i ⟨hi1, hi2⟩ ih
  refine AM.run2 hG 100 (by cbv) ?_ ?_
  · (simp only [sxs, sxb, and_self, and_true, true_and, implies_true, imp_self, bne_eq_false_iff_eq, Nat.zero_add, Nat.le_refl, Int.toNat_natCast, Int.ofNat_lt, Int.natCast_nonneg, decide_eq_true_eq, decide_eq_false_iff_not, bne_iff_ne, ne_eq]; try dsimp only [Kd.T, Kds.T, AK.T, AKs.T])
  refine AM.case 101 rfl (fun h => ?_) (fun h => ?_) <;> (simp only [sxs, sxb, and_self, and_true, true_and, implies_true, imp_self, bne_eq_false_iff_eq, Nat.zero_add, Nat.le_refl, Int.toNat_natCast, Int.ofNat_lt, Int.natCast_nonneg, decide_eq_true_eq, decide_eq_false_iff_not, bne_iff_ne, ne_eq] at h; try dsimp only [Kd.T, Kds.T, AK.T, AKs.T] at h)
  · refine AM.run2 hG 100 (by cbv) ?_ ?_
    · (simp only [sxs, sxb, and_self, and_true, true_and, implies_true, imp_self, bne_eq_false_iff_eq, Nat.zero_add, Nat.le_refl, Int.toNat_natCast, Int.ofNat_lt, Int.natCast_nonneg, decide_eq_true_eq, decide_eq_false_iff_not, bne_iff_ne, ne_eq]; try dsimp only [Kd.T, Kds.T, AK.T, AKs.T])
      rw [w64 (by omega) (by omega), show ((i : Int) - 1).toNat = i - 1 by omega]
      refine ⟨h, h, ⟨by omega, by omega⟩, by omega, fun _ => ⟨by omega, by omega⟩, fun _ => by omega, fun _ => h⟩
    refine AM.case 124 rfl (fun h2 => ?_) (fun h2 => ?_) <;> (simp only [sxs, sxb, and_self, and_true, true_and, implies_true, imp_self, bne_eq_false_iff_eq, Nat.zero_add, Nat.le_refl, Int.toNat_natCast, Int.ofNat_lt, Int.natCast_nonneg, decide_eq_true_eq, decide_eq_false_iff_not, bne_iff_ne, ne_eq] at h2; try dsimp only [Kd.T, Kds.T, AK.T, AKs.T] at h2)
    · exfalso
      have q1 := g6 0 (by omega)
      have q2 := g6 i (by omega)
      have q3 := g4 (i - 1) i (by omega)
      have q4 := g5 0 i
      rw [w64 (n := (i : Int) - 1) (by omega) (by omega), show ((i : Int) - 1).toNat = i - 1 by omega, hget i (by omega), hget 0 (by omega), hget (i - 1) (by omega)] at h2
      rw [w64 (by omega) (by omega)] at h2
      omega
    refine AM.run2 hG 100 (by cbv) ?_ ?_
    · (simp only [sxs, sxb, and_self, and_true, true_and, implies_true, imp_self, bne_eq_false_iff_eq, Nat.zero_add, Nat.le_refl, Int.toNat_natCast, Int.ofNat_lt, Int.natCast_nonneg, decide_eq_true_eq, decide_eq_false_iff_not, bne_iff_ne, ne_eq]; try dsimp only [Kd.T, Kds.T, AK.T, AKs.T])
    refine AM.imp2 (by cbv) (by cbv) ?_ ?_ (ih (i + 1) ⟨by omega, by omega⟩ (by omega))
    · (simp only [sxs, sxb, and_self, and_true, true_and, implies_true, imp_self, bne_eq_false_iff_eq, Nat.zero_add, Nat.le_refl, Int.toNat_natCast, Int.ofNat_lt, Int.natCast_nonneg, decide_eq_true_eq, decide_eq_false_iff_not, bne_iff_ne, ne_eq]; try dsimp only [Kd.T, Kds.T, AK.T, AKs.T])
      exact w64s (by omega)
    · (simp only [sxs, sxb, and_self, and_true, true_and, implies_true, imp_self, bne_eq_false_iff_eq, Nat.zero_add, Nat.le_refl, Int.toNat_natCast, Int.ofNat_lt, Int.natCast_nonneg, decide_eq_true_eq, decide_eq_false_iff_not, bne_iff_ne, ne_eq]; try dsimp only [Kd.T, Kds.T, AK.T, AKs.T])
  clear ih
  refine AM.run2 hG 100 (by cbv) ?_ ?_
  · (simp only [sxs, sxb, and_self, and_true, true_and, implies_true, imp_self, bne_eq_false_iff_eq, Nat.zero_add, Nat.le_refl, Int.toNat_natCast, Int.ofNat_lt, Int.natCast_nonneg, decide_eq_true_eq, decide_eq_false_iff_not, bne_iff_ne, ne_eq]; try dsimp only [Kd.T, Kds.T, AK.T, AKs.T])
  refine AM.case 135 rfl (fun h2 => ?_) (fun h2 => ?_) <;> (simp only [sxs, sxb, and_self, and_true, true_and, implies_true, imp_self, bne_eq_false_iff_eq, Nat.zero_add, Nat.le_refl, Int.toNat_natCast, Int.ofNat_lt, Int.natCast_nonneg, decide_eq_true_eq, decide_eq_false_iff_not, bne_iff_ne, ne_eq] at h2; try dsimp only [Kd.T, Kds.T, AK.T, AKs.T] at h2)
  · refine AM.run2 hG 100 (by cbv) ?_ ?_
    · (simp only [sxs, sxb, and_self, and_true, true_and, implies_true, imp_self, bne_eq_false_iff_eq, Nat.zero_add, Nat.le_refl, Int.toNat_natCast, Int.ofNat_lt, Int.natCast_nonneg, decide_eq_true_eq, decide_eq_false_iff_not, bne_iff_ne, ne_eq]; try dsimp only [Kd.T, Kds.T, AK.T, AKs.T])
    refine AM.ret2 hG (by cbv) (by (simp only [sxs, sxb, and_self, and_true, true_and, implies_true, imp_self, bne_eq_false_iff_eq, Nat.zero_add, Nat.le_refl, Int.toNat_natCast, Int.ofNat_lt, Int.natCast_nonneg, decide_eq_true_eq, decide_eq_false_iff_not, bne_iff_ne, ne_eq]; try dsimp only [Kd.T, Kds.T, AK.T, AKs.T])) (hQ _ _ (FinRo.of (by cbv) (by cbv) ?_ ?_))
    · (simp only [sxs, sxb, and_self, and_true, true_and, implies_true, imp_self, bne_eq_false_iff_eq, Nat.zero_add, Nat.le_refl, Int.toNat_natCast, Int.ofNat_lt, Int.natCast_nonneg, decide_eq_true_eq, decide_eq_false_iff_not, bne_iff_ne, ne_eq]; try dsimp only [Kd.T, Kds.T, AK.T, AKs.T])
    try (simp only [sxs, sxb, and_self, and_true, true_and, implies_true, imp_self, bne_eq_false_iff_eq, Nat.zero_add, Nat.le_refl, Int.toNat_natCast, Int.ofNat_lt, Int.natCast_nonneg, decide_eq_true_eq, decide_eq_false_iff_not, bne_iff_ne, ne_eq]; try dsimp only [Kd.T, Kds.T, AK.T, AKs.T])
    rw [clampS, if_pos h2]
  · refine AM.run2 hG 100 (by cbv) ?_ ?_
    · (simp only [sxs, sxb, and_self, and_true, true_and, implies_true, imp_self, bne_eq_false_iff_eq, Nat.zero_add, Nat.le_refl, Int.toNat_natCast, Int.ofNat_lt, Int.natCast_nonneg, decide_eq_true_eq, decide_eq_false_iff_not, bne_iff_ne, ne_eq]; try dsimp only [Kd.T, Kds.T, AK.T, AKs.T])
      exact ⟨fun a b => ⟨a, b⟩, fun a b => ⟨a, b⟩⟩
    refine AM.ret2 hG (by cbv) (by (simp only [sxs, sxb, and_self, and_true, true_and, implies_true, imp_self, bne_eq_false_iff_eq, Nat.zero_add, Nat.le_refl, Int.toNat_natCast, Int.ofNat_lt, Int.natCast_nonneg, decide_eq_true_eq, decide_eq_false_iff_not, bne_iff_ne, ne_eq]; try dsimp only [Kd.T, Kds.T, AK.T, AKs.T])) (hQ _ _ (FinRo.of (by cbv) (by cbv) ?_ ?_))
    · (simp only [sxs, sxb, and_self, and_true, true_and, implies_true, imp_self, bne_eq_false_iff_eq, Nat.zero_add, Nat.le_refl, Int.toNat_natCast, Int.ofNat_lt, Int.natCast_nonneg, decide_eq_true_eq, decide_eq_false_iff_not, bne_iff_ne, ne_eq]; try dsimp only [Kd.T, Kds.T, AK.T, AKs.T])
    try (simp only [sxs, sxb, and_self, and_true, true_and, implies_true, imp_self, bne_eq_false_iff_eq, Nat.zero_add, Nat.le_refl, Int.toNat_natCast, Int.ofNat_lt, Int.natCast_nonneg, decide_eq_true_eq, decide_eq_false_iff_not, bne_iff_ne, ne_eq]; try dsimp only [Kd.T, Kds.T, AK.T, AKs.T])
    obtain ⟨t1, t2⟩ := clampS_twice (n := n) h2
    rw [t1, t2]
    refine ⟨⟨⟨⟨rfl, ?_⟩, ?_⟩, rfl, rfl⟩, ?_⟩ <;> simp only <;> omega
end Go.Sx.Ytpfdknpbiambnaa
