/- Mod, SameInts, Split. -/
import Derived.Test.YtpfdknpbiambnaaM1
namespace Go.Sx.Ytpfdknpbiambnaa
open Go Go.Sx Go.Proofs
set_option linter.unusedVariables false
set_option linter.unusedSimpArgs false
set_option maxRecDepth 100000

abbrev IntsK : Kd := .slice I64
def partS (n p : Int) (i : Nat) : Int := n.tdiv p + (if (i : Int) < n.tmod p then 1 else 0)
def splitL (n p : Int) (m : Nat) : List Int := (List.range m).map (partS n p)
def splitS (n p : Int) : List Int × Int := if n < 0 ∨ p < 1 ∨ 1000 < p then ([], 2) else (splitL n p p.toNat, 0)
theorem getD_mid {l r : List Int} {i : Nat} {x d : Int} (h : l.length = i) : (l ++ x :: r).getD i d = x := by
  subst h
  simp
theorem set_mid {l r : List Int} {i : Nat} {x y : Int} (h : l.length = i) : (l ++ x :: r).set i y = l ++ y :: r := by
  subst h
  simp
def S28 : List AV → Option FOut := sigSpec [I64, I64] [IntsK, I64] (fun x : Int × Int × Unit => let r := splitS x.1 x.2.1; (r.1, r.2, ())) (fun x : Int × Int × Unit => inI x.1)
theorem fn28 : FnOk Try.prog 28 S28 := by
  refine fn_of (rs := [.tmp 4, .tmp 5]) (env [] trivial) Try.func28 (by kernel_rfl) rfl rfl Try.ntmps28 ?_
  rintro ⟨(n : Int), (p : Int), u⟩ (hn : inI n) G hG hQ
  refine AM.run2 hG 100 (by cbv) ?_ ?_
  · (simp only [sxs, sxb, and_self, and_true, true_and, implies_true, imp_self, bne_eq_false_iff_eq, Nat.zero_add, Nat.le_refl, Int.toNat_natCast, Int.ofNat_lt, Int.natCast_nonneg, decide_eq_true_eq, decide_eq_false_iff_not, bne_iff_ne, ne_eq]; try dsimp only [Kd.T, Kds.T, AK.T, AKs.T])
  refine AM.case 17 rfl (fun h => ?_) (fun h => ?_) <;> (simp only [sxs, sxb, and_self, and_true, true_and, implies_true, imp_self, bne_eq_false_iff_eq, Nat.zero_add, Nat.le_refl, Int.toNat_natCast, Int.ofNat_lt, Int.natCast_nonneg, decide_eq_true_eq, decide_eq_false_iff_not, bne_iff_ne, ne_eq] at h; try dsimp only [Kd.T, Kds.T, AK.T, AKs.T] at h)
  · refine AM.run2 hG 100 (by cbv) ?_ ?_
    · (simp only [sxs, sxb, and_self, and_true, true_and, implies_true, imp_self, bne_eq_false_iff_eq, Nat.zero_add, Nat.le_refl, Int.toNat_natCast, Int.ofNat_lt, Int.natCast_nonneg, decide_eq_true_eq, decide_eq_false_iff_not, bne_iff_ne, ne_eq]; try dsimp only [Kd.T, Kds.T, AK.T, AKs.T])
    refine AM.ret2 hG (by cbv) (by (simp only [sxs, sxb, and_self, and_true, true_and, implies_true, imp_self, bne_eq_false_iff_eq, Nat.zero_add, Nat.le_refl, Int.toNat_natCast, Int.ofNat_lt, Int.natCast_nonneg, decide_eq_true_eq, decide_eq_false_iff_not, bne_iff_ne, ne_eq]; try dsimp only [Kd.T, Kds.T, AK.T, AKs.T])) (hQ _ _ (FinRo.of (by cbv) (by cbv) ?_ ?_))
    · (simp only [sxs, sxb, and_self, and_true, true_and, implies_true, imp_self, bne_eq_false_iff_eq, Nat.zero_add, Nat.le_refl, Int.toNat_natCast, Int.ofNat_lt, Int.natCast_nonneg, decide_eq_true_eq, decide_eq_false_iff_not, bne_iff_ne, ne_eq]; try dsimp only [Kd.T, Kds.T, AK.T, AKs.T])
    try (simp only [sxs, sxb, and_self, and_true, true_and, implies_true, imp_self, bne_eq_false_iff_eq, Nat.zero_add, Nat.le_refl, Int.toNat_natCast, Int.ofNat_lt, Int.natCast_nonneg, decide_eq_true_eq, decide_eq_false_iff_not, bne_iff_ne, ne_eq]; try dsimp only [Kd.T, Kds.T, AK.T, AKs.T])
    simp only [splitS]
    rw [if_pos (by omega)]
    exact ⟨rfl, rfl⟩
  have h0 : 0 ≤ n ∧ 1 ≤ p ∧ p ≤ 1000 := by omega
  refine AM.run2 hG 100 (by cbv) ?_ ?_
  · (simp only [sxs, sxb, and_self, and_true, true_and, implies_true, imp_self, bne_eq_false_iff_eq, Nat.zero_add, Nat.le_refl, Int.toNat_natCast, Int.ofNat_lt, Int.natCast_nonneg, decide_eq_true_eq, decide_eq_false_iff_not, bne_iff_ne, ne_eq]; try dsimp only [Kd.T, Kds.T, AK.T, AKs.T])
    omega
  obtain ⟨m, hm⟩ : ∃ m : Nat, p.toNat = m := ⟨_, rfl⟩
  have hpm : p = m := by omega
  have hq : n.tdiv p + 1 ≤ 9223372036854775807 ∨ n.tmod p = 0 := by
    rw [Int.tdiv_eq_ediv_of_nonneg h0.1, Int.tmod_eq_emod_of_nonneg h0.1]
    simp only [inI] at hn
    rcases (show p = 1 ∨ 2 ≤ p by omega) with e | e
    · right; rw [e]; exact Int.emod_one n
    · left
      have h1 := Int.mul_ediv_add_emod n p
      have h2 := Int.emod_nonneg n (show p ≠ 0 by omega)
      have h3 : 0 ≤ n / p := Int.ediv_nonneg h0.1 (by omega)
      have h4 : 2 * (n / p) ≤ p * (n / p) := Int.mul_le_mul_of_nonneg_right e h3
      omega
  have hq0 : 0 ≤ n.tdiv p ∧ n.tdiv p ≤ 9223372036854775807 := by
    rw [Int.tdiv_eq_ediv_of_nonneg h0.1]
    simp only [inI] at hn
    have h3 : 0 ≤ n / p := Int.ediv_nonneg h0.1 (by omega)
    have h1 := Int.ediv_le_self p h0.1
    omega
  refine AM.loopI (fun i : Nat × List Int => (frame 44 [(0, .int .i64 (.t fun _ => n)), (1, .int .i64 (.t fun _ => p)), (4, .nils), (5, .int .i64 (.l 0)), (6, .sl 0 1 (.l 0) (.t fun _ => p.toNat)), (21, .int .i64 (.t fun _ => nI p.toNat)), (22, .int .i64 (.t fun _ => nI i.1))], [.row 3 I64 fun _ => i.2]))
    (fun i => i.1 ≤ m ∧ i.2 = splitL n p i.1 ++ List.replicate (m - i.1) 0) (fun i => m - i.1) (0, List.replicate m 0) ⟨by simp, by simp [splitL]⟩ ?_ ?_ ?_
  · cbv; (simp only [sxs, sxb, and_self, and_true, true_and, implies_true, imp_self, bne_eq_false_iff_eq, Nat.zero_add, Nat.le_refl, Int.toNat_natCast, Int.ofNat_lt, Int.natCast_nonneg, decide_eq_true_eq, decide_eq_false_iff_not, bne_iff_ne, ne_eq]; try dsimp only [Kd.T, Kds.T, AK.T, AKs.T]); try first | rfl | exact ⟨rfl, rfl⟩
  · cbv; (simp only [sxs, sxb, and_self, and_true, true_and, implies_true, imp_self, bne_eq_false_iff_eq, Nat.zero_add, Nat.le_refl, Int.toNat_natCast, Int.ofNat_lt, Int.natCast_nonneg, decide_eq_true_eq, decide_eq_false_iff_not, bne_iff_ne, ne_eq, hm]; try dsimp only [Kd.T, Kds.T, AK.T, AKs.T]); try first | rfl | exact ⟨rfl, rfl⟩
  rintro ⟨i, l⟩ ⟨hi, hl⟩ ih
  simp only at hi hl
  have hll : l.length = m := by rw [hl]; simp [splitL]; omega
  refine AM.run2 hG 100 (by cbv) ?_ ?_
  · (simp only [sxs, sxb, and_self, and_true, true_and, implies_true, imp_self, bne_eq_false_iff_eq, Nat.zero_add, Nat.le_refl, Int.toNat_natCast, Int.ofNat_lt, Int.natCast_nonneg, decide_eq_true_eq, decide_eq_false_iff_not, bne_iff_ne, ne_eq]; try dsimp only [Kd.T, Kds.T, AK.T, AKs.T])
  refine AM.case 23 rfl (fun g => ?_) (fun g => ?_) <;> (simp only [sxs, sxb, and_self, and_true, true_and, implies_true, imp_self, bne_eq_false_iff_eq, Nat.zero_add, Nat.le_refl, Int.toNat_natCast, Int.ofNat_lt, Int.natCast_nonneg, decide_eq_true_eq, decide_eq_false_iff_not, bne_iff_ne, ne_eq] at g; try dsimp only [Kd.T, Kds.T, AK.T, AKs.T] at g)
  · have hgm : i < m := by omega
    have hsp : splitL n p (i + 1) = splitL n p i ++ [partS n p i] := by
      simp only [splitL, List.range_succ, List.map_append, List.map_cons, List.map_nil]
    have hrep : List.replicate (m - i) (0 : Int) = 0 :: List.replicate (m - (i + 1)) 0 := by
      rw [show m - i = (m - (i + 1)) + 1 by omega, List.replicate_succ]
    have hlen : (splitL n p i).length = i := by simp [splitL]
    have hset : ∀ x : Int, l.set i x = splitL n p i ++ x :: List.replicate (m - (i + 1)) 0 := by
      intro x
      rw [hl, hrep, List.set_append_right _ _ (by omega), hlen, Nat.sub_self, List.set_cons_zero]
    refine AM.run2 hG 100 (by cbv) ?_ ?_
    · (simp only [sxs, sxb, and_self, and_true, true_and, implies_true, imp_self, bne_eq_false_iff_eq, Nat.zero_add, Nat.le_refl, Int.toNat_natCast, Int.ofNat_lt, Int.natCast_nonneg, decide_eq_true_eq, decide_eq_false_iff_not, bne_iff_ne, ne_eq]; try dsimp only [Kd.T, Kds.T, AK.T, AKs.T])
      refine ⟨?_, ?_, ?_, ?_⟩ <;> omega
    have hwq : IntKind.i64.wrap (n.tdiv p) = n.tdiv p := w64 (by omega) (by omega)
    refine AM.case 35 rfl (fun e => ?_) (fun e => ?_) <;> (simp only [sxs, sxb, and_self, and_true, true_and, implies_true, imp_self, bne_eq_false_iff_eq, Nat.zero_add, Nat.le_refl, Int.toNat_natCast, Int.ofNat_lt, Int.natCast_nonneg, decide_eq_true_eq, decide_eq_false_iff_not, bne_iff_ne, ne_eq] at e; try dsimp only [Kd.T, Kds.T, AK.T, AKs.T] at e)
    · refine AM.run2 hG 100 (by cbv) ?_ ?_
      · (simp only [sxs, sxb, and_self, and_true, true_and, implies_true, imp_self, bne_eq_false_iff_eq, Nat.zero_add, Nat.le_refl, Int.toNat_natCast, Int.ofNat_lt, Int.natCast_nonneg, decide_eq_true_eq, decide_eq_false_iff_not, bne_iff_ne, ne_eq, List.length_set]; try dsimp only [Kd.T, Kds.T, AK.T, AKs.T])
        try (refine ⟨?_, ?_, ?_, ?_⟩ <;> omega)
      refine AM.imp2 (by cbv) (by cbv) ?_ ?_ (ih (i + 1, splitL n p (i + 1) ++ List.replicate (m - (i + 1)) 0) ⟨by simp only; omega, rfl⟩ (by simp only; omega))
      · (simp only [sxs, sxb, and_self, and_true, true_and, implies_true, imp_self, bne_eq_false_iff_eq, Nat.zero_add, Nat.le_refl, Int.toNat_natCast, Int.ofNat_lt, Int.natCast_nonneg, decide_eq_true_eq, decide_eq_false_iff_not, bne_iff_ne, ne_eq, hm]; try dsimp only [Kd.T, Kds.T, AK.T, AKs.T])
        rw [w64s (by omega)]
        try rfl
      · (simp only [sxs, sxb, and_self, and_true, true_and, implies_true, imp_self, bne_eq_false_iff_eq, Nat.zero_add, Nat.le_refl, Int.toNat_natCast, Int.ofNat_lt, Int.natCast_nonneg, decide_eq_true_eq, decide_eq_false_iff_not, bne_iff_ne, ne_eq]; try dsimp only [Kd.T, Kds.T, AK.T, AKs.T])
        first | (rw [hwq, hset, getD_mid hlen, set_mid hlen, hsp, List.append_assoc, List.singleton_append, partS, if_pos e, w64 (by omega) (by omega)]) | (rw [hwq, hset, hsp, List.append_assoc, List.singleton_append, partS, if_neg e, Int.add_zero])
    · refine AM.run2 hG 100 (by cbv) ?_ ?_
      · (simp only [sxs, sxb, and_self, and_true, true_and, implies_true, imp_self, bne_eq_false_iff_eq, Nat.zero_add, Nat.le_refl, Int.toNat_natCast, Int.ofNat_lt, Int.natCast_nonneg, decide_eq_true_eq, decide_eq_false_iff_not, bne_iff_ne, ne_eq, List.length_set]; try dsimp only [Kd.T, Kds.T, AK.T, AKs.T])
        try (refine ⟨?_, ?_, ?_, ?_⟩ <;> omega)
      refine AM.imp2 (by cbv) (by cbv) ?_ ?_ (ih (i + 1, splitL n p (i + 1) ++ List.replicate (m - (i + 1)) 0) ⟨by simp only; omega, rfl⟩ (by simp only; omega))
      · (simp only [sxs, sxb, and_self, and_true, true_and, implies_true, imp_self, bne_eq_false_iff_eq, Nat.zero_add, Nat.le_refl, Int.toNat_natCast, Int.ofNat_lt, Int.natCast_nonneg, decide_eq_true_eq, decide_eq_false_iff_not, bne_iff_ne, ne_eq, hm]; try dsimp only [Kd.T, Kds.T, AK.T, AKs.T])
        rw [w64s (by omega)]
        try rfl
      · (simp only [sxs, sxb, and_self, and_true, true_and, implies_true, imp_self, bne_eq_false_iff_eq, Nat.zero_add, Nat.le_refl, Int.toNat_natCast, Int.ofNat_lt, Int.natCast_nonneg, decide_eq_true_eq, decide_eq_false_iff_not, bne_iff_ne, ne_eq]; try dsimp only [Kd.T, Kds.T, AK.T, AKs.T])
        first | (rw [hwq, hset, getD_mid hlen, set_mid hlen, hsp, List.append_assoc, List.singleton_append, partS, if_pos e, w64 (by omega) (by omega)]) | (rw [hwq, hset, hsp, List.append_assoc, List.singleton_append, partS, if_neg e, Int.add_zero])
  · have hgm : i = m := by omega
    subst hgm
    rw [Nat.sub_self, List.replicate_zero, List.append_nil] at hl
    refine AM.run2 hG 100 (by cbv) ?_ ?_
    · (simp only [sxs, sxb, and_self, and_true, true_and, implies_true, imp_self, bne_eq_false_iff_eq, Nat.zero_add, Nat.le_refl, Int.toNat_natCast, Int.ofNat_lt, Int.natCast_nonneg, decide_eq_true_eq, decide_eq_false_iff_not, bne_iff_ne, ne_eq]; try dsimp only [Kd.T, Kds.T, AK.T, AKs.T])
    refine AM.ret2 hG (by cbv) (by (simp only [sxs, sxb, and_self, and_true, true_and, implies_true, imp_self, bne_eq_false_iff_eq, Nat.zero_add, Nat.le_refl, Int.toNat_natCast, Int.ofNat_lt, Int.natCast_nonneg, decide_eq_true_eq, decide_eq_false_iff_not, bne_iff_ne, ne_eq]; try dsimp only [Kd.T, Kds.T, AK.T, AKs.T])) (hQ _ _ (FinRo.of (by cbv) (by cbv) ?_ ?_))
    · (simp only [sxs, sxb, and_self, and_true, true_and, implies_true, imp_self, bne_eq_false_iff_eq, Nat.zero_add, Nat.le_refl, Int.toNat_natCast, Int.ofNat_lt, Int.natCast_nonneg, decide_eq_true_eq, decide_eq_false_iff_not, bne_iff_ne, ne_eq]; try dsimp only [Kd.T, Kds.T, AK.T, AKs.T])
      try omega
    try (simp only [sxs, sxb, and_self, and_true, true_and, implies_true, imp_self, bne_eq_false_iff_eq, Nat.zero_add, Nat.le_refl, Int.toNat_natCast, Int.ofNat_lt, Int.natCast_nonneg, decide_eq_true_eq, decide_eq_false_iff_not, bne_iff_ne, ne_eq]; try dsimp only [Kd.T, Kds.T, AK.T, AKs.T])
    simp only [splitS]
    rw [if_neg (by omega), hm, List.take_of_length_le (by omega), hl]
    exact ⟨rfl, rfl⟩
end Go.Sx.Ytpfdknpbiambnaa
