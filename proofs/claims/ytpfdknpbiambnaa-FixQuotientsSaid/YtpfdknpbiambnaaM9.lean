/- bits.Div64 . -/
import Derived.Test.YtpfdknpbiambnaaM9b
namespace Go.Sx.Ytpfdknpbiambnaa
open Go Go.Sx Go.Proofs
set_option linter.unusedVariables false
set_option linter.unusedSimpArgs false
set_option maxRecDepth 100000

def S54 : List AV → Option FOut := sigSpec [U64, U64, U64] [U64, U64] (fun x : Int × Int × Int × Unit => ((x.1 * 18446744073709551616 + x.2.1) / x.2.2.1, (x.1 * 18446744073709551616 + x.2.1) % x.2.2.1, ())) (fun x : Int × Int × Int × Unit => inU x.1 ∧ inU x.2.1 ∧ inU x.2.2.1 ∧ x.1 < x.2.2.1)
set_option maxHeartbeats 4000000 in
theorem fn54 : FnOk Try.prog 54 S54 := by
  refine fn_of (rs := [.tmp 6, .tmp 7]) (env [(64, S64)] ⟨fn64, trivial⟩) Try.func54 (by kernel_rfl) rfl rfl Try.ntmps54 ?_
  rintro ⟨(hi : Int), (lo : Int), (y : Int), u⟩ ⟨(h1 : inU hi), (h2 : inU lo), (h3 : inU y), (h4 : hi < y)⟩ G hG hQ
  have h1' := h1
  have h2' := h2
  have h3' := h3
  unfold inU at h1' h2' h3'
  refine AM.run2 hG 300 (by cbv) ?_ ?_
  · (simp only [sxs, sxb, and_self, and_true, true_and, implies_true, imp_self, bne_eq_false_iff_eq, Nat.zero_add, Nat.le_refl, Int.toNat_natCast, Int.ofNat_lt, Int.natCast_nonneg, decide_eq_true_eq, decide_eq_false_iff_not, bne_iff_ne, ne_eq]; try dsimp only [Kd.T, Kds.T, AK.T, AKs.T])
  refine AM.case 20 rfl (fun g => ?_) (fun g => ?_) <;> (simp only [sxs, sxb, and_self, and_true, true_and, implies_true, imp_self, bne_eq_false_iff_eq, Nat.zero_add, Nat.le_refl, Int.toNat_natCast, Int.ofNat_lt, Int.natCast_nonneg, decide_eq_true_eq, decide_eq_false_iff_not, bne_iff_ne, ne_eq] at g; try dsimp only [Kd.T, Kds.T, AK.T, AKs.T] at g)
  · omega
  refine AM.run2 hG 300 (by cbv) ?_ ?_
  · (simp only [sxs, sxb, and_self, and_true, true_and, implies_true, imp_self, bne_eq_false_iff_eq, Nat.zero_add, Nat.le_refl, Int.toNat_natCast, Int.ofNat_lt, Int.natCast_nonneg, decide_eq_true_eq, decide_eq_false_iff_not, bne_iff_ne, ne_eq]; try dsimp only [Kd.T, Kds.T, AK.T, AKs.T])
  refine AM.case 24 rfl (fun g2 => ?_) (fun g2 => ?_) <;> (simp only [sxs, sxb, and_self, and_true, true_and, implies_true, imp_self, bne_eq_false_iff_eq, Nat.zero_add, Nat.le_refl, Int.toNat_natCast, Int.ofNat_lt, Int.natCast_nonneg, decide_eq_true_eq, decide_eq_false_iff_not, bne_iff_ne, ne_eq] at g2; try dsimp only [Kd.T, Kds.T, AK.T, AKs.T] at g2)
  · omega
  refine AM.run2 hG 300 (by cbv) ?_ ?_
  · (simp only [sxs, sxb, and_self, and_true, true_and, implies_true, imp_self, bne_eq_false_iff_eq, Nat.zero_add, Nat.le_refl, Int.toNat_natCast, Int.ofNat_lt, Int.natCast_nonneg, decide_eq_true_eq, decide_eq_false_iff_not, bne_iff_ne, ne_eq]; try dsimp only [Kd.T, Kds.T, AK.T, AKs.T])
  refine AM.case 27 rfl (fun e => ?_) (fun e => ?_) <;> (simp only [sxs, sxb, and_self, and_true, true_and, implies_true, imp_self, bne_eq_false_iff_eq, Nat.zero_add, Nat.le_refl, Int.toNat_natCast, Int.ofNat_lt, Int.natCast_nonneg, decide_eq_true_eq, decide_eq_false_iff_not, bne_iff_ne, ne_eq] at e; try dsimp only [Kd.T, Kds.T, AK.T, AKs.T] at e)
  · refine AM.run2 hG 300 (by cbv) ?_ ?_
    · (simp only [sxs, sxb, and_self, and_true, true_and, implies_true, imp_self, bne_eq_false_iff_eq, Nat.zero_add, Nat.le_refl, Int.toNat_natCast, Int.ofNat_lt, Int.natCast_nonneg, decide_eq_true_eq, decide_eq_false_iff_not, bne_iff_ne, ne_eq]; try dsimp only [Kd.T, Kds.T, AK.T, AKs.T])
      try omega
    refine AM.ret2 hG (by cbv) (by (simp only [sxs, sxb, and_self, and_true, true_and, implies_true, imp_self, bne_eq_false_iff_eq, Nat.zero_add, Nat.le_refl, Int.toNat_natCast, Int.ofNat_lt, Int.natCast_nonneg, decide_eq_true_eq, decide_eq_false_iff_not, bne_iff_ne, ne_eq]; try dsimp only [Kd.T, Kds.T, AK.T, AKs.T])) (hQ _ _ (FinRo.of (by cbv) (by cbv) ?_ ?_))
    · (simp only [sxs, sxb, and_self, and_true, true_and, implies_true, imp_self, bne_eq_false_iff_eq, Nat.zero_add, Nat.le_refl, Int.toNat_natCast, Int.ofNat_lt, Int.natCast_nonneg, decide_eq_true_eq, decide_eq_false_iff_not, bne_iff_ne, ne_eq]; try dsimp only [Kd.T, Kds.T, AK.T, AKs.T])
    try (simp only [sxs, sxb, and_self, and_true, true_and, implies_true, imp_self, bne_eq_false_iff_eq, Nat.zero_add, Nat.le_refl, Int.toNat_natCast, Int.ofNat_lt, Int.natCast_nonneg, decide_eq_true_eq, decide_eq_false_iff_not, bne_iff_ne, ne_eq]; try dsimp only [Kd.T, Kds.T, AK.T, AKs.T])
    subst e
    rw [Int.zero_mul, Int.zero_add, Int.tdiv_eq_ediv_of_nonneg h2'.1, Int.tmod_eq_emod_of_nonneg h2'.1]
    refine ⟨?_, ?_⟩
    · have := Int.ediv_le_self y h2'.1
      have := Int.ediv_nonneg h2'.1 h3'.1
      rw [uw]
      first | rfl | (apply Int.emod_eq_of_lt <;> first | assumption | (have := Int.ediv_le_self y h2'.1; omega))
    · first | rfl | (rw [uw, Int.emod_eq_of_lt]; exact Int.emod_nonneg _ (by omega); have := Int.emod_lt_of_pos lo (show 0 < y by omega); omega)
  obtain ⟨k, k1, k2, k3, k4⟩ := len64_pow (z := y) (by omega)
  obtain ⟨s, hs⟩ : ∃ s : Nat, s = 63 - k := ⟨_, rfl⟩
  have hlz : 64 - len64 y = s := by omega
  obtain ⟨Y, y1, y0, U, L, u1, u0, e1, e2, e3, e4, e5, e6, e7, hYy, hY, hy1, hy0, hU, hu1, hu0, hYi, hLi, hN⟩ := div_norm k1 hs k3 k4 ⟨h1'.1, h4⟩ h2
  obtain ⟨Q1, R1, Q0, R0, hQ1, hR1, hR1b, hQ0, hR0, hR0b, hQ1b, hQ0b, hdiv, hmod⟩ := div_last (N := hi * 18446744073709551616 + lo) (P := 2 ^ s) (Int.pow_pos (by decide)) (show 0 < y by omega) hYy hN hU hu1 hu0
  have ews : IntKind.u64.wrap (s : Int) = s := by rw [uw]; omega
  have ew2 : IntKind.u64.wrap (64 - (s : Int)) = ((64 - s : Nat) : Int) := by rw [uw]; omega
  have em1 : min (s : Int).toNat IntKind.u64.bits = s := by have := ws (s := s) (by omega); rwa [ews] at this
  have em2 : min (((64 - s : Nat) : Int)).toNat IntKind.u64.bits = 64 - s := by have := ws (s := 64 - s) (by omega); rwa [show IntKind.u64.wrap (((64 - s : Nat) : Int)) = ((64 - s : Nat) : Int) by rw [uw]; omega] at this
  have em3 : min s IntKind.u64.bits = s := by have := em1; simpa using this
  have em4 : min (64 - s) IntKind.u64.bits = 64 - s := by have := em2; rwa [Int.toNat_natCast] at this
  have hy0L : bitsI .and .u64 Y 4294967295 = y0 := by rw [low32 hYi, e3]
  have hu0L : bitsI .and .u64 L 4294967295 = u0 := by rw [low32 hLi, e7]
  obtain ⟨st1, st2, st3, st4, st5, st6⟩ := div_start hY hy1 hy0 hU hu1
  obtain ⟨st7, st8⟩ := div_first hy1 ⟨hU.1, by unfold inU at hYi; omega⟩ st4 st5 st1 st2
  have Ub := hU
  refine AM.run2 hG 300 (by cbv) ?_ ?_
  · (simp only [sxs, sxb, and_self, and_true, true_and, implies_true, imp_self, bne_eq_false_iff_eq, Nat.zero_add, Nat.le_refl, Int.toNat_natCast, Int.ofNat_lt, Int.natCast_nonneg, decide_eq_true_eq, decide_eq_false_iff_not, bne_iff_ne, ne_eq]; try dsimp only [Kd.T, Kds.T, AK.T, AKs.T])
    simp only [hlz, ews, ew2, em1, em2, em3, em4, e1, shr32, e2]
    refine ⟨by omega, by decide, by omega, by omega, by omega, by decide, by omega, h3⟩
  refine' AM.loopE (fun x : Int × Int => (frame 135 [(2, .int .u64 (.t fun _ => Y)), (8, .int .u64 (.t fun _ => (s : Int))), (9, .int .u64 (.t fun _ => y1)), (10, .int .u64 (.t fun _ => y0)), (11, .int .u64 (.t fun _ => U)), (13, .int .u64 (.t fun _ => u1)), (14, .int .u64 (.t fun _ => u0)), (15, .int .u64 (.t fun _ => x.1)), (16, .int .u64 (.t fun _ => x.2))], []))
    (fun x => x.1 * y1 + x.2 = U ∧ 0 ≤ x.2 ∧ x.2 < 4294967296 ∧ Q1 ≤ x.1 ∧ x.1 ≤ 4294967297) (fun x => x.1.toNat)
    (fun x : Unit => (frame 135 [(2, .int .u64 (.t fun _ => Y)), (8, .int .u64 (.t fun _ => (s : Int))), (9, .int .u64 (.t fun _ => y1)), (10, .int .u64 (.t fun _ => y0)), (11, .int .u64 (.t fun _ => U)), (13, .int .u64 (.t fun _ => u1)), (14, .int .u64 (.t fun _ => u0)), (15, .int .u64 (.t fun _ => Q1))], [])) (fun _ => True)
    (U / y1, U % y1) ⟨st1, st2, st3, by rw [hQ1]; exact st6, st5⟩ ?_ ?_ ?_ ?_
  rotate_left 1
  · cbv; (simp only [sxs, sxb, and_self, and_true, true_and, implies_true, imp_self, bne_eq_false_iff_eq, Nat.zero_add, Nat.le_refl, Int.toNat_natCast, Int.ofNat_lt, Int.natCast_nonneg, decide_eq_true_eq, decide_eq_false_iff_not, bne_iff_ne, ne_eq]; try dsimp only [Kd.T, Kds.T, AK.T, AKs.T])
    simp only [hlz, ews, ew2, em1, em2, em3, em4, e1, e2, e4, e5, e6, hy0L, hu0L, shr32, Int.tdiv_eq_ediv_of_nonneg hU.1, st7, st8, true_and, and_true]
  · exact trivial
  · rintro after ⟨q, r⟩ ⟨i1, i2, i3, i4, i5⟩ ih
    simp only at i1 i2 i3 i4 i5 ih
    refine AM.run2 hG 100 (by cbv) ?_ ?_
    · (simp only [sxs, sxb, and_self, and_true, true_and, implies_true, imp_self, bne_eq_false_iff_eq, Nat.zero_add, Nat.le_refl, Int.toNat_natCast, Int.ofNat_lt, Int.natCast_nonneg, decide_eq_true_eq, decide_eq_false_iff_not, bne_iff_ne, ne_eq]; try dsimp only [Kd.T, Kds.T, AK.T, AKs.T])
    refine AM.case 78 rfl (fun c => ?_) (fun c => ?_) <;> (simp only [sxs, sxb, and_self, and_true, true_and, implies_true, imp_self, bne_eq_false_iff_eq, Nat.zero_add, Nat.le_refl, Int.toNat_natCast, Int.ofNat_lt, Int.natCast_nonneg, decide_eq_true_eq, decide_eq_false_iff_not, bne_iff_ne, ne_eq] at c; try dsimp only [Kd.T, Kds.T, AK.T, AKs.T] at c)
    · have hm := div_more hY hy1 hy0 Ub hu1 i1 hQ1 i2 i3 (by omega) c
      have w1 : IntKind.u64.wrap (q - 1) = q - 1 := wz ⟨by omega, by omega⟩
      have w2 : IntKind.u64.wrap (r + y1) = r + y1 := wz ⟨by omega, by omega⟩
      have i1' : (q - 1) * y1 + (r + y1) = U := by rw [Int.sub_mul, Int.one_mul]; omega
      refine AM.run2 hG 100 (by cbv) ?_ ?_
      · (simp only [sxs, sxb, and_self, and_true, true_and, implies_true, imp_self, bne_eq_false_iff_eq, Nat.zero_add, Nat.le_refl, Int.toNat_natCast, Int.ofNat_lt, Int.natCast_nonneg, decide_eq_true_eq, decide_eq_false_iff_not, bne_iff_ne, ne_eq]; try dsimp only [Kd.T, Kds.T, AK.T, AKs.T])
      refine AM.case 85 rfl (fun d => ?_) (fun d => ?_) <;> (simp only [sxs, sxb, and_self, and_true, true_and, implies_true, imp_self, bne_eq_false_iff_eq, Nat.zero_add, Nat.le_refl, Int.toNat_natCast, Int.ofNat_lt, Int.natCast_nonneg, decide_eq_true_eq, decide_eq_false_iff_not, bne_iff_ne, ne_eq] at d; try dsimp only [Kd.T, Kds.T, AK.T, AKs.T] at d)
      · rw [w2] at d
        have hb := div_break hY hy1 hy0 Ub hu1 i1' hQ1 d ⟨by omega, by omega⟩
        refine AM.runTo2 hG 86 100 (by cbv) (by (simp only [sxs, sxb, and_self, and_true, true_and, implies_true, imp_self, bne_eq_false_iff_eq, Nat.zero_add, Nat.le_refl, Int.toNat_natCast, Int.ofNat_lt, Int.natCast_nonneg, decide_eq_true_eq, decide_eq_false_iff_not, bne_iff_ne, ne_eq]; try dsimp only [Kd.T, Kds.T, AK.T, AKs.T])) ?_
        refine AM.imp2 (by cbv) (by cbv) ?_ trivial (after () trivial)
        (simp only [sxs, sxb, and_self, and_true, true_and, implies_true, imp_self, bne_eq_false_iff_eq, Nat.zero_add, Nat.le_refl, Int.toNat_natCast, Int.ofNat_lt, Int.natCast_nonneg, decide_eq_true_eq, decide_eq_false_iff_not, bne_iff_ne, ne_eq]; try dsimp only [Kd.T, Kds.T, AK.T, AKs.T])
        simp only [w1, true_and, and_true]
        omega
      · rw [w2] at d
        refine AM.run2 hG 100 (by cbv) ?_ ?_
        · (simp only [sxs, sxb, and_self, and_true, true_and, implies_true, imp_self, bne_eq_false_iff_eq, Nat.zero_add, Nat.le_refl, Int.toNat_natCast, Int.ofNat_lt, Int.natCast_nonneg, decide_eq_true_eq, decide_eq_false_iff_not, bne_iff_ne, ne_eq]; try dsimp only [Kd.T, Kds.T, AK.T, AKs.T])
        refine AM.imp2 (by cbv) (by cbv) ?_ trivial (ih (q - 1, r + y1) ⟨i1', by simp only; omega, by simp only; omega, by simp only; omega, by simp only; omega⟩ (by simp only; omega))
        (simp only [sxs, sxb, and_self, and_true, true_and, implies_true, imp_self, bne_eq_false_iff_eq, Nat.zero_add, Nat.le_refl, Int.toNat_natCast, Int.ofNat_lt, Int.natCast_nonneg, decide_eq_true_eq, decide_eq_false_iff_not, bne_iff_ne, ne_eq]; try dsimp only [Kd.T, Kds.T, AK.T, AKs.T])
        simp only [w1, w2, true_and, and_true]
    · have hm := div_ok hY hy1 hy0 Ub hu1 i1 hQ1 i2 i3 (by omega) c.1 c.2
      refine AM.runTo2 hG 86 100 (by cbv) (by (simp only [sxs, sxb, and_self, and_true, true_and, implies_true, imp_self, bne_eq_false_iff_eq, Nat.zero_add, Nat.le_refl, Int.toNat_natCast, Int.ofNat_lt, Int.natCast_nonneg, decide_eq_true_eq, decide_eq_false_iff_not, bne_iff_ne, ne_eq]; try dsimp only [Kd.T, Kds.T, AK.T, AKs.T])) ?_
      refine AM.imp2 (by cbv) (by cbv) ?_ trivial (after () trivial)
      (simp only [sxs, sxb, and_self, and_true, true_and, implies_true, imp_self, bne_eq_false_iff_eq, Nat.zero_add, Nat.le_refl, Int.toNat_natCast, Int.ofNat_lt, Int.natCast_nonneg, decide_eq_true_eq, decide_eq_false_iff_not, bne_iff_ne, ne_eq]; try dsimp only [Kd.T, Kds.T, AK.T, AKs.T])
      omega
  rintro ⟨⟩ _
  have hYi' := hYi
  unfold inU at hYi'
  have R1b := hR1b
  obtain ⟨tt1, tt2, tt3, tt4, tt5, tt6⟩ := div_start hY hy1 hy0 R1b hu0
  obtain ⟨tt7, tt8⟩ := div_first hy1 ⟨R1b.1, by omega⟩ tt4 tt5 tt1 tt2
  have hr1 := div_rest (U := U) (u := u1) (z := Q1 * Y) hR1 ⟨R1b.1, by omega⟩
  refine AM.run2 hG 300 (by cbv) ?_ ?_
  · (simp only [sxs, sxb, and_self, and_true, true_and, implies_true, imp_self, bne_eq_false_iff_eq, Nat.zero_add, Nat.le_refl, Int.toNat_natCast, Int.ofNat_lt, Int.natCast_nonneg, decide_eq_true_eq, decide_eq_false_iff_not, bne_iff_ne, ne_eq]; try dsimp only [Kd.T, Kds.T, AK.T, AKs.T])
    omega
  refine' AM.loopE (fun x : Int × Int => (frame 135 [(2, .int .u64 (.t fun _ => Y)), (8, .int .u64 (.t fun _ => (s : Int))), (9, .int .u64 (.t fun _ => y1)), (10, .int .u64 (.t fun _ => y0)), (17, .int .u64 (.t fun _ => R1)), (14, .int .u64 (.t fun _ => u0)), (15, .int .u64 (.t fun _ => Q1)), (18, .int .u64 (.t fun _ => x.1)), (16, .int .u64 (.t fun _ => x.2))], []))
    (fun x => x.1 * y1 + x.2 = R1 ∧ 0 ≤ x.2 ∧ x.2 < 4294967296 ∧ Q0 ≤ x.1 ∧ x.1 ≤ 4294967297) (fun x => x.1.toNat)
    (fun x : Unit => (frame 135 [(2, .int .u64 (.t fun _ => Y)), (8, .int .u64 (.t fun _ => (s : Int))), (17, .int .u64 (.t fun _ => R1)), (14, .int .u64 (.t fun _ => u0)), (15, .int .u64 (.t fun _ => Q1)), (18, .int .u64 (.t fun _ => Q0))], [])) (fun _ => True)
    (R1 / y1, R1 % y1) ⟨tt1, tt2, tt3, by rw [hQ0]; exact tt6, tt5⟩ ?_ ?_ ?_ ?_
  rotate_left 1
  · cbv; (simp only [sxs, sxb, and_self, and_true, true_and, implies_true, imp_self, bne_eq_false_iff_eq, Nat.zero_add, Nat.le_refl, Int.toNat_natCast, Int.ofNat_lt, Int.natCast_nonneg, decide_eq_true_eq, decide_eq_false_iff_not, bne_iff_ne, ne_eq]; try dsimp only [Kd.T, Kds.T, AK.T, AKs.T])
    simp only [hr1, Int.tdiv_eq_ediv_of_nonneg R1b.1, tt7, tt8, true_and, and_true]
  · exact trivial
  · rintro after ⟨q, r⟩ ⟨i1, i2, i3, i4, i5⟩ ih
    simp only at i1 i2 i3 i4 i5 ih
    refine AM.run2 hG 100 (by cbv) ?_ ?_
    · (simp only [sxs, sxb, and_self, and_true, true_and, implies_true, imp_self, bne_eq_false_iff_eq, Nat.zero_add, Nat.le_refl, Int.toNat_natCast, Int.ofNat_lt, Int.natCast_nonneg, decide_eq_true_eq, decide_eq_false_iff_not, bne_iff_ne, ne_eq]; try dsimp only [Kd.T, Kds.T, AK.T, AKs.T])
    refine AM.case 113 rfl (fun c => ?_) (fun c => ?_) <;> (simp only [sxs, sxb, and_self, and_true, true_and, implies_true, imp_self, bne_eq_false_iff_eq, Nat.zero_add, Nat.le_refl, Int.toNat_natCast, Int.ofNat_lt, Int.natCast_nonneg, decide_eq_true_eq, decide_eq_false_iff_not, bne_iff_ne, ne_eq] at c; try dsimp only [Kd.T, Kds.T, AK.T, AKs.T] at c)
    · have hm := div_more hY hy1 hy0 R1b hu0 i1 hQ0 i2 i3 (by omega) c
      have w1 : IntKind.u64.wrap (q - 1) = q - 1 := wz ⟨by omega, by omega⟩
      have w2 : IntKind.u64.wrap (r + y1) = r + y1 := wz ⟨by omega, by omega⟩
      have i1' : (q - 1) * y1 + (r + y1) = R1 := by rw [Int.sub_mul, Int.one_mul]; omega
      refine AM.run2 hG 100 (by cbv) ?_ ?_
      · (simp only [sxs, sxb, and_self, and_true, true_and, implies_true, imp_self, bne_eq_false_iff_eq, Nat.zero_add, Nat.le_refl, Int.toNat_natCast, Int.ofNat_lt, Int.natCast_nonneg, decide_eq_true_eq, decide_eq_false_iff_not, bne_iff_ne, ne_eq]; try dsimp only [Kd.T, Kds.T, AK.T, AKs.T])
      refine AM.case 120 rfl (fun d => ?_) (fun d => ?_) <;> (simp only [sxs, sxb, and_self, and_true, true_and, implies_true, imp_self, bne_eq_false_iff_eq, Nat.zero_add, Nat.le_refl, Int.toNat_natCast, Int.ofNat_lt, Int.natCast_nonneg, decide_eq_true_eq, decide_eq_false_iff_not, bne_iff_ne, ne_eq] at d; try dsimp only [Kd.T, Kds.T, AK.T, AKs.T] at d)
      · rw [w2] at d
        have hb := div_break hY hy1 hy0 R1b hu0 i1' hQ0 d ⟨by omega, by omega⟩
        refine AM.runTo2 hG 121 100 (by cbv) (by (simp only [sxs, sxb, and_self, and_true, true_and, implies_true, imp_self, bne_eq_false_iff_eq, Nat.zero_add, Nat.le_refl, Int.toNat_natCast, Int.ofNat_lt, Int.natCast_nonneg, decide_eq_true_eq, decide_eq_false_iff_not, bne_iff_ne, ne_eq]; try dsimp only [Kd.T, Kds.T, AK.T, AKs.T])) ?_
        refine AM.imp2 (by cbv) (by cbv) ?_ trivial (after () trivial)
        (simp only [sxs, sxb, and_self, and_true, true_and, implies_true, imp_self, bne_eq_false_iff_eq, Nat.zero_add, Nat.le_refl, Int.toNat_natCast, Int.ofNat_lt, Int.natCast_nonneg, decide_eq_true_eq, decide_eq_false_iff_not, bne_iff_ne, ne_eq]; try dsimp only [Kd.T, Kds.T, AK.T, AKs.T])
        simp only [w1, true_and, and_true]
        omega
      · rw [w2] at d
        refine AM.run2 hG 100 (by cbv) ?_ ?_
        · (simp only [sxs, sxb, and_self, and_true, true_and, implies_true, imp_self, bne_eq_false_iff_eq, Nat.zero_add, Nat.le_refl, Int.toNat_natCast, Int.ofNat_lt, Int.natCast_nonneg, decide_eq_true_eq, decide_eq_false_iff_not, bne_iff_ne, ne_eq]; try dsimp only [Kd.T, Kds.T, AK.T, AKs.T])
        refine AM.imp2 (by cbv) (by cbv) ?_ trivial (ih (q - 1, r + y1) ⟨i1', by simp only; omega, by simp only; omega, by simp only; omega, by simp only; omega⟩ (by simp only; omega))
        (simp only [sxs, sxb, and_self, and_true, true_and, implies_true, imp_self, bne_eq_false_iff_eq, Nat.zero_add, Nat.le_refl, Int.toNat_natCast, Int.ofNat_lt, Int.natCast_nonneg, decide_eq_true_eq, decide_eq_false_iff_not, bne_iff_ne, ne_eq]; try dsimp only [Kd.T, Kds.T, AK.T, AKs.T])
        simp only [w1, w2, true_and, and_true]
    · have hm := div_ok hY hy1 hy0 R1b hu0 i1 hQ0 i2 i3 (by omega) c.1 c.2
      refine AM.runTo2 hG 121 100 (by cbv) (by (simp only [sxs, sxb, and_self, and_true, true_and, implies_true, imp_self, bne_eq_false_iff_eq, Nat.zero_add, Nat.le_refl, Int.toNat_natCast, Int.ofNat_lt, Int.natCast_nonneg, decide_eq_true_eq, decide_eq_false_iff_not, bne_iff_ne, ne_eq]; try dsimp only [Kd.T, Kds.T, AK.T, AKs.T])) ?_
      refine AM.imp2 (by cbv) (by cbv) ?_ trivial (after () trivial)
      (simp only [sxs, sxb, and_self, and_true, true_and, implies_true, imp_self, bne_eq_false_iff_eq, Nat.zero_add, Nat.le_refl, Int.toNat_natCast, Int.ofNat_lt, Int.natCast_nonneg, decide_eq_true_eq, decide_eq_false_iff_not, bne_iff_ne, ne_eq]; try dsimp only [Kd.T, Kds.T, AK.T, AKs.T])
      omega
  rintro ⟨⟩ _
  have hr0 := div_rest (U := R1) (u := u0) (z := Q0 * Y) hR0 ⟨hR0b.1, by omega⟩
  refine AM.run2 hG 300 (by cbv) ?_ ?_
  · (simp only [sxs, sxb, and_self, and_true, true_and, implies_true, imp_self, bne_eq_false_iff_eq, Nat.zero_add, Nat.le_refl, Int.toNat_natCast, Int.ofNat_lt, Int.natCast_nonneg, decide_eq_true_eq, decide_eq_false_iff_not, bne_iff_ne, ne_eq]; try dsimp only [Kd.T, Kds.T, AK.T, AKs.T])
    try omega
  refine AM.ret2 hG (by cbv) (by (simp only [sxs, sxb, and_self, and_true, true_and, implies_true, imp_self, bne_eq_false_iff_eq, Nat.zero_add, Nat.le_refl, Int.toNat_natCast, Int.ofNat_lt, Int.natCast_nonneg, decide_eq_true_eq, decide_eq_false_iff_not, bne_iff_ne, ne_eq]; try dsimp only [Kd.T, Kds.T, AK.T, AKs.T])) (hQ _ _ (FinRo.of (by cbv) (by cbv) ?_ ?_))
  · (simp only [sxs, sxb, and_self, and_true, true_and, implies_true, imp_self, bne_eq_false_iff_eq, Nat.zero_add, Nat.le_refl, Int.toNat_natCast, Int.ofNat_lt, Int.natCast_nonneg, decide_eq_true_eq, decide_eq_false_iff_not, bne_iff_ne, ne_eq]; try dsimp only [Kd.T, Kds.T, AK.T, AKs.T])
  try (simp only [sxs, sxb, and_self, and_true, true_and, implies_true, imp_self, bne_eq_false_iff_eq, Nat.zero_add, Nat.le_refl, Int.toNat_natCast, Int.ofNat_lt, Int.natCast_nonneg, decide_eq_true_eq, decide_eq_false_iff_not, bne_iff_ne, ne_eq]; try dsimp only [Kd.T, Kds.T, AK.T, AKs.T])
  rw [hr0, em3, Int.fdiv_eq_ediv_of_nonneg _ (Int.le_of_lt (Int.pow_pos (by decide))), hdiv, hmod]
  refine ⟨?_, rfl⟩
  simp only [uw]
  omega
end Go.Sx.Ytpfdknpbiambnaa
