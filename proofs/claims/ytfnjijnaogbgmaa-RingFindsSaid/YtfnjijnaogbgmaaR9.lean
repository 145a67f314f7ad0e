/- Rings made of numbers. -/
import Derived.Test.YtfnjijnaogbgmaaR8
namespace Go.Sx.Ytfnjijnaogbgmaa
open Go Go.Sx Go.Proofs
set_option linter.unusedVariables false
set_option linter.unusedSimpArgs false
set_option maxRecDepth 100000

def S5 : List AV → Option FOut := ownSpec (decArgs [I64, IntsK]) (fun y => .tup [.agg [.int .i64 (.t fun _ => (madeR (y ()).1 (y ()).2.1).1), .int .u64 (.t fun _ => (madeR (y ()).1 (y ()).2.1).2.1), .ro HeldK fun _ => (madeR (y ()).1 (y ()).2.1).2.2.1], .any, .bool (.l true)]) (fun _ => []) (fun _ : Int × List Int × Unit => True)
set_option maxHeartbeats 16000000 in
theorem fn5 : FnOk Try.prog 5 S5 := by
  refine fn_ofO (rs := [.cell 4 27, .tmp 5, .tmp 6]) (env [(9, S9), (16, S16), (6, S6), (11, S11), (20, S20), (17, S17)] ⟨fn9, fn16, fn6, fn11, fn20, fn17, trivial⟩) Try.func5 (by kernel_rfl) rfl rfl Try.ntmps5 (enc := encArgs [I64, IntsK]) (dec := decArgs [I64, IntsK]) encArgs_ok (encArgs_len [I64, IntsK]) ?_
  rintro ⟨(n : Int), (nums : List Int), u2⟩ _ G hG hB hQ
  have hB := GB.of hB
  have hk0 := modS_in n (show (0 : Int) < 32 by decide)
  have hsz : IntKind.i64.wrap (1 + modS n 32) = 1 + modS n 32 := w64 (by omega) (by omega)
  obtain ⟨size, hs⟩ : ∃ s, 1 + modS n 32 = s := ⟨_, rfl⟩
  have hnew : newR size = ((size, 1, [], ()), 0) := by rw [newR, if_neg (by omega)]
  refine AM.runTo2 hG 26 100 (by cbv) ?_ ?_
  · (simp only [sxs, sxb, and_self, and_true, true_and, implies_true, imp_self, bne_eq_false_iff_eq, Nat.zero_add, Nat.le_refl, Int.toNat_natCast, Int.ofNat_lt, Int.natCast_nonneg, decide_eq_true_eq, decide_eq_false_iff_not, bne_iff_ne, ne_eq]; try dsimp only [Kd.T, Kds.T, AK.T, AKs.T])
    decide
  refine AM.imp2 (fr' := frame 119 [(1, .ro I64 fun _ => nums), (4, .ptr 0 0), (7, .int .i64 (.t fun _ => size)), (8, .ptr 1 0), (9, .int .i64 (.l 0))]) (h' := [.box 27 [.int .i64 (.l 0), .int .u64 (.l 0), .nils], .box 27 [.int .i64 (.t fun _ => size), .int .u64 (.t fun _ => 1), .ro HeldK fun _ => []]]) (by cbv) (by cbv) ?_ ?_ ?_
  · (simp only [sxs, sxb, and_self, and_true, true_and, implies_true, imp_self, bne_eq_false_iff_eq, Nat.zero_add, Nat.le_refl, Int.toNat_natCast, Int.ofNat_lt, Int.natCast_nonneg, decide_eq_true_eq, decide_eq_false_iff_not, bne_iff_ne, ne_eq]; try dsimp only [Kd.T, Kds.T, AK.T, AKs.T])
    rw [hsz, hs, hnew]
    exact ⟨rfl, rfl⟩
  · (simp only [sxs, sxb, and_self, and_true, true_and, implies_true, imp_self, bne_eq_false_iff_eq, Nat.zero_add, Nat.le_refl, Int.toNat_natCast, Int.ofNat_lt, Int.natCast_nonneg, decide_eq_true_eq, decide_eq_false_iff_not, bne_iff_ne, ne_eq]; try dsimp only [Kd.T, Kds.T, AK.T, AKs.T])
    rw [hsz, hs, hnew]
    exact ⟨rfl, rfl, rfl⟩
  refine AM.run2 hG 100 (by cbv) ?_ ?_
  · (simp only [sxs, sxb, and_self, and_true, true_and, implies_true, imp_self, bne_eq_false_iff_eq, Nat.zero_add, Nat.le_refl, Int.toNat_natCast, Int.ofNat_lt, Int.natCast_nonneg, decide_eq_true_eq, decide_eq_false_iff_not, bne_iff_ne, ne_eq]; try dsimp only [Kd.T, Kds.T, AK.T, AKs.T])
  refine AM.sure 33 false rfl (by (simp only [sxs, sxb, and_self, and_true, true_and, implies_true, imp_self, bne_eq_false_iff_eq, Nat.zero_add, Nat.le_refl, Int.toNat_natCast, Int.ofNat_lt, Int.natCast_nonneg, decide_eq_true_eq, decide_eq_false_iff_not, bne_iff_ne, ne_eq]; try dsimp only [Kd.T, Kds.T, AK.T, AKs.T])) ?_
  refine AM.run2 hG 100 (by cbv) ?_ ?_
  · (simp only [sxs, sxb, and_self, and_true, true_and, implies_true, imp_self, bne_eq_false_iff_eq, Nat.zero_add, Nat.le_refl, Int.toNat_natCast, Int.ofNat_lt, Int.natCast_nonneg, decide_eq_true_eq, decide_eq_false_iff_not, bne_iff_ne, ne_eq]; try dsimp only [Kd.T, Kds.T, AK.T, AKs.T])
  refine AM.emptySlot 10 24 U64 rfl ?_
  refine AM.loopI (fun z : Nat × Ring × List Int => (frame 119 [(1, .ro I64 fun _ => nums), (4, .ptr 0 0), (7, .int .i64 (.t fun _ => size)), (8, .ptr 1 0), (10, .sl 2 1 (.l 0) (.t fun _ => z.2.2.length)), (11, .int .i64 (.t fun _ => nI z.1))],
    [.box 27 [.int .i64 (.l 0), .int .u64 (.l 0), .nils], .box 27 [.int .i64 (.t fun _ => z.2.1.1), .int .u64 (.t fun _ => z.2.1.2.1), .ro HeldK fun _ => z.2.1.2.2.1], .row 24 U64 (fun _ => z.2.2)]))
    (fun z => z.1 ≤ nums.length ∧ z.1 ≤ 60 ∧ z.2.2.length ≤ z.1 ∧ RingV z.2.1 ∧ z.2.1.1 = size ∧ z.2.1.2.1 ≤ 1 + z.1 ∧ (nums.take z.1).foldl stepM (size, 1, [], ()) = z.2.1) (fun z => nums.length - z.1) (0, (size, 1, [], ()), []) ⟨by simp, by simp, by simp, new_ok (by omega) (by omega), rfl, by simp, rfl⟩ ?_ ?_ ?_
  · cbv; (simp only [sxs, sxb, and_self, and_true, true_and, implies_true, imp_self, bne_eq_false_iff_eq, Nat.zero_add, Nat.le_refl, Int.toNat_natCast, Int.ofNat_lt, Int.natCast_nonneg, decide_eq_true_eq, decide_eq_false_iff_not, bne_iff_ne, ne_eq]; try dsimp only [Kd.T, Kds.T, AK.T, AKs.T]); all_goals ((repeat' apply And.intro) <;> first | rfl | assumption | exact trivial)
  · cbv; (simp only [sxs, sxb, and_self, and_true, true_and, implies_true, imp_self, bne_eq_false_iff_eq, Nat.zero_add, Nat.le_refl, Int.toNat_natCast, Int.ofNat_lt, Int.natCast_nonneg, decide_eq_true_eq, decide_eq_false_iff_not, bne_iff_ne, ne_eq]; try dsimp only [Kd.T, Kds.T, AK.T, AKs.T]); all_goals ((repeat' apply And.intro) <;> first | rfl | assumption | exact trivial)
  rintro ⟨i, ⟨rc, rn, rl, ⟨⟩⟩, g⟩ ⟨hi, hi60, hg, hv, hc, hn, he⟩ ih
  simp only at hi hi60 hg hv hc hn he
  have hlen := hv.len
  have hcp := hv.cap
  simp only at hlen hcp
  refine AM.run2 hG 100 (by cbv) ?_ ?_
  · (simp only [sxs, sxb, and_self, and_true, true_and, implies_true, imp_self, bne_eq_false_iff_eq, Nat.zero_add, Nat.le_refl, Int.toNat_natCast, Int.ofNat_lt, Int.natCast_nonneg, decide_eq_true_eq, decide_eq_false_iff_not, bne_iff_ne, ne_eq]; try dsimp only [Kd.T, Kds.T, AK.T, AKs.T])
  refine AM.case 42 rfl (fun h => ?_) (fun h => ?_) <;> (simp only [sxs, sxb, and_self, and_true, true_and, implies_true, imp_self, bne_eq_false_iff_eq, Nat.zero_add, Nat.le_refl, Int.toNat_natCast, Int.ofNat_lt, Int.natCast_nonneg, decide_eq_true_eq, decide_eq_false_iff_not, bne_iff_ne, ne_eq] at h; try dsimp only [Kd.T, Kds.T, AK.T, AKs.T] at h)
  · obtain ⟨h, h60⟩ := h
    obtain ⟨k, hk⟩ : ∃ k, modS (nums.getD i 0) 1048576 = k := ⟨_, rfl⟩
    have hkk := modS_in (nums.getD i 0) (show (0 : Int) < 1048576 by decide)
    rw [hk] at hkk
    obtain ⟨hk1, hk2⟩ := hkk
    have e6 : k.tmod 6 = k % 6 := Int.tmod_eq_emod_of_nonneg hk1
    have e65 := (qr hk1 (by omega) 6 5 (by decide) (by decide)).1
    have e640 := (qr hk1 (by omega) 6 40 (by decide) (by decide)).1
    have e69 := (qr hk1 (by omega) 6 9 (by decide) (by decide)).1
    have hnext : (nums.take (i + 1)).foldl stepM (size, 1, [], ()) = stepM (rc, rn, rl, ()) (nums.getD i 0) := by
      rw [take_succG 0 h, List.foldl_append, he]; rfl
    have hso := stepM_ok hv (nums.getD i 0) (by simp only; omega)
    simp only at hso
    refine AM.run2 hG 100 (by cbv) ?_ ?_
    · (simp only [sxs, sxb, and_self, and_true, true_and, implies_true, imp_self, bne_eq_false_iff_eq, Nat.zero_add, Nat.le_refl, Int.toNat_natCast, Int.ofNat_lt, Int.natCast_nonneg, decide_eq_true_eq, decide_eq_false_iff_not, bne_iff_ne, ne_eq]; try dsimp only [Kd.T, Kds.T, AK.T, AKs.T])
      exact ⟨by decide, by decide, h⟩
    refine AM.case 61 rfl (fun h1 => ?_) (fun h1 => ?_) <;> (simp only [sxs, sxb, and_self, and_true, true_and, implies_true, imp_self, bne_eq_false_iff_eq, Nat.zero_add, Nat.le_refl, Int.toNat_natCast, Int.ofNat_lt, Int.natCast_nonneg, decide_eq_true_eq, decide_eq_false_iff_not, bne_iff_ne, ne_eq] at h1; try dsimp only [Kd.T, Kds.T, AK.T, AKs.T] at h1)
    · rw [hk, e6] at h1
      refine AM.runTo2 hG 74 100 (by cbv) ?_ ?_
      · (simp only [sxs, sxb, and_self, and_true, true_and, implies_true, imp_self, bne_eq_false_iff_eq, Nat.zero_add, Nat.le_refl, Int.toNat_natCast, Int.ofNat_lt, Int.natCast_nonneg, decide_eq_true_eq, decide_eq_false_iff_not, bne_iff_ne, ne_eq]; try dsimp only [Kd.T, Kds.T, AK.T, AKs.T])
        exact ⟨by omega, by decide, by decide⟩
      by_cases hfull : (rl.length : Int) = rc
      · have hp := hv.putF (w := k / 6 % 5) hfull
        have hst : stepM (rc, rn, rl, ()) (nums.getD i 0) = (rc, rn, rl, ()) := by
          unfold stepM
          simp only
          rw [hk, if_pos h1, hp, if_neg (by decide)]
        rw [hst] at hnext
        refine AM.imp2 (fr' := frame 119 [(1, .ro I64 fun _ => nums), (4, .ptr 0 0), (7, .int .i64 (.t fun _ => size)), (8, .ptr 1 0), (10, .sl 2 1 (.l 0) (.t fun _ => g.length)), (11, .int .i64 (.t fun _ => nI i)), (13, .ptr 3 0), (14, .int .i64 (.l 5))]) (h' := [.box 27 [.int .i64 (.l 0), .int .u64 (.l 0), .nils], .box 27 [.int .i64 (.t fun _ => rc), .int .u64 (.t fun _ => rn), .ro HeldK fun _ => rl], .row 24 U64 (fun _ => g), .box 27 [.int .i64 (.t fun _ => (zRing : Ring).1), .int .u64 (.t fun _ => (zRing : Ring).2.1), .ro HeldK fun _ => (zRing : Ring).2.2.1]]) (by cbv) (by cbv) ?_ ?_ ?_
        · (simp only [sxs, sxb, and_self, and_true, true_and, implies_true, imp_self, bne_eq_false_iff_eq, Nat.zero_add, Nat.le_refl, Int.toNat_natCast, Int.ofNat_lt, Int.natCast_nonneg, decide_eq_true_eq, decide_eq_false_iff_not, bne_iff_ne, ne_eq]; try dsimp only [Kd.T, Kds.T, AK.T, AKs.T])
          rw [hk, e65, hp]
        · (simp only [sxs, sxb, and_self, and_true, true_and, implies_true, imp_self, bne_eq_false_iff_eq, Nat.zero_add, Nat.le_refl, Int.toNat_natCast, Int.ofNat_lt, Int.natCast_nonneg, decide_eq_true_eq, decide_eq_false_iff_not, bne_iff_ne, ne_eq]; try dsimp only [Kd.T, Kds.T, AK.T, AKs.T])
          rw [hk, e65, hp]
          exact ⟨rfl, rfl, rfl⟩
        refine AM.run2 hG 100 (by cbv) ?_ ?_
        · (simp only [sxs, sxb, and_self, and_true, true_and, implies_true, imp_self, bne_eq_false_iff_eq, Nat.zero_add, Nat.le_refl, Int.toNat_natCast, Int.ofNat_lt, Int.natCast_nonneg, decide_eq_true_eq, decide_eq_false_iff_not, bne_iff_ne, ne_eq]; try dsimp only [Kd.T, Kds.T, AK.T, AKs.T])
        refine AM.ren hB [0, 1, 2] (by cbv) (by cbv) (by cbv) ?_ ?_ (ih (i + 1, (rc, rn, rl, ()), g) ⟨by simp only; omega, by simp only; omega, by simp only; omega, hv, hc, by simp only; omega, hnext⟩ (by simp only; omega))
        · (simp only [sxs, sxb, and_self, and_true, true_and, implies_true, imp_self, bne_eq_false_iff_eq, Nat.zero_add, Nat.le_refl, Int.toNat_natCast, Int.ofNat_lt, Int.natCast_nonneg, decide_eq_true_eq, decide_eq_false_iff_not, bne_iff_ne, ne_eq]; try dsimp only [Kd.T, Kds.T, AK.T, AKs.T])
          rw [w64s (by omega)]
        · (simp only [sxs, sxb, and_self, and_true, true_and, implies_true, imp_self, bne_eq_false_iff_eq, Nat.zero_add, Nat.le_refl, Int.toNat_natCast, Int.ofNat_lt, Int.natCast_nonneg, decide_eq_true_eq, decide_eq_false_iff_not, bne_iff_ne, ne_eq]; try dsimp only [Kd.T, Kds.T, AK.T, AKs.T])
      · obtain ⟨hp, hv2⟩ := hv.putK (w := k / 6 % 5) hfull (by simp only; omega)
        have hst : stepM (rc, rn, rl, ()) (nums.getD i 0) = (rc, rn + 1, rl ++ [(rn, k / 6 % 5, ())], ()) := by
          unfold stepM
          simp only
          rw [hk, if_pos h1, hp, if_pos rfl]
        rw [hst] at hnext
        refine AM.imp2 (fr' := frame 119 [(1, .ro I64 fun _ => nums), (4, .ptr 0 0), (7, .int .i64 (.t fun _ => size)), (8, .ptr 1 0), (10, .sl 2 1 (.l 0) (.t fun _ => g.length)), (11, .int .i64 (.t fun _ => nI i)), (13, .ptr 3 0), (14, .int .i64 (.l 0)), (15, .int .u64 (.t fun _ => rn))]) (h' := [.box 27 [.int .i64 (.l 0), .int .u64 (.l 0), .nils], .box 27 [.int .i64 (.t fun _ => rc), .int .u64 (.t fun _ => rn), .ro HeldK fun _ => rl], .row 24 U64 (fun _ => g), .box 27 [.int .i64 (.t fun _ => ((rc, rn + 1, rl ++ [(rn, k / 6 % 5, ())], ()) : Ring).1), .int .u64 (.t fun _ => ((rc, rn + 1, rl ++ [(rn, k / 6 % 5, ())], ()) : Ring).2.1), .ro HeldK fun _ => ((rc, rn + 1, rl ++ [(rn, k / 6 % 5, ())], ()) : Ring).2.2.1]]) (by cbv) (by cbv) ?_ ?_ ?_
        · (simp only [sxs, sxb, and_self, and_true, true_and, implies_true, imp_self, bne_eq_false_iff_eq, Nat.zero_add, Nat.le_refl, Int.toNat_natCast, Int.ofNat_lt, Int.natCast_nonneg, decide_eq_true_eq, decide_eq_false_iff_not, bne_iff_ne, ne_eq]; try dsimp only [Kd.T, Kds.T, AK.T, AKs.T])
          rw [hk, e65, hp]
          exact ⟨rfl, rfl⟩
        · (simp only [sxs, sxb, and_self, and_true, true_and, implies_true, imp_self, bne_eq_false_iff_eq, Nat.zero_add, Nat.le_refl, Int.toNat_natCast, Int.ofNat_lt, Int.natCast_nonneg, decide_eq_true_eq, decide_eq_false_iff_not, bne_iff_ne, ne_eq]; try dsimp only [Kd.T, Kds.T, AK.T, AKs.T])
          rw [hk, e65, hp]
          exact ⟨rfl, rfl, rfl⟩
        refine AM.run2 hG 100 (by cbv) ?_ ?_
        · (simp only [sxs, sxb, and_self, and_true, true_and, implies_true, imp_self, bne_eq_false_iff_eq, Nat.zero_add, Nat.le_refl, Int.toNat_natCast, Int.ofNat_lt, Int.natCast_nonneg, decide_eq_true_eq, decide_eq_false_iff_not, bne_iff_ne, ne_eq]; try dsimp only [Kd.T, Kds.T, AK.T, AKs.T])
          simp only [maxLen, List.length_take, List.length_cons, List.length_nil]
          omega
        refine AM.ren hB [0, 1, 5] (by cbv) (by cbv) (by cbv) ?_ ?_ (ih (i + 1, (rc, rn + 1, rl ++ [(rn, k / 6 % 5, ())], ()), g ++ [rn]) ⟨by simp only; omega, by simp only; omega, by simp only [List.length_append, List.length_cons, List.length_nil]; omega, hv2, hc, by simp only; omega, hnext⟩ (by simp only; omega))
        · (simp only [sxs, sxb, and_self, and_true, true_and, implies_true, imp_self, bne_eq_false_iff_eq, Nat.zero_add, Nat.le_refl, Int.toNat_natCast, Int.ofNat_lt, Int.natCast_nonneg, decide_eq_true_eq, decide_eq_false_iff_not, bne_iff_ne, ne_eq]; try dsimp only [Kd.T, Kds.T, AK.T, AKs.T])
          rw [List.length_append, w64s (by omega)]
          exact ⟨rfl, rfl⟩
        · (simp only [sxs, sxb, and_self, and_true, true_and, implies_true, imp_self, bne_eq_false_iff_eq, Nat.zero_add, Nat.le_refl, Int.toNat_natCast, Int.ofNat_lt, Int.natCast_nonneg, decide_eq_true_eq, decide_eq_false_iff_not, bne_iff_ne, ne_eq]; try dsimp only [Kd.T, Kds.T, AK.T, AKs.T])
          rfl
    rw [hk, e6] at h1
    refine AM.run2 hG 100 (by cbv) ?_ ?_
    · (simp only [sxs, sxb, and_self, and_true, true_and, implies_true, imp_self, bne_eq_false_iff_eq, Nat.zero_add, Nat.le_refl, Int.toNat_natCast, Int.ofNat_lt, Int.natCast_nonneg, decide_eq_true_eq, decide_eq_false_iff_not, bne_iff_ne, ne_eq]; try dsimp only [Kd.T, Kds.T, AK.T, AKs.T])
      decide
    refine AM.case 80 rfl (fun h2 => ?_) (fun h2 => ?_) <;> (simp only [sxs, sxb, and_self, and_true, true_and, implies_true, imp_self, bne_eq_false_iff_eq, Nat.zero_add, Nat.le_refl, Int.toNat_natCast, Int.ofNat_lt, Int.natCast_nonneg, decide_eq_true_eq, decide_eq_false_iff_not, bne_iff_ne, ne_eq] at h2; try dsimp only [Kd.T, Kds.T, AK.T, AKs.T] at h2)
    · rw [hk, e6] at h2
      refine AM.runTo2 hG 95 100 (by cbv) ?_ ?_
      · (simp only [sxs, sxb, and_self, and_true, true_and, implies_true, imp_self, bne_eq_false_iff_eq, Nat.zero_add, Nat.le_refl, Int.toNat_natCast, Int.ofNat_lt, Int.natCast_nonneg, decide_eq_true_eq, decide_eq_false_iff_not, bne_iff_ne, ne_eq]; try dsimp only [Kd.T, Kds.T, AK.T, AKs.T])
        exact ⟨by omega, by decide, by decide⟩
      have hd0 : 0 ≤ k / 6 % 40 ∧ k / 6 % 40 < 40 := by omega
      have ed1 : IntKind.i64.wrap (1 + k / 6 % 40) = 1 + k / 6 % 40 := w64 (by omega) (by omega)
      have ed2 : IntKind.u64.wrap (1 + k / 6 % 40) = 1 + k / 6 % 40 := by
        show (1 + k / 6 % 40) % 18446744073709551616 = _
        omega
      by_cases hf : (findR (rc, rn, rl, ()) (1 + k / 6 % 40)).2 = 0
      · obtain ⟨hp, hv2, hc2, hn2⟩ := hv.dropK hf
        have hst : stepM (rc, rn, rl, ()) (nums.getD i 0) = (dropR (rc, rn, rl, ()) (1 + k / 6 % 40)).1 := by
          unfold stepM
          simp only
          rw [hk, if_neg h1, if_pos h2, if_pos hp]
        rw [hst] at hnext
        obtain ⟨s, hs2⟩ : ∃ s, (dropR (rc, rn, rl, ()) (1 + k / 6 % 40)).1 = s := ⟨_, rfl⟩
        rw [hs2] at hnext hv2 hc2 hn2
        simp only at hc2 hn2
        refine AM.imp2 (fr' := frame 119 [(1, .ro I64 fun _ => nums), (4, .ptr 0 0), (7, .int .i64 (.t fun _ => size)), (8, .ptr 1 0), (10, .sl 2 1 (.l 0) (.t fun _ => g.length)), (11, .int .i64 (.t fun _ => nI i)), (13, .ptr 3 0), (14, .int .i64 (.l 0))]) (h' := [.box 27 [.int .i64 (.l 0), .int .u64 (.l 0), .nils], .box 27 [.int .i64 (.t fun _ => rc), .int .u64 (.t fun _ => rn), .ro HeldK fun _ => rl], .row 24 U64 (fun _ => g), .box 27 [.int .i64 (.t fun _ => (s : Ring).1), .int .u64 (.t fun _ => (s : Ring).2.1), .ro HeldK fun _ => (s : Ring).2.2.1]]) (by cbv) (by cbv) ?_ ?_ ?_
        · (simp only [sxs, sxb, and_self, and_true, true_and, implies_true, imp_self, bne_eq_false_iff_eq, Nat.zero_add, Nat.le_refl, Int.toNat_natCast, Int.ofNat_lt, Int.natCast_nonneg, decide_eq_true_eq, decide_eq_false_iff_not, bne_iff_ne, ne_eq]; try dsimp only [Kd.T, Kds.T, AK.T, AKs.T])
          rw [hk, e640, ed1, ed2, hp]
        · (simp only [sxs, sxb, and_self, and_true, true_and, implies_true, imp_self, bne_eq_false_iff_eq, Nat.zero_add, Nat.le_refl, Int.toNat_natCast, Int.ofNat_lt, Int.natCast_nonneg, decide_eq_true_eq, decide_eq_false_iff_not, bne_iff_ne, ne_eq]; try dsimp only [Kd.T, Kds.T, AK.T, AKs.T])
          rw [hk, e640, ed1, ed2, hs2]
          exact ⟨rfl, rfl, rfl⟩
        refine AM.run2 hG 100 (by cbv) ?_ ?_
        · (simp only [sxs, sxb, and_self, and_true, true_and, implies_true, imp_self, bne_eq_false_iff_eq, Nat.zero_add, Nat.le_refl, Int.toNat_natCast, Int.ofNat_lt, Int.natCast_nonneg, decide_eq_true_eq, decide_eq_false_iff_not, bne_iff_ne, ne_eq]; try dsimp only [Kd.T, Kds.T, AK.T, AKs.T])
        refine AM.ren hB [0, 1, 2] (by cbv) (by cbv) (by cbv) ?_ ?_ (ih (i + 1, s, g) ⟨by simp only; omega, by simp only; omega, by simp only; omega, hv2, hc2.trans hc, by simp only; omega, hnext⟩ (by simp only; omega))
        · (simp only [sxs, sxb, and_self, and_true, true_and, implies_true, imp_self, bne_eq_false_iff_eq, Nat.zero_add, Nat.le_refl, Int.toNat_natCast, Int.ofNat_lt, Int.natCast_nonneg, decide_eq_true_eq, decide_eq_false_iff_not, bne_iff_ne, ne_eq]; try dsimp only [Kd.T, Kds.T, AK.T, AKs.T])
          rw [w64s (by omega)]
        · (simp only [sxs, sxb, and_self, and_true, true_and, implies_true, imp_self, bne_eq_false_iff_eq, Nat.zero_add, Nat.le_refl, Int.toNat_natCast, Int.ofNat_lt, Int.natCast_nonneg, decide_eq_true_eq, decide_eq_false_iff_not, bne_iff_ne, ne_eq]; try dsimp only [Kd.T, Kds.T, AK.T, AKs.T])
      · have hp := hv.dropF hf
        have hst : stepM (rc, rn, rl, ()) (nums.getD i 0) = (rc, rn, rl, ()) := by
          unfold stepM
          simp only
          rw [hk, if_neg h1, if_pos h2, hp, if_neg (by decide)]
        rw [hst] at hnext
        refine AM.imp2 (fr' := frame 119 [(1, .ro I64 fun _ => nums), (4, .ptr 0 0), (7, .int .i64 (.t fun _ => size)), (8, .ptr 1 0), (10, .sl 2 1 (.l 0) (.t fun _ => g.length)), (11, .int .i64 (.t fun _ => nI i)), (13, .ptr 3 0), (14, .int .i64 (.l 6))]) (h' := [.box 27 [.int .i64 (.l 0), .int .u64 (.l 0), .nils], .box 27 [.int .i64 (.t fun _ => rc), .int .u64 (.t fun _ => rn), .ro HeldK fun _ => rl], .row 24 U64 (fun _ => g), .box 27 [.int .i64 (.t fun _ => (zRing : Ring).1), .int .u64 (.t fun _ => (zRing : Ring).2.1), .ro HeldK fun _ => (zRing : Ring).2.2.1]]) (by cbv) (by cbv) ?_ ?_ ?_
        · (simp only [sxs, sxb, and_self, and_true, true_and, implies_true, imp_self, bne_eq_false_iff_eq, Nat.zero_add, Nat.le_refl, Int.toNat_natCast, Int.ofNat_lt, Int.natCast_nonneg, decide_eq_true_eq, decide_eq_false_iff_not, bne_iff_ne, ne_eq]; try dsimp only [Kd.T, Kds.T, AK.T, AKs.T])
          rw [hk, e640, ed1, ed2, hp]
        · (simp only [sxs, sxb, and_self, and_true, true_and, implies_true, imp_self, bne_eq_false_iff_eq, Nat.zero_add, Nat.le_refl, Int.toNat_natCast, Int.ofNat_lt, Int.natCast_nonneg, decide_eq_true_eq, decide_eq_false_iff_not, bne_iff_ne, ne_eq]; try dsimp only [Kd.T, Kds.T, AK.T, AKs.T])
          rw [hk, e640, ed1, ed2, hp]
          exact ⟨rfl, rfl, rfl⟩
        refine AM.run2 hG 100 (by cbv) ?_ ?_
        · (simp only [sxs, sxb, and_self, and_true, true_and, implies_true, imp_self, bne_eq_false_iff_eq, Nat.zero_add, Nat.le_refl, Int.toNat_natCast, Int.ofNat_lt, Int.natCast_nonneg, decide_eq_true_eq, decide_eq_false_iff_not, bne_iff_ne, ne_eq]; try dsimp only [Kd.T, Kds.T, AK.T, AKs.T])
        refine AM.ren hB [0, 1, 2] (by cbv) (by cbv) (by cbv) ?_ ?_ (ih (i + 1, (rc, rn, rl, ()), g) ⟨by simp only; omega, by simp only; omega, by simp only; omega, hv, hc, by simp only; omega, hnext⟩ (by simp only; omega))
        · (simp only [sxs, sxb, and_self, and_true, true_and, implies_true, imp_self, bne_eq_false_iff_eq, Nat.zero_add, Nat.le_refl, Int.toNat_natCast, Int.ofNat_lt, Int.natCast_nonneg, decide_eq_true_eq, decide_eq_false_iff_not, bne_iff_ne, ne_eq]; try dsimp only [Kd.T, Kds.T, AK.T, AKs.T])
          rw [w64s (by omega)]
        · (simp only [sxs, sxb, and_self, and_true, true_and, implies_true, imp_self, bne_eq_false_iff_eq, Nat.zero_add, Nat.le_refl, Int.toNat_natCast, Int.ofNat_lt, Int.natCast_nonneg, decide_eq_true_eq, decide_eq_false_iff_not, bne_iff_ne, ne_eq]; try dsimp only [Kd.T, Kds.T, AK.T, AKs.T])
    rw [hk, e6] at h2
    refine AM.runTo2 hG 57 100 (by cbv) ?_ ?_
    · (simp only [sxs, sxb, and_self, and_true, true_and, implies_true, imp_self, bne_eq_false_iff_eq, Nat.zero_add, Nat.le_refl, Int.toNat_natCast, Int.ofNat_lt, Int.natCast_nonneg, decide_eq_true_eq, decide_eq_false_iff_not, bne_iff_ne, ne_eq]; try dsimp only [Kd.T, Kds.T, AK.T, AKs.T])
      decide
    refine AM.frz [4] (by cbv) (by (simp only [sxs, sxb, and_self, and_true, true_and, implies_true, imp_self, bne_eq_false_iff_eq, Nat.zero_add, Nat.le_refl, Int.toNat_natCast, Int.ofNat_lt, Int.natCast_nonneg, decide_eq_true_eq, decide_eq_false_iff_not, bne_iff_ne, ne_eq]; try dsimp only [Kd.T, Kds.T, AK.T, AKs.T])) ?_
    refine AM.runTo2 hG 95 100 (by cbv) ?_ ?_
    · (simp only [sxs, sxb, and_self, and_true, true_and, implies_true, imp_self, bne_eq_false_iff_eq, Nat.zero_add, Nat.le_refl, Int.toNat_natCast, Int.ofNat_lt, Int.natCast_nonneg, decide_eq_true_eq, decide_eq_false_iff_not, bne_iff_ne, ne_eq]; try dsimp only [Kd.T, Kds.T, AK.T, AKs.T])
      omega
    obtain ⟨hp, hv2, hc2, hn2⟩ := hv.wipeK [k / 6 % 9]
    have hst : stepM (rc, rn, rl, ()) (nums.getD i 0) = (wipeR (rc, rn, rl, ()) [k / 6 % 9]).1 := by
      unfold stepM
      simp only
      rw [hk, if_neg h1, if_neg h2]
    rw [hst] at hnext
    obtain ⟨s, hs2⟩ : ∃ s, (wipeR (rc, rn, rl, ()) [k / 6 % 9]).1 = s := ⟨_, rfl⟩
    rw [hs2] at hnext hv2 hc2 hn2
    simp only at hc2 hn2
    refine AM.imp2 (fr' := frame 119 [(1, .ro I64 fun _ => nums), (4, .ptr 0 0), (7, .int .i64 (.t fun _ => size)), (8, .ptr 1 0), (10, .sl 2 1 (.l 0) (.t fun _ => g.length)), (11, .int .i64 (.t fun _ => nI i)), (13, .ptr 3 0), (14, .int .i64 (.l 0))]) (h' := [.box 27 [.int .i64 (.l 0), .int .u64 (.l 0), .nils], .box 27 [.int .i64 (.t fun _ => rc), .int .u64 (.t fun _ => rn), .ro HeldK fun _ => rl], .row 24 U64 (fun _ => g), .box 27 [.int .i64 (.t fun _ => (s : Ring).1), .int .u64 (.t fun _ => (s : Ring).2.1), .ro HeldK fun _ => (s : Ring).2.2.1], .dead]) (by cbv) (by cbv) ?_ ?_ ?_
    · (simp only [sxs, sxb, and_self, and_true, true_and, implies_true, imp_self, bne_eq_false_iff_eq, Nat.zero_add, Nat.le_refl, Int.toNat_natCast, Int.ofNat_lt, Int.natCast_nonneg, decide_eq_true_eq, decide_eq_false_iff_not, bne_iff_ne, ne_eq]; try dsimp only [Kd.T, Kds.T, AK.T, AKs.T])
      rw [hk, e69, hp]
    · (simp only [sxs, sxb, and_self, and_true, true_and, implies_true, imp_self, bne_eq_false_iff_eq, Nat.zero_add, Nat.le_refl, Int.toNat_natCast, Int.ofNat_lt, Int.natCast_nonneg, decide_eq_true_eq, decide_eq_false_iff_not, bne_iff_ne, ne_eq]; try dsimp only [Kd.T, Kds.T, AK.T, AKs.T])
      rw [hk, e69, hs2]
      exact ⟨rfl, rfl, rfl⟩
    refine AM.run2 hG 100 (by cbv) ?_ ?_
    · (simp only [sxs, sxb, and_self, and_true, true_and, implies_true, imp_self, bne_eq_false_iff_eq, Nat.zero_add, Nat.le_refl, Int.toNat_natCast, Int.ofNat_lt, Int.natCast_nonneg, decide_eq_true_eq, decide_eq_false_iff_not, bne_iff_ne, ne_eq]; try dsimp only [Kd.T, Kds.T, AK.T, AKs.T])
    refine AM.ren hB [0, 1, 2] (by cbv) (by cbv) (by cbv) ?_ ?_ (ih (i + 1, s, g) ⟨by simp only; omega, by simp only; omega, by simp only; omega, hv2, hc2.trans hc, by simp only; omega, hnext⟩ (by simp only; omega))
    · (simp only [sxs, sxb, and_self, and_true, true_and, implies_true, imp_self, bne_eq_false_iff_eq, Nat.zero_add, Nat.le_refl, Int.toNat_natCast, Int.ofNat_lt, Int.natCast_nonneg, decide_eq_true_eq, decide_eq_false_iff_not, bne_iff_ne, ne_eq]; try dsimp only [Kd.T, Kds.T, AK.T, AKs.T])
      rw [w64s (by omega)]
    · (simp only [sxs, sxb, and_self, and_true, true_and, implies_true, imp_self, bne_eq_false_iff_eq, Nat.zero_add, Nat.le_refl, Int.toNat_natCast, Int.ofNat_lt, Int.natCast_nonneg, decide_eq_true_eq, decide_eq_false_iff_not, bne_iff_ne, ne_eq]; try dsimp only [Kd.T, Kds.T, AK.T, AKs.T])
  clear ih
  have hend : madeR n nums = (rc, rn, rl, ()) := by
    rw [← he, madeR, hs]
    by_cases q : i < nums.length
    · have := h q
      rw [show i = 60 by omega]
    · rw [List.take_of_length_le (show nums.length ≤ 60 by omega), List.take_of_length_le (show nums.length ≤ i by omega)]
  refine AM.run2 hG 100 (by cbv) ?_ ?_
  · (simp only [sxs, sxb, and_self, and_true, true_and, implies_true, imp_self, bne_eq_false_iff_eq, Nat.zero_add, Nat.le_refl, Int.toNat_natCast, Int.ofNat_lt, Int.natCast_nonneg, decide_eq_true_eq, decide_eq_false_iff_not, bne_iff_ne, ne_eq]; try dsimp only [Kd.T, Kds.T, AK.T, AKs.T])
    omega
  refine AM.ret2 hG (by cbv) (by (simp only [sxs, sxb, and_self, and_true, true_and, implies_true, imp_self, bne_eq_false_iff_eq, Nat.zero_add, Nat.le_refl, Int.toNat_natCast, Int.ofNat_lt, Int.natCast_nonneg, decide_eq_true_eq, decide_eq_false_iff_not, bne_iff_ne, ne_eq]; try dsimp only [Kd.T, Kds.T, AK.T, AKs.T])) (hQ _ _ (FinOwn.mk' [] (by cbv) (by cbv) (by cbv) ?_ ?_))
  · (simp only [sxs, sxb, and_self, and_true, true_and, implies_true, imp_self, bne_eq_false_iff_eq, Nat.zero_add, Nat.le_refl, Int.toNat_natCast, Int.ofNat_lt, Int.natCast_nonneg, decide_eq_true_eq, decide_eq_false_iff_not, bne_iff_ne, ne_eq]; try dsimp only [Kd.T, Kds.T, AK.T, AKs.T])
    rw [hend, hv.check]
    exact ⟨⟨rfl, rfl, rfl⟩, rfl, hc⟩
  · (simp only [sxs, sxb, and_self, and_true, true_and, implies_true, imp_self, bne_eq_false_iff_eq, Nat.zero_add, Nat.le_refl, Int.toNat_natCast, Int.ofNat_lt, Int.natCast_nonneg, decide_eq_true_eq, decide_eq_false_iff_not, bne_iff_ne, ne_eq]; try dsimp only [Kd.T, Kds.T, AK.T, AKs.T])
end Go.Sx.Ytfnjijnaogbgmaa
