/- The law RingFinds. -/
import Derived.Test.YtfnjijnaogbgmaaR10
namespace Go.Sx.Ytfnjijnaogbgmaa
open Go Go.Sx Go.Proofs
set_option linter.unusedVariables false
set_option linter.unusedSimpArgs false
set_option maxRecDepth 100000

set_option maxHeartbeats 8000000 in
theorem law3 : FnOk Try.prog 3 (sigSpec [I64, IntsK, I64, I64] [.bool] (fun _ => (true, ())) (Kds.wf [I64, IntsK, I64, I64])) := by
  refine fn_ofB (rs := [.tmp 8]) (env [(4, S4), (5, S5), (6, S6), (7, S7), (8, S8), (9, S9), (10, S10), (11, S11)]
    ⟨fn4, fn5, fn6, fn7, fn8, fn9, fn10, fn11, trivial⟩) Try.func3 (by kernel_rfl) rfl rfl Try.ntmps3 ?_
  rintro ⟨(n : Int), (nums : List Int), (what : Int), (which : Int), u2⟩ _ G hG hB hQ
  have hB := GB.of hB
  obtain ⟨hv, hn⟩ := madeR_ok n nums
  obtain ⟨⟨rc, rn, rl, ⟨⟩⟩, hr⟩ : ∃ r, madeR n nums = r := ⟨_, rfl⟩
  rw [hr] at hv hn
  have hlen := hv.len
  have hcap := hv.cap
  have hnx := hv.next
  simp only at hn hlen hcap hnx
  refine AM.runTo2 hG 39 200 (by cbv) (by (simp only [sxs, sxb, and_self, and_true, true_and, implies_true, imp_self, bne_eq_false_iff_eq, Nat.zero_add, Nat.le_refl, Int.toNat_natCast, Int.ofNat_lt, Int.natCast_nonneg, decide_eq_true_eq, decide_eq_false_iff_not, bne_iff_ne, ne_eq]; try dsimp only [Kd.T, Kds.T, AK.T, AKs.T])) ?_
  refine AM.imp2 (fr' := frame 208 [(2, .int .i64 (.t fun _ => what)), (3, .int .i64 (.t fun _ => which)), (9, .bool (.l true)), (10, .ptr 0 0)]) (h' := [.box 27 [.int .i64 (.t fun _ => rc), .int .u64 (.t fun _ => rn), .ro HeldK fun _ => rl]]) (by cbv) (by cbv) ?_ ?_ ?_
  · (simp only [sxs, sxb, and_self, and_true, true_and, implies_true, imp_self, bne_eq_false_iff_eq, Nat.zero_add, Nat.le_refl, Int.toNat_natCast, Int.ofNat_lt, Int.natCast_nonneg, decide_eq_true_eq, decide_eq_false_iff_not, bne_iff_ne, ne_eq]; try dsimp only [Kd.T, Kds.T, AK.T, AKs.T])
  · (simp only [sxs, sxb, and_self, and_true, true_and, implies_true, imp_self, bne_eq_false_iff_eq, Nat.zero_add, Nat.le_refl, Int.toNat_natCast, Int.ofNat_lt, Int.natCast_nonneg, decide_eq_true_eq, decide_eq_false_iff_not, bne_iff_ne, ne_eq]; try dsimp only [Kd.T, Kds.T, AK.T, AKs.T])
    rw [hr]
    exact ⟨rfl, rfl, rfl⟩
  refine AM.runTo2 hG 45 200 (by cbv) ?_ ?_
  · (simp only [sxs, sxb, and_self, and_true, true_and, implies_true, imp_self, bne_eq_false_iff_eq, Nat.zero_add, Nat.le_refl, Int.toNat_natCast, Int.ofNat_lt, Int.natCast_nonneg, decide_eq_true_eq, decide_eq_false_iff_not, bne_iff_ne, ne_eq]; try dsimp only [Kd.T, Kds.T, AK.T, AKs.T])
    omega
  refine AM.run2 hG 100 (by cbv) ?_ ?_
  · (simp only [sxs, sxb, and_self, and_true, true_and, implies_true, imp_self, bne_eq_false_iff_eq, Nat.zero_add, Nat.le_refl, Int.toNat_natCast, Int.ofNat_lt, Int.natCast_nonneg, decide_eq_true_eq, decide_eq_false_iff_not, bne_iff_ne, ne_eq]; try dsimp only [Kd.T, Kds.T, AK.T, AKs.T])
  refine AM.case 50 rfl (fun c => ?_) (fun c => ?_) <;> (simp only [sxs, sxb, and_self, and_true, true_and, implies_true, imp_self, bne_eq_false_iff_eq, Nat.zero_add, Nat.le_refl, Int.toNat_natCast, Int.ofNat_lt, Int.natCast_nonneg, decide_eq_true_eq, decide_eq_false_iff_not, bne_iff_ne, ne_eq] at c; try dsimp only [Kd.T, Kds.T, AK.T, AKs.T] at c)
  · have hp := hv.putF (w := what) c
    refine AM.run2 hG 100 (by cbv) ?_ ?_
    · (simp only [sxs, sxb, and_self, and_true, true_and, implies_true, imp_self, bne_eq_false_iff_eq, Nat.zero_add, Nat.le_refl, Int.toNat_natCast, Int.ofNat_lt, Int.natCast_nonneg, decide_eq_true_eq, decide_eq_false_iff_not, bne_iff_ne, ne_eq]; try dsimp only [Kd.T, Kds.T, AK.T, AKs.T])
    refine AM.ret2 hG (by cbv) (by (simp only [sxs, sxb, and_self, and_true, true_and, implies_true, imp_self, bne_eq_false_iff_eq, Nat.zero_add, Nat.le_refl, Int.toNat_natCast, Int.ofNat_lt, Int.natCast_nonneg, decide_eq_true_eq, decide_eq_false_iff_not, bne_iff_ne, ne_eq]; try dsimp only [Kd.T, Kds.T, AK.T, AKs.T])) (hQ _ _ (FinRo.of (by cbv) (by cbv) ?_ ?_))
    · (simp only [sxs, sxb, and_self, and_true, true_and, implies_true, imp_self, bne_eq_false_iff_eq, Nat.zero_add, Nat.le_refl, Int.toNat_natCast, Int.ofNat_lt, Int.natCast_nonneg, decide_eq_true_eq, decide_eq_false_iff_not, bne_iff_ne, ne_eq]; try dsimp only [Kd.T, Kds.T, AK.T, AKs.T])
    try (simp only [sxs, sxb, and_self, and_true, true_and, implies_true, imp_self, bne_eq_false_iff_eq, Nat.zero_add, Nat.le_refl, Int.toNat_natCast, Int.ofNat_lt, Int.natCast_nonneg, decide_eq_true_eq, decide_eq_false_iff_not, bne_iff_ne, ne_eq]; try dsimp only [Kd.T, Kds.T, AK.T, AKs.T])
    rw [hp]
  obtain ⟨hp, hv2⟩ := hv.putK (w := what) c (by simp only; omega)
  have hsl : (rl ++ [(rn, what, ())]).length = rl.length + 1 := by rw [List.length_append]; rfl
  have hlast : (rl ++ [(rn, what, ())]).getD rl.length zH = (rn, what, ()) := by rw [List.getD_eq_getElem?_getD, List.getElem?_append_right (Nat.le_refl _)]; simp
  have hfirst : ∀ i, i < rl.length → (rl ++ [(rn, what, ())]).getD i zH = rl.getD i zH := fun i hi => by rw [List.getD_eq_getElem?_getD, List.getElem?_append_left hi, List.getD_eq_getElem?_getD]
  have htake : (rl ++ [(rn, what, ())]).take rl.length = rl := by simp
  simp only at hp hv2
  obtain ⟨sl, qsl⟩ : ∃ sl, rl ++ [(rn, what, ())] = sl := ⟨_, rfl⟩
  rw [qsl] at hp hv2 hsl hlast htake
  refine AM.runTo2 hG 57 200 (by cbv) (by (simp only [sxs, sxb, and_self, and_true, true_and, implies_true, imp_self, bne_eq_false_iff_eq, Nat.zero_add, Nat.le_refl, Int.toNat_natCast, Int.ofNat_lt, Int.natCast_nonneg, decide_eq_true_eq, decide_eq_false_iff_not, bne_iff_ne, ne_eq]; try dsimp only [Kd.T, Kds.T, AK.T, AKs.T])) ?_
  refine AM.imp2 (fr' := frame 208 [(2, .int .i64 (.t fun _ => what)), (3, .int .i64 (.t fun _ => which)), (9, .bool (.l true)), (10, .ptr 0 0), (13, .ptr 1 0), (14, .int .u64 (.t fun _ => rn)), (15, .int .i64 (.l 0))]) (h' := [.box 27 [.int .i64 (.t fun _ => rc), .int .u64 (.t fun _ => rn), .ro HeldK fun _ => rl], .box 27 [.int .i64 (.t fun _ => rc), .int .u64 (.t fun _ => rn + 1), .ro HeldK fun _ => sl]]) (by cbv) (by cbv) ?_ ?_ ?_
  · (simp only [sxs, sxb, and_self, and_true, true_and, implies_true, imp_self, bne_eq_false_iff_eq, Nat.zero_add, Nat.le_refl, Int.toNat_natCast, Int.ofNat_lt, Int.natCast_nonneg, decide_eq_true_eq, decide_eq_false_iff_not, bne_iff_ne, ne_eq]; try dsimp only [Kd.T, Kds.T, AK.T, AKs.T])
    rw [hp]
    exact ⟨rfl, rfl⟩
  · (simp only [sxs, sxb, and_self, and_true, true_and, implies_true, imp_self, bne_eq_false_iff_eq, Nat.zero_add, Nat.le_refl, Int.toNat_natCast, Int.ofNat_lt, Int.natCast_nonneg, decide_eq_true_eq, decide_eq_false_iff_not, bne_iff_ne, ne_eq]; try dsimp only [Kd.T, Kds.T, AK.T, AKs.T])
    rw [hp]
    exact ⟨rfl, rfl, rfl⟩
  refine AM.runTo2 hG 17 200 (by cbv) ?_ ?_
  · (simp only [sxs, sxb, and_self, and_true, true_and, implies_true, imp_self, bne_eq_false_iff_eq, Nat.zero_add, Nat.le_refl, Int.toNat_natCast, Int.ofNat_lt, Int.natCast_nonneg, decide_eq_true_eq, decide_eq_false_iff_not, bne_iff_ne, ne_eq]; try dsimp only [Kd.T, Kds.T, AK.T, AKs.T])
    omega
  have hfl := hv2.find (i := rl.length) (by simp only; omega)
  simp only at hfl
  rw [hlast] at hfl
  refine AM.imp2 (fr' := frame 208 [(2, .int .i64 (.t fun _ => what)), (3, .int .i64 (.t fun _ => which)), (9, .bool (.l true)), (10, .ptr 0 0), (13, .ptr 1 0), (14, .int .u64 (.t fun _ => rn)), (15, .int .i64 (.l 0)), (16, .int .i64 (.t fun _ => nI rl.length)), (61, .int .i64 (.l 0))]) (h' := [.box 27 [.int .i64 (.t fun _ => rc), .int .u64 (.t fun _ => rn), .ro HeldK fun _ => rl], .box 27 [.int .i64 (.t fun _ => rc), .int .u64 (.t fun _ => rn + 1), .ro HeldK fun _ => sl]]) (by cbv) (by cbv) ?_ ?_ ?_
  · (simp only [sxs, sxb, and_self, and_true, true_and, implies_true, imp_self, bne_eq_false_iff_eq, Nat.zero_add, Nat.le_refl, Int.toNat_natCast, Int.ofNat_lt, Int.natCast_nonneg, decide_eq_true_eq, decide_eq_false_iff_not, bne_iff_ne, ne_eq]; try dsimp only [Kd.T, Kds.T, AK.T, AKs.T])
    rw [hfl]
    exact ⟨rfl, rfl⟩
  · (simp only [sxs, sxb, and_self, and_true, true_and, implies_true, imp_self, bne_eq_false_iff_eq, Nat.zero_add, Nat.le_refl, Int.toNat_natCast, Int.ofNat_lt, Int.natCast_nonneg, decide_eq_true_eq, decide_eq_false_iff_not, bne_iff_ne, ne_eq]; try dsimp only [Kd.T, Kds.T, AK.T, AKs.T])
  have hw1 : IntKind.i64.wrap ((rl.length : Int) + 1) = (sl.length : Int) := by rw [w64 (by omega) (by omega)]; omega
  refine AM.runU hG 20 (by cbv) (by (simp only [sxs, sxb, and_self, and_true, true_and, implies_true, imp_self, bne_eq_false_iff_eq, Nat.zero_add, Nat.le_refl, Int.toNat_natCast, Int.ofNat_lt, Int.natCast_nonneg, decide_eq_true_eq, decide_eq_false_iff_not, bne_iff_ne, ne_eq]; try dsimp only [Kd.T, Kds.T, AK.T, AKs.T])) ?_
  refine AM.imp2 (fr' := frame 208 [(2, .int .i64 (.t fun _ => what)), (3, .int .i64 (.t fun _ => which)), (9, .bool (.l true)), (10, .ptr 0 0), (13, .ptr 1 0), (14, .int .u64 (.t fun _ => rn)), (15, .int .i64 (.l 0)), (16, .int .i64 (.t fun _ => nI rl.length)), (17, .int .i64 (.l 0))]) (h' := [.box 27 [.int .i64 (.t fun _ => rc), .int .u64 (.t fun _ => rn), .ro HeldK fun _ => rl], .box 27 [.int .i64 (.t fun _ => rc), .int .u64 (.t fun _ => rn + 1), .ro HeldK fun _ => sl]]) (by cbv) (by cbv) ?_ ?_ (reg9 hG (by omega) hsl hlast htake ?_)
  · (simp only [sxs, sxb, and_self, and_true, true_and, implies_true, imp_self, bne_eq_false_iff_eq, Nat.zero_add, Nat.le_refl, Int.toNat_natCast, Int.ofNat_lt, Int.natCast_nonneg, decide_eq_true_eq, decide_eq_false_iff_not, bne_iff_ne, ne_eq]; try dsimp only [Kd.T, Kds.T, AK.T, AKs.T])
  · (simp only [sxs, sxb, and_self, and_true, true_and, implies_true, imp_self, bne_eq_false_iff_eq, Nat.zero_add, Nat.le_refl, Int.toNat_natCast, Int.ofNat_lt, Int.natCast_nonneg, decide_eq_true_eq, decide_eq_false_iff_not, bne_iff_ne, ne_eq]; try dsimp only [Kd.T, Kds.T, AK.T, AKs.T])
  refine AM.runTo2 hG 18 200 (by cbv) ?_ ?_
  · (simp only [sxs, sxb, and_self, and_true, true_and, implies_true, imp_self, bne_eq_false_iff_eq, Nat.zero_add, Nat.le_refl, Int.toNat_natCast, Int.ofNat_lt, Int.natCast_nonneg, decide_eq_true_eq, decide_eq_false_iff_not, bne_iff_ne, ne_eq]; try dsimp only [Kd.T, Kds.T, AK.T, AKs.T])
    omega
  have hk := modS_in which (show (0 : Int) < (sl.length : Int) by omega)
  obtain ⟨k, hkk⟩ : ∃ k : Nat, modS which (sl.length : Int) = (k : Int) := ⟨(modS which (sl.length : Int)).toNat, by omega⟩
  rw [hkk] at hk
  have hks : k < sl.length := by omega
  refine AM.imp2 (fr' := frame 208 [(2, .int .i64 (.t fun _ => what)), (3, .int .i64 (.t fun _ => which)), (9, .bool (.l true)), (10, .ptr 0 0), (13, .ptr 1 0), (110, .int .i64 (.t fun _ => nI k))]) (h' := [.box 27 [.int .i64 (.t fun _ => rc), .int .u64 (.t fun _ => rn), .ro HeldK fun _ => rl], .box 27 [.int .i64 (.t fun _ => rc), .int .u64 (.t fun _ => rn + 1), .ro HeldK fun _ => sl]]) (by cbv) (by cbv) ?_ ?_ ?_
  · (simp only [sxs, sxb, and_self, and_true, true_and, implies_true, imp_self, bne_eq_false_iff_eq, Nat.zero_add, Nat.le_refl, Int.toNat_natCast, Int.ofNat_lt, Int.natCast_nonneg, decide_eq_true_eq, decide_eq_false_iff_not, bne_iff_ne, ne_eq]; try dsimp only [Kd.T, Kds.T, AK.T, AKs.T])
    exact hkk
  · (simp only [sxs, sxb, and_self, and_true, true_and, implies_true, imp_self, bne_eq_false_iff_eq, Nat.zero_add, Nat.le_refl, Int.toNat_natCast, Int.ofNat_lt, Int.natCast_nonneg, decide_eq_true_eq, decide_eq_false_iff_not, bne_iff_ne, ne_eq]; try dsimp only [Kd.T, Kds.T, AK.T, AKs.T])
  refine AM.runU hG 20 (by cbv) (by (simp only [sxs, sxb, and_self, and_true, true_and, implies_true, imp_self, bne_eq_false_iff_eq, Nat.zero_add, Nat.le_refl, Int.toNat_natCast, Int.ofNat_lt, Int.natCast_nonneg, decide_eq_true_eq, decide_eq_false_iff_not, bne_iff_ne, ne_eq]; try dsimp only [Kd.T, Kds.T, AK.T, AKs.T])) ?_
  refine AM.drawP hG [] (by cbv) (by kernel_rfl) ?_ ?_
  · (simp only [sxs, sxb, and_self, and_true, true_and, implies_true, imp_self, bne_eq_false_iff_eq, Nat.zero_add, Nat.le_refl, Int.toNat_natCast, Int.ofNat_lt, Int.natCast_nonneg, decide_eq_true_eq, decide_eq_false_iff_not, bne_iff_ne, ne_eq]; try dsimp only [Kd.T, Kds.T, AK.T, AKs.T])
    exact ⟨hks, hks, by omega⟩
  refine AM.runTo2 hG 122 200 (by cbv) (by (simp only [sxs, sxb, and_self, and_true, true_and, implies_true, imp_self, bne_eq_false_iff_eq, Nat.zero_add, Nat.le_refl, Int.toNat_natCast, Int.ofNat_lt, Int.natCast_nonneg, decide_eq_true_eq, decide_eq_false_iff_not, bne_iff_ne, ne_eq]; try dsimp only [Kd.T, Kds.T, AK.T, AKs.T])) ?_
  obtain ⟨⟨y, w, ⟨⟩⟩, hy⟩ : ∃ y, sl.getD k zH = y := ⟨_, rfl⟩
  have hyn := hv2.nums _ (getH_mem hks)
  simp only at hyn
  rw [hy] at hyn
  simp only at hyn
  have hag := hv2.age hks
  simp only at hag
  rw [hy] at hag
  simp only at hag
  have hdr := hv2.drop hks
  have hgn := hv2.gone hks
  simp only at hdr hgn
  rw [hy] at hdr hgn
  simp only at hdr hgn
  have htl : (sl.take k ++ sl.drop (k + 1)).length ≤ 1000 := by
    rw [List.length_append, List.length_take, List.length_drop]
    omega
  obtain ⟨tl, qtl⟩ : ∃ tl, sl.take k ++ sl.drop (k + 1) = tl := ⟨_, rfl⟩
  rw [qtl] at hdr hgn htl
  refine AM.imp2 (fr' := frame 208 [(2, .int .i64 (.t fun _ => what)), (3, .int .i64 (.t fun _ => which)), (9, .bool (.l true)), (10, .ptr 0 0), (13, .ptr 1 0), (18, .int .i64 (.t fun _ => nI k)), (19, .int .u64 (.t fun _ => rn - y)), (20, .int .i64 (.l 0))]) (h' := [.box 27 [.int .i64 (.t fun _ => rc), .int .u64 (.t fun _ => rn), .ro HeldK fun _ => rl], .box 27 [.int .i64 (.t fun _ => rc), .int .u64 (.t fun _ => rn + 1), .ro HeldK fun _ => sl]]) (by cbv) (by cbv) ?_ ?_ ?_
  · (simp only [sxs, sxb, and_self, and_true, true_and, implies_true, imp_self, bne_eq_false_iff_eq, Nat.zero_add, Nat.le_refl, Int.toNat_natCast, Int.ofNat_lt, Int.natCast_nonneg, decide_eq_true_eq, decide_eq_false_iff_not, bne_iff_ne, ne_eq]; try dsimp only [Kd.T, Kds.T, AK.T, AKs.T])
    rw [show sl.getD k (0, 0, ()) = (y, w, ()) from hy]
    simp only
    rw [hag]
    exact ⟨by simp only; omega, rfl⟩
  · (simp only [sxs, sxb, and_self, and_true, true_and, implies_true, imp_self, bne_eq_false_iff_eq, Nat.zero_add, Nat.le_refl, Int.toNat_natCast, Int.ofNat_lt, Int.natCast_nonneg, decide_eq_true_eq, decide_eq_false_iff_not, bne_iff_ne, ne_eq]; try dsimp only [Kd.T, Kds.T, AK.T, AKs.T])
  refine AM.run2 hG 200 (by cbv) ?_ ?_
  · (simp only [sxs, sxb, and_self, and_true, true_and, implies_true, imp_self, bne_eq_false_iff_eq, Nat.zero_add, Nat.le_refl, Int.toNat_natCast, Int.ofNat_lt, Int.natCast_nonneg, decide_eq_true_eq, decide_eq_false_iff_not, bne_iff_ne, ne_eq]; try dsimp only [Kd.T, Kds.T, AK.T, AKs.T])
  refine AM.case 126 rfl (fun h => ?_) (fun h => ?_) <;> (simp only [sxs, sxb, and_self, and_true, true_and, implies_true, imp_self, bne_eq_false_iff_eq, Nat.zero_add, Nat.le_refl, Int.toNat_natCast, Int.ofNat_lt, Int.natCast_nonneg, decide_eq_true_eq, decide_eq_false_iff_not, bne_iff_ne, ne_eq] at h; try dsimp only [Kd.T, Kds.T, AK.T, AKs.T] at h)
  · refine AM.runU hG 20 (by cbv) (by (simp only [sxs, sxb, and_self, and_true, true_and, implies_true, imp_self, bne_eq_false_iff_eq, Nat.zero_add, Nat.le_refl, Int.toNat_natCast, Int.ofNat_lt, Int.natCast_nonneg, decide_eq_true_eq, decide_eq_false_iff_not, bne_iff_ne, ne_eq]; try dsimp only [Kd.T, Kds.T, AK.T, AKs.T])) ?_
    refine AM.drawP hG [] (by cbv) (by kernel_rfl) ?_ ?_
    · (simp only [sxs, sxb, and_self, and_true, true_and, implies_true, imp_self, bne_eq_false_iff_eq, Nat.zero_add, Nat.le_refl, Int.toNat_natCast, Int.ofNat_lt, Int.natCast_nonneg, decide_eq_true_eq, decide_eq_false_iff_not, bne_iff_ne, ne_eq]; try dsimp only [Kd.T, Kds.T, AK.T, AKs.T])
      exact ⟨h, h, by omega⟩
    refine AM.runTo2 hG 138 200 (by cbv) (by (simp only [sxs, sxb, and_self, and_true, true_and, implies_true, imp_self, bne_eq_false_iff_eq, Nat.zero_add, Nat.le_refl, Int.toNat_natCast, Int.ofNat_lt, Int.natCast_nonneg, decide_eq_true_eq, decide_eq_false_iff_not, bne_iff_ne, ne_eq]; try dsimp only [Kd.T, Kds.T, AK.T, AKs.T])) ?_
    have hry : rl.getD k zH = (y, w, ()) := by rw [← hfirst k h, qsl, hy]
    have hag2 := hv.age h
    simp only at hag2
    rw [hry] at hag2
    simp only at hag2
    refine AM.imp2 (fr' := frame 208 [(2, .int .i64 (.t fun _ => what)), (3, .int .i64 (.t fun _ => which)), (9, .bool (.l true)), (10, .ptr 0 0), (13, .ptr 1 0), (18, .int .i64 (.t fun _ => nI k)), (19, .int .u64 (.t fun _ => rn - y)), (20, .int .i64 (.l 0)), (21, .int .u64 (.t fun _ => rn - 1 - y)), (22, .int .i64 (.l 0))]) (h' := [.box 27 [.int .i64 (.t fun _ => rc), .int .u64 (.t fun _ => rn), .ro HeldK fun _ => rl], .box 27 [.int .i64 (.t fun _ => rc), .int .u64 (.t fun _ => rn + 1), .ro HeldK fun _ => sl]]) (by cbv) (by cbv) ?_ ?_ ?_
    · (simp only [sxs, sxb, and_self, and_true, true_and, implies_true, imp_self, bne_eq_false_iff_eq, Nat.zero_add, Nat.le_refl, Int.toNat_natCast, Int.ofNat_lt, Int.natCast_nonneg, decide_eq_true_eq, decide_eq_false_iff_not, bne_iff_ne, ne_eq]; try dsimp only [Kd.T, Kds.T, AK.T, AKs.T])
      rw [show rl.getD k (0, 0, ()) = (y, w, ()) from hry]
      simp only
      rw [hag2]
      exact ⟨rfl, rfl⟩
    · (simp only [sxs, sxb, and_self, and_true, true_and, implies_true, imp_self, bne_eq_false_iff_eq, Nat.zero_add, Nat.le_refl, Int.toNat_natCast, Int.ofNat_lt, Int.natCast_nonneg, decide_eq_true_eq, decide_eq_false_iff_not, bne_iff_ne, ne_eq]; try dsimp only [Kd.T, Kds.T, AK.T, AKs.T])
    refine AM.run2 hG 200 (by cbv) ?_ ?_
    · (simp only [sxs, sxb, and_self, and_true, true_and, implies_true, imp_self, bne_eq_false_iff_eq, Nat.zero_add, Nat.le_refl, Int.toNat_natCast, Int.ofNat_lt, Int.natCast_nonneg, decide_eq_true_eq, decide_eq_false_iff_not, bne_iff_ne, ne_eq]; try dsimp only [Kd.T, Kds.T, AK.T, AKs.T])
    refine AM.sure 145 false rfl (by
      (simp only [sxs, sxb, and_self, and_true, true_and, implies_true, imp_self, bne_eq_false_iff_eq, Nat.zero_add, Nat.le_refl, Int.toNat_natCast, Int.ofNat_lt, Int.natCast_nonneg, decide_eq_true_eq, decide_eq_false_iff_not, bne_iff_ne, ne_eq]; try dsimp only [Kd.T, Kds.T, AK.T, AKs.T])
      show rn - y = (rn - 1 - y + 1) % 18446744073709551616
      omega) ?_
    refine AM.imp2 (fr' := frame 208 [(2, .int .i64 (.t fun _ => what)), (3, .int .i64 (.t fun _ => which)), (9, .bool (.l true)), (10, .ptr 0 0), (13, .ptr 1 0), (18, .int .i64 (.t fun _ => nI k)), (20, .int .i64 (.l 0)), (145, .bool (.l false))]) (h' := [.box 27 [.int .i64 (.t fun _ => rc), .int .u64 (.t fun _ => rn), .ro HeldK fun _ => rl], .box 27 [.int .i64 (.t fun _ => rc), .int .u64 (.t fun _ => rn + 1), .ro HeldK fun _ => sl]]) (by cbv) (by cbv) ?_ ?_ ?_
    · (simp only [sxs, sxb, and_self, and_true, true_and, implies_true, imp_self, bne_eq_false_iff_eq, Nat.zero_add, Nat.le_refl, Int.toNat_natCast, Int.ofNat_lt, Int.natCast_nonneg, decide_eq_true_eq, decide_eq_false_iff_not, bne_iff_ne, ne_eq]; try dsimp only [Kd.T, Kds.T, AK.T, AKs.T])
    · (simp only [sxs, sxb, and_self, and_true, true_and, implies_true, imp_self, bne_eq_false_iff_eq, Nat.zero_add, Nat.le_refl, Int.toNat_natCast, Int.ofNat_lt, Int.natCast_nonneg, decide_eq_true_eq, decide_eq_false_iff_not, bne_iff_ne, ne_eq]; try dsimp only [Kd.T, Kds.T, AK.T, AKs.T])
    refine AM.runU hG 20 (by cbv) (by (simp only [sxs, sxb, and_self, and_true, true_and, implies_true, imp_self, bne_eq_false_iff_eq, Nat.zero_add, Nat.le_refl, Int.toNat_natCast, Int.ofNat_lt, Int.natCast_nonneg, decide_eq_true_eq, decide_eq_false_iff_not, bne_iff_ne, ne_eq]; try dsimp only [Kd.T, Kds.T, AK.T, AKs.T])) ?_
    refine AM.drawP hG [] (by cbv) (by kernel_rfl) ?_ ?_
    · (simp only [sxs, sxb, and_self, and_true, true_and, implies_true, imp_self, bne_eq_false_iff_eq, Nat.zero_add, Nat.le_refl, Int.toNat_natCast, Int.ofNat_lt, Int.natCast_nonneg, decide_eq_true_eq, decide_eq_false_iff_not, bne_iff_ne, ne_eq]; try dsimp only [Kd.T, Kds.T, AK.T, AKs.T])
      exact ⟨hks, hks, by omega⟩
    refine AM.imp2 (fr' := frame 208 [(9, .bool (.l true)), (13, .ptr 1 0), (18, .int .i64 (.t fun _ => nI k)), (20, .int .i64 (.l 0)), (23, .ptr 2 0), (24, .ptr 3 0), (25, .int .i64 (.l 0))]) (h' := [.box 27 [.int .i64 (.t fun _ => rc), .int .u64 (.t fun _ => rn), .ro HeldK fun _ => rl], .box 27 [.int .i64 (.t fun _ => rc), .int .u64 (.t fun _ => rn + 1), .ro HeldK fun _ => sl], .box 27 [.int .i64 (.t fun _ => rc), .int .u64 (.t fun _ => rn + 1), .ro HeldK fun _ => tl], .box 38 [.int .u64 (.t fun _ => y), .int .i64 (.t fun _ => w)]]) (by cbv) (by cbv) ?_ ?_ ?_
    · (simp only [sxs, sxb, and_self, and_true, true_and, implies_true, imp_self, bne_eq_false_iff_eq, Nat.zero_add, Nat.le_refl, Int.toNat_natCast, Int.ofNat_lt, Int.natCast_nonneg, decide_eq_true_eq, decide_eq_false_iff_not, bne_iff_ne, ne_eq]; try dsimp only [Kd.T, Kds.T, AK.T, AKs.T])
      rw [show sl.getD k (0, 0, ()) = (y, w, ()) from hy]
      simp only
      rw [hdr]
    · (simp only [sxs, sxb, and_self, and_true, true_and, implies_true, imp_self, bne_eq_false_iff_eq, Nat.zero_add, Nat.le_refl, Int.toNat_natCast, Int.ofNat_lt, Int.natCast_nonneg, decide_eq_true_eq, decide_eq_false_iff_not, bne_iff_ne, ne_eq]; try dsimp only [Kd.T, Kds.T, AK.T, AKs.T])
      rw [show sl.getD k (0, 0, ()) = (y, w, ()) from hy]
      simp only
      rw [hdr]
      exact ⟨⟨rfl, rfl, rfl⟩, rfl, rfl⟩
    refine AM.runU hG 20 (by cbv) (by (simp only [sxs, sxb, and_self, and_true, true_and, implies_true, imp_self, bne_eq_false_iff_eq, Nat.zero_add, Nat.le_refl, Int.toNat_natCast, Int.ofNat_lt, Int.natCast_nonneg, decide_eq_true_eq, decide_eq_false_iff_not, bne_iff_ne, ne_eq]; try dsimp only [Kd.T, Kds.T, AK.T, AKs.T])) ?_
    refine AM.drawP hG [] (by cbv) (by kernel_rfl) ?_ ?_
    · (simp only [sxs, sxb, and_self, and_true, true_and, implies_true, imp_self, bne_eq_false_iff_eq, Nat.zero_add, Nat.le_refl, Int.toNat_natCast, Int.ofNat_lt, Int.natCast_nonneg, decide_eq_true_eq, decide_eq_false_iff_not, bne_iff_ne, ne_eq]; try dsimp only [Kd.T, Kds.T, AK.T, AKs.T])
      exact ⟨hks, hks, by omega⟩
    refine AM.imp2 (fr' := frame 208 [(9, .bool (.l true)), (13, .ptr 1 0), (18, .int .i64 (.t fun _ => nI k)), (20, .int .i64 (.l 0)), (23, .ptr 2 0), (24, .ptr 3 0), (25, .int .i64 (.l 0)), (27, .int .i64 (.l 6))]) (h' := [.box 27 [.int .i64 (.t fun _ => rc), .int .u64 (.t fun _ => rn), .ro HeldK fun _ => rl], .box 27 [.int .i64 (.t fun _ => rc), .int .u64 (.t fun _ => rn + 1), .ro HeldK fun _ => sl], .box 27 [.int .i64 (.t fun _ => rc), .int .u64 (.t fun _ => rn + 1), .ro HeldK fun _ => tl], .box 38 [.int .u64 (.t fun _ => y), .int .i64 (.t fun _ => w)]]) (by cbv) (by cbv) ?_ ?_ ?_
    · (simp only [sxs, sxb, and_self, and_true, true_and, implies_true, imp_self, bne_eq_false_iff_eq, Nat.zero_add, Nat.le_refl, Int.toNat_natCast, Int.ofNat_lt, Int.natCast_nonneg, decide_eq_true_eq, decide_eq_false_iff_not, bne_iff_ne, ne_eq]; try dsimp only [Kd.T, Kds.T, AK.T, AKs.T])
      rw [show sl.getD k (0, 0, ()) = (y, w, ()) from hy]
      simp only
      rw [hgn]
    · (simp only [sxs, sxb, and_self, and_true, true_and, implies_true, imp_self, bne_eq_false_iff_eq, Nat.zero_add, Nat.le_refl, Int.toNat_natCast, Int.ofNat_lt, Int.natCast_nonneg, decide_eq_true_eq, decide_eq_false_iff_not, bne_iff_ne, ne_eq]; try dsimp only [Kd.T, Kds.T, AK.T, AKs.T])
    refine AM.runU hG 20 (by cbv) (by (simp only [sxs, sxb, and_self, and_true, true_and, implies_true, imp_self, bne_eq_false_iff_eq, Nat.zero_add, Nat.le_refl, Int.toNat_natCast, Int.ofNat_lt, Int.natCast_nonneg, decide_eq_true_eq, decide_eq_false_iff_not, bne_iff_ne, ne_eq]; try dsimp only [Kd.T, Kds.T, AK.T, AKs.T])) ?_
    refine AM.imp2 (fr' := frame 208 [(9, .bool (.l true)), (13, .ptr 1 0), (18, .int .i64 (.t fun _ => nI k)), (20, .int .i64 (.l 0)), (23, .ptr 2 0), (24, .ptr 3 0), (25, .int .i64 (.l 0)), (27, .int .i64 (.l 6))]) (h' := [.box 27 [.int .i64 (.t fun _ => rc), .int .u64 (.t fun _ => rn), .ro HeldK fun _ => rl], .box 27 [.int .i64 (.t fun _ => rc), .int .u64 (.t fun _ => rn + 1), .ro HeldK fun _ => sl], .box 27 [.int .i64 (.t fun _ => rc), .int .u64 (.t fun _ => rn + 1), .ro HeldK fun _ => tl], .box 38 [.int .u64 (.t fun _ => y), .int .i64 (.t fun _ => w)]]) (by cbv) (by cbv) ?_ ?_ (reg19 hG (by omega) hks hy qtl htl ?_)
    · (simp only [sxs, sxb, and_self, and_true, true_and, implies_true, imp_self, bne_eq_false_iff_eq, Nat.zero_add, Nat.le_refl, Int.toNat_natCast, Int.ofNat_lt, Int.natCast_nonneg, decide_eq_true_eq, decide_eq_false_iff_not, bne_iff_ne, ne_eq]; try dsimp only [Kd.T, Kds.T, AK.T, AKs.T])
    · (simp only [sxs, sxb, and_self, and_true, true_and, implies_true, imp_self, bne_eq_false_iff_eq, Nat.zero_add, Nat.le_refl, Int.toNat_natCast, Int.ofNat_lt, Int.natCast_nonneg, decide_eq_true_eq, decide_eq_false_iff_not, bne_iff_ne, ne_eq]; try dsimp only [Kd.T, Kds.T, AK.T, AKs.T])
    refine AM.run2 hG 100 (by cbv) ?_ ?_
    · (simp only [sxs, sxb, and_self, and_true, true_and, implies_true, imp_self, bne_eq_false_iff_eq, Nat.zero_add, Nat.le_refl, Int.toNat_natCast, Int.ofNat_lt, Int.natCast_nonneg, decide_eq_true_eq, decide_eq_false_iff_not, bne_iff_ne, ne_eq]; try dsimp only [Kd.T, Kds.T, AK.T, AKs.T])
    refine AM.ret2 hG (by cbv) (by (simp only [sxs, sxb, and_self, and_true, true_and, implies_true, imp_self, bne_eq_false_iff_eq, Nat.zero_add, Nat.le_refl, Int.toNat_natCast, Int.ofNat_lt, Int.natCast_nonneg, decide_eq_true_eq, decide_eq_false_iff_not, bne_iff_ne, ne_eq]; try dsimp only [Kd.T, Kds.T, AK.T, AKs.T])) (hQ _ _ (FinRo.of (by cbv) (by cbv) ?_ ?_))
    · (simp only [sxs, sxb, and_self, and_true, true_and, implies_true, imp_self, bne_eq_false_iff_eq, Nat.zero_add, Nat.le_refl, Int.toNat_natCast, Int.ofNat_lt, Int.natCast_nonneg, decide_eq_true_eq, decide_eq_false_iff_not, bne_iff_ne, ne_eq]; try dsimp only [Kd.T, Kds.T, AK.T, AKs.T])
    try (simp only [sxs, sxb, and_self, and_true, true_and, implies_true, imp_self, bne_eq_false_iff_eq, Nat.zero_add, Nat.le_refl, Int.toNat_natCast, Int.ofNat_lt, Int.natCast_nonneg, decide_eq_true_eq, decide_eq_false_iff_not, bne_iff_ne, ne_eq]; try dsimp only [Kd.T, Kds.T, AK.T, AKs.T])
  · refine AM.imp2 (fr' := frame 208 [(2, .int .i64 (.t fun _ => what)), (3, .int .i64 (.t fun _ => which)), (9, .bool (.l true)), (10, .ptr 0 0), (13, .ptr 1 0), (18, .int .i64 (.t fun _ => nI k)), (20, .int .i64 (.l 0)), (126, .bool (.l false))]) (h' := [.box 27 [.int .i64 (.t fun _ => rc), .int .u64 (.t fun _ => rn), .ro HeldK fun _ => rl], .box 27 [.int .i64 (.t fun _ => rc), .int .u64 (.t fun _ => rn + 1), .ro HeldK fun _ => sl]]) (by cbv) (by cbv) ?_ ?_ ?_
    · (simp only [sxs, sxb, and_self, and_true, true_and, implies_true, imp_self, bne_eq_false_iff_eq, Nat.zero_add, Nat.le_refl, Int.toNat_natCast, Int.ofNat_lt, Int.natCast_nonneg, decide_eq_true_eq, decide_eq_false_iff_not, bne_iff_ne, ne_eq]; try dsimp only [Kd.T, Kds.T, AK.T, AKs.T])
    · (simp only [sxs, sxb, and_self, and_true, true_and, implies_true, imp_self, bne_eq_false_iff_eq, Nat.zero_add, Nat.le_refl, Int.toNat_natCast, Int.ofNat_lt, Int.natCast_nonneg, decide_eq_true_eq, decide_eq_false_iff_not, bne_iff_ne, ne_eq]; try dsimp only [Kd.T, Kds.T, AK.T, AKs.T])
    refine AM.runU hG 20 (by cbv) (by (simp only [sxs, sxb, and_self, and_true, true_and, implies_true, imp_self, bne_eq_false_iff_eq, Nat.zero_add, Nat.le_refl, Int.toNat_natCast, Int.ofNat_lt, Int.natCast_nonneg, decide_eq_true_eq, decide_eq_false_iff_not, bne_iff_ne, ne_eq]; try dsimp only [Kd.T, Kds.T, AK.T, AKs.T])) ?_
    refine AM.drawP hG [] (by cbv) (by kernel_rfl) ?_ ?_
    · (simp only [sxs, sxb, and_self, and_true, true_and, implies_true, imp_self, bne_eq_false_iff_eq, Nat.zero_add, Nat.le_refl, Int.toNat_natCast, Int.ofNat_lt, Int.natCast_nonneg, decide_eq_true_eq, decide_eq_false_iff_not, bne_iff_ne, ne_eq]; try dsimp only [Kd.T, Kds.T, AK.T, AKs.T])
      exact ⟨hks, hks, by omega⟩
    refine AM.imp2 (fr' := frame 208 [(9, .bool (.l true)), (13, .ptr 1 0), (18, .int .i64 (.t fun _ => nI k)), (20, .int .i64 (.l 0)), (23, .ptr 2 0), (24, .ptr 3 0), (25, .int .i64 (.l 0))]) (h' := [.box 27 [.int .i64 (.t fun _ => rc), .int .u64 (.t fun _ => rn), .ro HeldK fun _ => rl], .box 27 [.int .i64 (.t fun _ => rc), .int .u64 (.t fun _ => rn + 1), .ro HeldK fun _ => sl], .box 27 [.int .i64 (.t fun _ => rc), .int .u64 (.t fun _ => rn + 1), .ro HeldK fun _ => tl], .box 38 [.int .u64 (.t fun _ => y), .int .i64 (.t fun _ => w)]]) (by cbv) (by cbv) ?_ ?_ ?_
    · (simp only [sxs, sxb, and_self, and_true, true_and, implies_true, imp_self, bne_eq_false_iff_eq, Nat.zero_add, Nat.le_refl, Int.toNat_natCast, Int.ofNat_lt, Int.natCast_nonneg, decide_eq_true_eq, decide_eq_false_iff_not, bne_iff_ne, ne_eq]; try dsimp only [Kd.T, Kds.T, AK.T, AKs.T])
      rw [show sl.getD k (0, 0, ()) = (y, w, ()) from hy]
      simp only
      rw [hdr]
    · (simp only [sxs, sxb, and_self, and_true, true_and, implies_true, imp_self, bne_eq_false_iff_eq, Nat.zero_add, Nat.le_refl, Int.toNat_natCast, Int.ofNat_lt, Int.natCast_nonneg, decide_eq_true_eq, decide_eq_false_iff_not, bne_iff_ne, ne_eq]; try dsimp only [Kd.T, Kds.T, AK.T, AKs.T])
      rw [show sl.getD k (0, 0, ()) = (y, w, ()) from hy]
      simp only
      rw [hdr]
      exact ⟨⟨rfl, rfl, rfl⟩, rfl, rfl⟩
    refine AM.runU hG 20 (by cbv) (by (simp only [sxs, sxb, and_self, and_true, true_and, implies_true, imp_self, bne_eq_false_iff_eq, Nat.zero_add, Nat.le_refl, Int.toNat_natCast, Int.ofNat_lt, Int.natCast_nonneg, decide_eq_true_eq, decide_eq_false_iff_not, bne_iff_ne, ne_eq]; try dsimp only [Kd.T, Kds.T, AK.T, AKs.T])) ?_
    refine AM.drawP hG [] (by cbv) (by kernel_rfl) ?_ ?_
    · (simp only [sxs, sxb, and_self, and_true, true_and, implies_true, imp_self, bne_eq_false_iff_eq, Nat.zero_add, Nat.le_refl, Int.toNat_natCast, Int.ofNat_lt, Int.natCast_nonneg, decide_eq_true_eq, decide_eq_false_iff_not, bne_iff_ne, ne_eq]; try dsimp only [Kd.T, Kds.T, AK.T, AKs.T])
      exact ⟨hks, hks, by omega⟩
    refine AM.imp2 (fr' := frame 208 [(9, .bool (.l true)), (13, .ptr 1 0), (18, .int .i64 (.t fun _ => nI k)), (20, .int .i64 (.l 0)), (23, .ptr 2 0), (24, .ptr 3 0), (25, .int .i64 (.l 0)), (27, .int .i64 (.l 6))]) (h' := [.box 27 [.int .i64 (.t fun _ => rc), .int .u64 (.t fun _ => rn), .ro HeldK fun _ => rl], .box 27 [.int .i64 (.t fun _ => rc), .int .u64 (.t fun _ => rn + 1), .ro HeldK fun _ => sl], .box 27 [.int .i64 (.t fun _ => rc), .int .u64 (.t fun _ => rn + 1), .ro HeldK fun _ => tl], .box 38 [.int .u64 (.t fun _ => y), .int .i64 (.t fun _ => w)]]) (by cbv) (by cbv) ?_ ?_ ?_
    · (simp only [sxs, sxb, and_self, and_true, true_and, implies_true, imp_self, bne_eq_false_iff_eq, Nat.zero_add, Nat.le_refl, Int.toNat_natCast, Int.ofNat_lt, Int.natCast_nonneg, decide_eq_true_eq, decide_eq_false_iff_not, bne_iff_ne, ne_eq]; try dsimp only [Kd.T, Kds.T, AK.T, AKs.T])
      rw [show sl.getD k (0, 0, ()) = (y, w, ()) from hy]
      simp only
      rw [hgn]
    · (simp only [sxs, sxb, and_self, and_true, true_and, implies_true, imp_self, bne_eq_false_iff_eq, Nat.zero_add, Nat.le_refl, Int.toNat_natCast, Int.ofNat_lt, Int.natCast_nonneg, decide_eq_true_eq, decide_eq_false_iff_not, bne_iff_ne, ne_eq]; try dsimp only [Kd.T, Kds.T, AK.T, AKs.T])
    refine AM.runU hG 20 (by cbv) (by (simp only [sxs, sxb, and_self, and_true, true_and, implies_true, imp_self, bne_eq_false_iff_eq, Nat.zero_add, Nat.le_refl, Int.toNat_natCast, Int.ofNat_lt, Int.natCast_nonneg, decide_eq_true_eq, decide_eq_false_iff_not, bne_iff_ne, ne_eq]; try dsimp only [Kd.T, Kds.T, AK.T, AKs.T])) ?_
    refine AM.imp2 (fr' := frame 208 [(9, .bool (.l true)), (13, .ptr 1 0), (18, .int .i64 (.t fun _ => nI k)), (20, .int .i64 (.l 0)), (23, .ptr 2 0), (24, .ptr 3 0), (25, .int .i64 (.l 0)), (27, .int .i64 (.l 6))]) (h' := [.box 27 [.int .i64 (.t fun _ => rc), .int .u64 (.t fun _ => rn), .ro HeldK fun _ => rl], .box 27 [.int .i64 (.t fun _ => rc), .int .u64 (.t fun _ => rn + 1), .ro HeldK fun _ => sl], .box 27 [.int .i64 (.t fun _ => rc), .int .u64 (.t fun _ => rn + 1), .ro HeldK fun _ => tl], .box 38 [.int .u64 (.t fun _ => y), .int .i64 (.t fun _ => w)]]) (by cbv) (by cbv) ?_ ?_ (reg19 hG (by omega) hks hy qtl htl ?_)
    · (simp only [sxs, sxb, and_self, and_true, true_and, implies_true, imp_self, bne_eq_false_iff_eq, Nat.zero_add, Nat.le_refl, Int.toNat_natCast, Int.ofNat_lt, Int.natCast_nonneg, decide_eq_true_eq, decide_eq_false_iff_not, bne_iff_ne, ne_eq]; try dsimp only [Kd.T, Kds.T, AK.T, AKs.T])
    · (simp only [sxs, sxb, and_self, and_true, true_and, implies_true, imp_self, bne_eq_false_iff_eq, Nat.zero_add, Nat.le_refl, Int.toNat_natCast, Int.ofNat_lt, Int.natCast_nonneg, decide_eq_true_eq, decide_eq_false_iff_not, bne_iff_ne, ne_eq]; try dsimp only [Kd.T, Kds.T, AK.T, AKs.T])
    refine AM.run2 hG 100 (by cbv) ?_ ?_
    · (simp only [sxs, sxb, and_self, and_true, true_and, implies_true, imp_self, bne_eq_false_iff_eq, Nat.zero_add, Nat.le_refl, Int.toNat_natCast, Int.ofNat_lt, Int.natCast_nonneg, decide_eq_true_eq, decide_eq_false_iff_not, bne_iff_ne, ne_eq]; try dsimp only [Kd.T, Kds.T, AK.T, AKs.T])
    refine AM.ret2 hG (by cbv) (by (simp only [sxs, sxb, and_self, and_true, true_and, implies_true, imp_self, bne_eq_false_iff_eq, Nat.zero_add, Nat.le_refl, Int.toNat_natCast, Int.ofNat_lt, Int.natCast_nonneg, decide_eq_true_eq, decide_eq_false_iff_not, bne_iff_ne, ne_eq]; try dsimp only [Kd.T, Kds.T, AK.T, AKs.T])) (hQ _ _ (FinRo.of (by cbv) (by cbv) ?_ ?_))
    · (simp only [sxs, sxb, and_self, and_true, true_and, implies_true, imp_self, bne_eq_false_iff_eq, Nat.zero_add, Nat.le_refl, Int.toNat_natCast, Int.ofNat_lt, Int.natCast_nonneg, decide_eq_true_eq, decide_eq_false_iff_not, bne_iff_ne, ne_eq]; try dsimp only [Kd.T, Kds.T, AK.T, AKs.T])
    try (simp only [sxs, sxb, and_self, and_true, true_and, implies_true, imp_self, bne_eq_false_iff_eq, Nat.zero_add, Nat.le_refl, Int.toNat_natCast, Int.ofNat_lt, Int.natCast_nonneg, decide_eq_true_eq, decide_eq_false_iff_not, bne_iff_ne, ne_eq]; try dsimp only [Kd.T, Kds.T, AK.T, AKs.T])
end Go.Sx.Ytfnjijnaogbgmaa
