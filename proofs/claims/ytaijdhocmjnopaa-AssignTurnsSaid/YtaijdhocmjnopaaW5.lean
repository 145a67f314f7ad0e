/- The law AssignTurns. -/
import Derived.Test.YtaijdhocmjnopaaVB
namespace Go.Sx.Ytaijdhocmjnopaa
open Go Go.Sx Go.Proofs
set_option linter.unusedVariables false
set_option linter.unusedSimpArgs false
set_option maxRecDepth 100000

theorem chosenR_len (t : Table) (l : List Ask) (a b : Int) : (chosenR t l a b).1.length ≤ t.2.1.length := by
  rw [chosenR]
  split
  · simp
  · exact List.length_filter_le _ _
set_option maxHeartbeats 8000000 in
theorem law5 : FnOk Try.prog 5 (sigSpec [TableK, AsksK] [.bool] (fun _ => (true, ())) (Kds.wf [TableK, AsksK])) := by
  refine fn_of (rs := [.tmp 4]) (env [(14, S14), (23, S23), (24, S24), (25, S25), (26, S26), (27, S27), (11, S11), (28, S28), (29, S29), (17, S17), (30, S30), (19, S19), (31, S31), (20, S20), (32, S32)]
    ⟨fn14, fn23, fn24, fn25, fn26, fn27, fn11, fn28, fn29, fn17, fn30, fn19, fn31, fn20, fn32, trivial⟩) Try.func5 (by kernel_rfl) rfl rfl Try.ntmps5 ?_
  rintro ⟨⟨(cap : Int), (cs : List Call), ⟨⟩⟩, (l : List Ask), u2⟩ _ G hG hQ
  have hall := allR_len (cap, cs, ()) l
  have hlf := chosenR_len (cap, cs, ()) l 0 0
  have htw := chosenR_len (cap, cs, ()) l 2 8
  simp only at hlf htw
  refine AM.run2 hG 100 (by cbv) ?_ ?_
  · (simp only [sxs, sxb, and_self, and_true, true_and, implies_true, imp_self, bne_eq_false_iff_eq, Nat.zero_add, Nat.le_refl, Int.toNat_natCast, Int.ofNat_lt, Int.natCast_nonneg, decide_eq_true_eq, decide_eq_false_iff_not, bne_iff_ne, ne_eq]; try dsimp only [Kd.T, Kds.T, AK.T, AKs.T])
  refine AM.case 22 rfl (fun h => ?_) (fun h => ?_)
  · refine AM.run2 hG 100 (by cbv) ?_ ?_
    · (simp only [sxs, sxb, and_self, and_true, true_and, implies_true, imp_self, bne_eq_false_iff_eq, Nat.zero_add, Nat.le_refl, Int.toNat_natCast, Int.ofNat_lt, Int.natCast_nonneg, decide_eq_true_eq, decide_eq_false_iff_not, bne_iff_ne, ne_eq]; try dsimp only [Kd.T, Kds.T, AK.T, AKs.T])
    refine AM.ret2 hG (by cbv) (by (simp only [sxs, sxb, and_self, and_true, true_and, implies_true, imp_self, bne_eq_false_iff_eq, Nat.zero_add, Nat.le_refl, Int.toNat_natCast, Int.ofNat_lt, Int.natCast_nonneg, decide_eq_true_eq, decide_eq_false_iff_not, bne_iff_ne, ne_eq]; try dsimp only [Kd.T, Kds.T, AK.T, AKs.T])) (hQ _ _ (FinRo.of (by cbv) (by cbv) ?_ ?_))
    · (simp only [sxs, sxb, and_self, and_true, true_and, implies_true, imp_self, bne_eq_false_iff_eq, Nat.zero_add, Nat.le_refl, Int.toNat_natCast, Int.ofNat_lt, Int.natCast_nonneg, decide_eq_true_eq, decide_eq_false_iff_not, bne_iff_ne, ne_eq]; try dsimp only [Kd.T, Kds.T, AK.T, AKs.T])
    try (simp only [sxs, sxb, and_self, and_true, true_and, implies_true, imp_self, bne_eq_false_iff_eq, Nat.zero_add, Nat.le_refl, Int.toNat_natCast, Int.ofNat_lt, Int.natCast_nonneg, decide_eq_true_eq, decide_eq_false_iff_not, bne_iff_ne, ne_eq]; try dsimp only [Kd.T, Kds.T, AK.T, AKs.T])
  replace h : (!lightA (cap, cs, ()) l) = false := h
  rw [Bool.not_eq_false', lightA, decide_eq_true_eq] at h
  obtain ⟨h1, h2, h3⟩ := h
  simp only at h2
  have h1' : ∀ i, i < l.length → (askL (l.getD i zA)).length ≤ 1000000 := fun i hi => Nat.le_trans (h1 i (List.mem_range.2 (by omega)) hi) (by decide)
  refine AM.run2 hG 100 (by cbv) ?_ ?_
  · (simp only [sxs, sxb, and_self, and_true, true_and, implies_true, imp_self, bne_eq_false_iff_eq, Nat.zero_add, Nat.le_refl, Int.toNat_natCast, Int.ofNat_lt, Int.natCast_nonneg, decide_eq_true_eq, decide_eq_false_iff_not, bne_iff_ne, ne_eq]; try dsimp only [Kd.T, Kds.T, AK.T, AKs.T])
    exact ⟨fun _ => Nat.le_trans hall (by omega), ⟨by omega, by omega⟩, ⟨by omega, by omega⟩, by omega, by omega, ⟨by omega, h1'⟩, by omega⟩
  refine AM.sure 68 false rfl (by simp [SI.d, SB.d, SN.d, SB.map, SB.map2, SI.cmp2, SI.map2, eqKs, eqK, eqI, neI, eqBo]) ?_
  refine AM.run2 hG 100 (by cbv) ?_ ?_
  · (simp only [sxs, sxb, and_self, and_true, true_and, implies_true, imp_self, bne_eq_false_iff_eq, Nat.zero_add, Nat.le_refl, Int.toNat_natCast, Int.ofNat_lt, Int.natCast_nonneg, decide_eq_true_eq, decide_eq_false_iff_not, bne_iff_ne, ne_eq]; try dsimp only [Kd.T, Kds.T, AK.T, AKs.T])
    exact ⟨fun _ => by omega, fun _ => Nat.le_trans htw (by omega), Nat.le_trans hlf (by omega), by omega, by omega⟩
  refine AM.ret2 hG (by cbv) (by (simp only [sxs, sxb, and_self, and_true, true_and, implies_true, imp_self, bne_eq_false_iff_eq, Nat.zero_add, Nat.le_refl, Int.toNat_natCast, Int.ofNat_lt, Int.natCast_nonneg, decide_eq_true_eq, decide_eq_false_iff_not, bne_iff_ne, ne_eq]; try dsimp only [Kd.T, Kds.T, AK.T, AKs.T])) (hQ _ _ (FinRo.of (by cbv) (by cbv) ?_ ?_))
  · (simp only [sxs, sxb, and_self, and_true, true_and, implies_true, imp_self, bne_eq_false_iff_eq, Nat.zero_add, Nat.le_refl, Int.toNat_natCast, Int.ofNat_lt, Int.natCast_nonneg, decide_eq_true_eq, decide_eq_false_iff_not, bne_iff_ne, ne_eq]; try dsimp only [Kd.T, Kds.T, AK.T, AKs.T])
  try (simp only [sxs, sxb, and_self, and_true, true_and, implies_true, imp_self, bne_eq_false_iff_eq, Nat.zero_add, Nat.le_refl, Int.toNat_natCast, Int.ofNat_lt, Int.natCast_nonneg, decide_eq_true_eq, decide_eq_false_iff_not, bne_iff_ne, ne_eq]; try dsimp only [Kd.T, Kds.T, AK.T, AKs.T])
end Go.Sx.Ytaijdhocmjnopaa
