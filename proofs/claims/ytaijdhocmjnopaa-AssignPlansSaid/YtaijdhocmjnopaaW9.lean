/- The law AssignPlans. -/
import Derived.Test.YtaijdhocmjnopaaVD
namespace Go.Sx.Ytaijdhocmjnopaa
open Go Go.Sx Go.Proofs
set_option linter.unusedVariables false
set_option linter.unusedSimpArgs false
set_option maxRecDepth 100000

theorem serveO_len (t : Table) (l : List Ask) : (serveO t l).1.2.1.length ≤ t.2.1.length := by
  rw [serveO]
  split
  · simp [zTab]
  · exact servedR_len _ _
theorem planR_len (t : Table) (l : List Ask) (n : Int) : (planR t l n).1.length ≤ 1000000 := by
  rw [planR]
  split
  · simp
  · split
    · simp
    · rename_i h
      simp only
      rw [planGo_len]
      omega
set_option maxHeartbeats 8000000 in
theorem law9 : FnOk Try.prog 9 (sigSpec [TableK, AsksK, I64] [.bool] (fun _ => (true, ())) (Kds.wf [TableK, AsksK, I64])) := by
  refine fn_of (rs := [.tmp 6]) (env [(14, S14), (23, S23), (24, S24), (25, S25), (12, S12), (36, S36), (13, S13), (37, S37), (21, S21), (32, S32)]
    ⟨fn14, fn23, fn24, fn25, fn12, fn36, fn13, fn37, fn21, fn32, trivial⟩) Try.func9 (by kernel_rfl) rfl rfl Try.ntmps9 ?_
  rintro ⟨⟨(cap : Int), (cs : List Call), ⟨⟩⟩, (l : List Ask), (n : Int), u2⟩ _ G hG hQ
  have hso := serveO_len (cap, cs, ()) l
  have hpl := planR_len (cap, cs, ()) l n
  simp only at hso
  refine AM.run2 hG 100 (by cbv) ?_ ?_
  · (simp only [sxs, sxb, and_self, and_true, true_and, implies_true, imp_self, bne_eq_false_iff_eq, Nat.zero_add, Nat.le_refl, Int.toNat_natCast, Int.ofNat_lt, Int.natCast_nonneg, decide_eq_true_eq, decide_eq_false_iff_not, bne_iff_ne, ne_eq]; try dsimp only [Kd.T, Kds.T, AK.T, AKs.T])
  refine AM.case 20 rfl (fun h => ?_) (fun h => ?_)
  · refine AM.run2 hG 100 (by cbv) ?_ ?_
    · (simp only [sxs, sxb, and_self, and_true, true_and, implies_true, imp_self, bne_eq_false_iff_eq, Nat.zero_add, Nat.le_refl, Int.toNat_natCast, Int.ofNat_lt, Int.natCast_nonneg, decide_eq_true_eq, decide_eq_false_iff_not, bne_iff_ne, ne_eq]; try dsimp only [Kd.T, Kds.T, AK.T, AKs.T])
    refine AM.ret2 hG (by cbv) (by (simp only [sxs, sxb, and_self, and_true, true_and, implies_true, imp_self, bne_eq_false_iff_eq, Nat.zero_add, Nat.le_refl, Int.toNat_natCast, Int.ofNat_lt, Int.natCast_nonneg, decide_eq_true_eq, decide_eq_false_iff_not, bne_iff_ne, ne_eq]; try dsimp only [Kd.T, Kds.T, AK.T, AKs.T])) (hQ _ _ (FinRo.of (by cbv) (by cbv) ?_ ?_))
    · (simp only [sxs, sxb, and_self, and_true, true_and, implies_true, imp_self, bne_eq_false_iff_eq, Nat.zero_add, Nat.le_refl, Int.toNat_natCast, Int.ofNat_lt, Int.natCast_nonneg, decide_eq_true_eq, decide_eq_false_iff_not, bne_iff_ne, ne_eq]; try dsimp only [Kd.T, Kds.T, AK.T, AKs.T])
    try (simp only [sxs, sxb, and_self, and_true, true_and, implies_true, imp_self, bne_eq_false_iff_eq, Nat.zero_add, Nat.le_refl, Int.toNat_natCast, Int.ofNat_lt, Int.natCast_nonneg, decide_eq_true_eq, decide_eq_false_iff_not, bne_iff_ne, ne_eq]; try dsimp only [Kd.T, Kds.T, AK.T, AKs.T])
  replace h : (!lightA (cap, cs, ()) l) = false := h
  rw [Bool.not_eq_false', lightA, decide_eq_true_eq] at h
  obtain ⟨h1, h2, h3⟩ := h
  simp only at h2
  have h1' : ∀ i, i < l.length → (askL (l.getD i zA)).length ≤ 1000000 := fun i hi => Nat.le_trans (h1 i (List.mem_range.2 (by omega)) hi) (by decide)
  refine AM.run2 hG 100 (by cbv) ?_ ?_
  · (simp only [sxs, sxb, and_self, and_true, true_and, implies_true, imp_self, bne_eq_false_iff_eq, Nat.zero_add, Nat.le_refl, Int.toNat_natCast, Int.ofNat_lt, Int.natCast_nonneg, decide_eq_true_eq, decide_eq_false_iff_not, bne_iff_ne, ne_eq]; try dsimp only [Kd.T, Kds.T, AK.T, AKs.T])
    exact ⟨fun _ => by omega, fun _ => hpl, Nat.le_trans hso (by omega), ⟨by omega, by omega⟩, ⟨by omega, by omega⟩, ⟨by omega, by omega⟩, ⟨by omega, by omega⟩, ⟨by omega, h1'⟩, by omega⟩
  refine AM.ret2 hG (by cbv) (by (simp only [sxs, sxb, and_self, and_true, true_and, implies_true, imp_self, bne_eq_false_iff_eq, Nat.zero_add, Nat.le_refl, Int.toNat_natCast, Int.ofNat_lt, Int.natCast_nonneg, decide_eq_true_eq, decide_eq_false_iff_not, bne_iff_ne, ne_eq]; try dsimp only [Kd.T, Kds.T, AK.T, AKs.T])) (hQ _ _ (FinRo.of (by cbv) (by cbv) ?_ ?_))
  · (simp only [sxs, sxb, and_self, and_true, true_and, implies_true, imp_self, bne_eq_false_iff_eq, Nat.zero_add, Nat.le_refl, Int.toNat_natCast, Int.ofNat_lt, Int.natCast_nonneg, decide_eq_true_eq, decide_eq_false_iff_not, bne_iff_ne, ne_eq]; try dsimp only [Kd.T, Kds.T, AK.T, AKs.T])
  try (simp only [sxs, sxb, and_self, and_true, true_and, implies_true, imp_self, bne_eq_false_iff_eq, Nat.zero_add, Nat.le_refl, Int.toNat_natCast, Int.ofNat_lt, Int.natCast_nonneg, decide_eq_true_eq, decide_eq_false_iff_not, bne_iff_ne, ne_eq]; try dsimp only [Kd.T, Kds.T, AK.T, AKs.T])
end Go.Sx.Ytaijdhocmjnopaa
