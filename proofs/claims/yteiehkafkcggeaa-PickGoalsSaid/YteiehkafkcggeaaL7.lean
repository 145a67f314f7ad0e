/- The law PickGoals. -/
import Derived.Test.YteiehkafkcggeaaT11
import Derived.Test.YteiehkafkcggeaaSx22
namespace Go.Sx.Yteiehkafkcggeaa
open Go Go.Sx Go.Proofs
set_option linter.unusedVariables false
set_option linter.unusedSimpArgs false
set_option maxRecDepth 100000

set_option maxHeartbeats 4000000 in
theorem law7 : FnOk Try.prog 7 (sigSpec [TableK, AskK] [.bool] (fun _ => (true, ())) (Kds.wf [TableK, AskK])) := by
  refine fn_of (rs := [.tmp 4]) (env [(20, S20), (21, S21), (22, S22), (19, S19), (43, S43), (33, S33), (44, S44), (31, S31), (30, S30)]
    ⟨fn20, fn21, fn22, fn19, fn43, fn33, fn44, fn31, fn30, trivial⟩) Try.func7 (by kernel_rfl) rfl rfl Try.ntmps7 ?_
  rintro ⟨⟨(cap : Int), (l : List Call), u⟩, ⟨(a1 : Int), (a2 : Int), (a3 : Int), (a4 : Int), (a5 : Int), (a6 : Int), (a7 : Int), (a8 : Int), (a9 : Int), (gone : List Call), u1⟩, u3⟩ _ G hG hQ
  refine AM.run2 hG 100 (by cbv) ?_ ?_
  · (simp only [sxs, sxb, and_self, and_true, true_and, implies_true, imp_self, bne_eq_false_iff_eq, Nat.zero_add, Nat.le_refl, Int.toNat_natCast, Int.ofNat_lt, Int.natCast_nonneg, decide_eq_true_eq, decide_eq_false_iff_not, bne_iff_ne, ne_eq]; try dsimp only [Kd.T, Kds.T, AK.T, AKs.T])
  refine AM.case 28 rfl (fun h => ?_) (fun h => ?_) <;> (simp only [sxs, sxb, and_self, and_true, true_and, implies_true, imp_self, bne_eq_false_iff_eq, Nat.zero_add, Nat.le_refl, Int.toNat_natCast, Int.ofNat_lt, Int.natCast_nonneg, decide_eq_true_eq, decide_eq_false_iff_not, bne_iff_ne, ne_eq] at h; try dsimp only [Kd.T, Kds.T, AK.T, AKs.T] at h)
  · refine AM.run2 hG 100 (by cbv) (by (simp only [sxs, sxb, and_self, and_true, true_and, implies_true, imp_self, bne_eq_false_iff_eq, Nat.zero_add, Nat.le_refl, Int.toNat_natCast, Int.ofNat_lt, Int.natCast_nonneg, decide_eq_true_eq, decide_eq_false_iff_not, bne_iff_ne, ne_eq]; try dsimp only [Kd.T, Kds.T, AK.T, AKs.T])) ?_
    refine AM.ret2 hG (by cbv) (by (simp only [sxs, sxb, and_self, and_true, true_and, implies_true, imp_self, bne_eq_false_iff_eq, Nat.zero_add, Nat.le_refl, Int.toNat_natCast, Int.ofNat_lt, Int.natCast_nonneg, decide_eq_true_eq, decide_eq_false_iff_not, bne_iff_ne, ne_eq]; try dsimp only [Kd.T, Kds.T, AK.T, AKs.T])) (hQ _ _ (FinRo.of (by cbv) (by cbv) ?_ ?_))
    · (simp only [sxs, sxb, and_self, and_true, true_and, implies_true, imp_self, bne_eq_false_iff_eq, Nat.zero_add, Nat.le_refl, Int.toNat_natCast, Int.ofNat_lt, Int.natCast_nonneg, decide_eq_true_eq, decide_eq_false_iff_not, bne_iff_ne, ne_eq]; try dsimp only [Kd.T, Kds.T, AK.T, AKs.T])
    try (simp only [sxs, sxb, and_self, and_true, true_and, implies_true, imp_self, bne_eq_false_iff_eq, Nat.zero_add, Nat.le_refl, Int.toNat_natCast, Int.ofNat_lt, Int.natCast_nonneg, decide_eq_true_eq, decide_eq_false_iff_not, bne_iff_ne, ne_eq]; try dsimp only [Kd.T, Kds.T, AK.T, AKs.T])
  have hl : l.length ≤ 40 := by omega
  have hg : gone.length ≤ 12 := by omega
  have ho : ∀ (t : Table) (a : Ask), t.2.1.length ≤ 40 → (orderR t a).1.length ≤ 40 := fun t a h => Nat.le_trans (orderR_len t a) h
  refine AM.run2 hG 20 (by cbv) ?_ ?_
  · (simp only [sxs, sxb, and_self, and_true, true_and, implies_true, imp_self, bne_eq_false_iff_eq, Nat.zero_add, Nat.le_refl, Int.toNat_natCast, Int.ofNat_lt, Int.natCast_nonneg, decide_eq_true_eq, decide_eq_false_iff_not, bne_iff_ne, ne_eq]; try dsimp only [Kd.T, Kds.T, AK.T, AKs.T])
    all_goals ((repeat' apply And.intro) <;> first | omega | (intros; omega) | exact Nat.le_trans (ho _ _ (by assumption)) (by decide) | (intros; exact Nat.le_trans (ho _ _ (by assumption)) (by decide)) | (intros; exact ⟨Nat.le_trans (ho _ _ (by assumption)) (by decide), Nat.le_trans (ho _ _ (by assumption)) (by decide)⟩))
  refine AM.run2 hG 20 (by cbv) ?_ ?_
  · (simp only [sxs, sxb, and_self, and_true, true_and, implies_true, imp_self, bne_eq_false_iff_eq, Nat.zero_add, Nat.le_refl, Int.toNat_natCast, Int.ofNat_lt, Int.natCast_nonneg, decide_eq_true_eq, decide_eq_false_iff_not, bne_iff_ne, ne_eq]; try dsimp only [Kd.T, Kds.T, AK.T, AKs.T])
    all_goals ((repeat' apply And.intro) <;> first | omega | (intros; omega) | exact Nat.le_trans (ho _ _ (by assumption)) (by decide) | (intros; exact Nat.le_trans (ho _ _ (by assumption)) (by decide)) | (intros; exact ⟨Nat.le_trans (ho _ _ (by assumption)) (by decide), Nat.le_trans (ho _ _ (by assumption)) (by decide)⟩))
  refine AM.run2 hG 20 (by cbv) ?_ ?_
  · (simp only [sxs, sxb, and_self, and_true, true_and, implies_true, imp_self, bne_eq_false_iff_eq, Nat.zero_add, Nat.le_refl, Int.toNat_natCast, Int.ofNat_lt, Int.natCast_nonneg, decide_eq_true_eq, decide_eq_false_iff_not, bne_iff_ne, ne_eq]; try dsimp only [Kd.T, Kds.T, AK.T, AKs.T])
    all_goals ((repeat' apply And.intro) <;> first | omega | (intros; omega) | exact Nat.le_trans (ho _ _ (by assumption)) (by decide) | (intros; exact Nat.le_trans (ho _ _ (by assumption)) (by decide)) | (intros; exact ⟨Nat.le_trans (ho _ _ (by assumption)) (by decide), Nat.le_trans (ho _ _ (by assumption)) (by decide)⟩))
  refine AM.run2 hG 20 (by cbv) ?_ ?_
  · (simp only [sxs, sxb, and_self, and_true, true_and, implies_true, imp_self, bne_eq_false_iff_eq, Nat.zero_add, Nat.le_refl, Int.toNat_natCast, Int.ofNat_lt, Int.natCast_nonneg, decide_eq_true_eq, decide_eq_false_iff_not, bne_iff_ne, ne_eq]; try dsimp only [Kd.T, Kds.T, AK.T, AKs.T])
    all_goals ((repeat' apply And.intro) <;> first | omega | (intros; omega) | exact Nat.le_trans (ho _ _ (by assumption)) (by decide) | (intros; exact Nat.le_trans (ho _ _ (by assumption)) (by decide)) | (intros; exact ⟨Nat.le_trans (ho _ _ (by assumption)) (by decide), Nat.le_trans (ho _ _ (by assumption)) (by decide)⟩))
  refine AM.run2 hG 20 (by cbv) ?_ ?_
  · (simp only [sxs, sxb, and_self, and_true, true_and, implies_true, imp_self, bne_eq_false_iff_eq, Nat.zero_add, Nat.le_refl, Int.toNat_natCast, Int.ofNat_lt, Int.natCast_nonneg, decide_eq_true_eq, decide_eq_false_iff_not, bne_iff_ne, ne_eq]; try dsimp only [Kd.T, Kds.T, AK.T, AKs.T])
    all_goals ((repeat' apply And.intro) <;> first | omega | (intros; omega) | exact Nat.le_trans (ho _ _ (by assumption)) (by decide) | (intros; exact Nat.le_trans (ho _ _ (by assumption)) (by decide)) | (intros; exact ⟨Nat.le_trans (ho _ _ (by assumption)) (by decide), Nat.le_trans (ho _ _ (by assumption)) (by decide)⟩))
  refine AM.run2 hG 20 (by cbv) ?_ ?_
  · (simp only [sxs, sxb, and_self, and_true, true_and, implies_true, imp_self, bne_eq_false_iff_eq, Nat.zero_add, Nat.le_refl, Int.toNat_natCast, Int.ofNat_lt, Int.natCast_nonneg, decide_eq_true_eq, decide_eq_false_iff_not, bne_iff_ne, ne_eq]; try dsimp only [Kd.T, Kds.T, AK.T, AKs.T])
    all_goals ((repeat' apply And.intro) <;> first | omega | (intros; omega) | exact Nat.le_trans (ho _ _ (by assumption)) (by decide) | (intros; exact Nat.le_trans (ho _ _ (by assumption)) (by decide)) | (intros; exact ⟨Nat.le_trans (ho _ _ (by assumption)) (by decide), Nat.le_trans (ho _ _ (by assumption)) (by decide)⟩))
  refine AM.ret2 hG (by cbv) (by (simp only [sxs, sxb, and_self, and_true, true_and, implies_true, imp_self, bne_eq_false_iff_eq, Nat.zero_add, Nat.le_refl, Int.toNat_natCast, Int.ofNat_lt, Int.natCast_nonneg, decide_eq_true_eq, decide_eq_false_iff_not, bne_iff_ne, ne_eq]; try dsimp only [Kd.T, Kds.T, AK.T, AKs.T])) (hQ _ _ (FinRo.of (by cbv) (by cbv) ?_ ?_))
  · (simp only [sxs, sxb, and_self, and_true, true_and, implies_true, imp_self, bne_eq_false_iff_eq, Nat.zero_add, Nat.le_refl, Int.toNat_natCast, Int.ofNat_lt, Int.natCast_nonneg, decide_eq_true_eq, decide_eq_false_iff_not, bne_iff_ne, ne_eq]; try dsimp only [Kd.T, Kds.T, AK.T, AKs.T])
  exact ⟨(by simp [SI.d, SB.d, SN.d, SB.map, SB.map2, SI.cmp2, SI.map2, eqKs, eqK, eqI, neI, eqBo])⟩
end Go.Sx.Yteiehkafkcggeaa
