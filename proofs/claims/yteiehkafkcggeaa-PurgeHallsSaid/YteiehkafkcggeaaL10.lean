/- The law PurgeOvers. -/
import Derived.Test.YteiehkafkcggeaaUB
namespace Go.Sx.Yteiehkafkcggeaa
open Go Go.Sx Go.Proofs
set_option linter.unusedVariables false
set_option linter.unusedSimpArgs false
set_option maxRecDepth 100000

theorem over_next (h : Hand) (e : Int) : overR h e = nextH h e h.1 (List.replicate h.1.length false) := rfl
theorem overO_L {h : Hand} {e : Int} (hh : handL h) : handL (overO h e).1 := by
  rw [overO]
  split
  · exact ⟨by simp, by simp, by simp, by simp, fun i => by simp [zT, Kd.z, Kds.z]⟩
  · rw [over_next]
    exact next_L hh hh.1 (by rw [List.length_replicate]; exact hh.1)
theorem cleanO_len {h : Hand} {e : Int} : (cleanO h e).1.length ≤ h.1.length := by
  rw [cleanO]
  split
  · simp
  · rw [cleanL_len]; exact Nat.le_refl _
theorem wipedO_len {h : Hand} : (wipedO h).1.length ≤ h.2.2.2.1.length := by
  rw [wipedO]
  split
  · simp
  · rw [List.length_map]; exact Nat.le_refl _
theorem light_L {h : Hand} (hl : lightB h = true) : handL h ∧ h.1.length ≤ 20 ∧ h.2.2.2.1.length ≤ 5 := by
  rw [lightB, decide_eq_true_eq] at hl
  obtain ⟨h1, h2, h3, h4, h5⟩ := hl
  refine ⟨⟨by omega, by omega, by omega, by omega, fun i => ?_⟩, h1, h4⟩
  by_cases q : i < h.2.2.2.1.length
  · have := h5 (h.2.2.2.1.getD i zT) (by rw [List.getD_eq_getElem?_getD, List.getElem?_eq_getElem q]; exact List.getElem_mem q)
    omega
  · rw [List.getD_eq_getElem?_getD, List.getElem?_eq_none (by omega)]
    simp [zT, Kd.z, Kds.z]
set_option maxHeartbeats 8000000 in
theorem law10 : FnOk Try.prog 10 (sigSpec [HandK, I64] [.bool] (fun _ => (true, ())) (Kds.wf [HandK, I64])) := by
  refine fn_of (rs := [.tmp 4]) (env [(58, S58), (59, S59), (60, S60), (68, S68), (69, S69), (70, S70), (71, S71), (72, S72), (73, S73), (67, S67), (74, S74), (75, S75), (76, S76), (77, S77), (66, S66), (65, S65)]
    ⟨fn58, fn59, fn60, fn68, fn69, fn70, fn71, fn72, fn73, fn67, fn74, fn75, fn76, fn77, fn66, fn65, trivial⟩) Try.func10 (by kernel_rfl) rfl rfl Try.ntmps10 ?_
  rintro ⟨⟨(ld : List Int), (fl : List Bool), (inn : List Bool), (ts : List Table), ⟨⟩⟩, (e : Int), u2⟩ _ G hG hQ
  refine AM.run2 hG 100 (by cbv) ?_ ?_
  · (simp only [sxs, sxb, and_self, and_true, true_and, implies_true, imp_self, bne_eq_false_iff_eq, Nat.zero_add, Nat.le_refl, Int.toNat_natCast, Int.ofNat_lt, Int.natCast_nonneg, decide_eq_true_eq, decide_eq_false_iff_not, bne_iff_ne, ne_eq]; try dsimp only [Kd.T, Kds.T, AK.T, AKs.T])
  refine AM.case 20 rfl (fun h => ?_) (fun h => ?_)
  · refine AM.run2 hG 100 (by cbv) ?_ ?_
    · (simp only [sxs, sxb, and_self, and_true, true_and, implies_true, imp_self, bne_eq_false_iff_eq, Nat.zero_add, Nat.le_refl, Int.toNat_natCast, Int.ofNat_lt, Int.natCast_nonneg, decide_eq_true_eq, decide_eq_false_iff_not, bne_iff_ne, ne_eq]; try dsimp only [Kd.T, Kds.T, AK.T, AKs.T])
    refine AM.ret2 hG (by cbv) (by (simp only [sxs, sxb, and_self, and_true, true_and, implies_true, imp_self, bne_eq_false_iff_eq, Nat.zero_add, Nat.le_refl, Int.toNat_natCast, Int.ofNat_lt, Int.natCast_nonneg, decide_eq_true_eq, decide_eq_false_iff_not, bne_iff_ne, ne_eq]; try dsimp only [Kd.T, Kds.T, AK.T, AKs.T])) (hQ _ _ (FinRo.of (by cbv) (by cbv) ?_ ?_))
    · (simp only [sxs, sxb, and_self, and_true, true_and, implies_true, imp_self, bne_eq_false_iff_eq, Nat.zero_add, Nat.le_refl, Int.toNat_natCast, Int.ofNat_lt, Int.natCast_nonneg, decide_eq_true_eq, decide_eq_false_iff_not, bne_iff_ne, ne_eq]; try dsimp only [Kd.T, Kds.T, AK.T, AKs.T])
    try (simp only [sxs, sxb, and_self, and_true, true_and, implies_true, imp_self, bne_eq_false_iff_eq, Nat.zero_add, Nat.le_refl, Int.toNat_natCast, Int.ofNat_lt, Int.natCast_nonneg, decide_eq_true_eq, decide_eq_false_iff_not, bne_iff_ne, ne_eq]; try dsimp only [Kd.T, Kds.T, AK.T, AKs.T])
  replace h : (!lightB (ld, fl, inn, ts, ())) = false := h
  rw [Bool.not_eq_false'] at h
  obtain ⟨hh, hl, ht⟩ := light_L h
  simp only at hl ht
  have ho := overO_L (e := e) hh
  have hc := cleanO_len (h := (ld, fl, inn, ts, ())) (e := e)
  have hw := wipedO_len (h := (ld, fl, inn, ts, ()))
  simp only at hc hw
  refine AM.run2 hG 200 (by cbv) ?_ ?_
  · (simp only [sxs, sxb, and_self, and_true, true_and, implies_true, imp_self, bne_eq_false_iff_eq, Nat.zero_add, Nat.le_refl, Int.toNat_natCast, Int.ofNat_lt, Int.natCast_nonneg, decide_eq_true_eq, decide_eq_false_iff_not, bne_iff_ne, ne_eq]; try dsimp only [Kd.T, Kds.T, AK.T, AKs.T])
    exact ⟨fun _ => ⟨by omega, by omega⟩, fun _ => ⟨by omega, by omega⟩, ⟨by omega, by omega⟩, ⟨by omega, by omega⟩, hh⟩
  refine AM.sure 50 false rfl (by simp [SI.d, SB.d, SN.d, SB.map, SB.map2, SI.cmp2, SI.map2, eqKs, eqK, eqI, neI, eqBo]) ?_
  refine AM.run2 hG 200 (by cbv) ?_ ?_
  · (simp only [sxs, sxb, and_self, and_true, true_and, implies_true, imp_self, bne_eq_false_iff_eq, Nat.zero_add, Nat.le_refl, Int.toNat_natCast, Int.ofNat_lt, Int.natCast_nonneg, decide_eq_true_eq, decide_eq_false_iff_not, bne_iff_ne, ne_eq]; try dsimp only [Kd.T, Kds.T, AK.T, AKs.T])
    exact ⟨ho, hh⟩
  refine AM.sure 78 false rfl (by simp [SI.d, SB.d, SN.d, SB.map, SB.map2, SI.cmp2, SI.map2, eqKs, eqK, eqI, neI, eqBo]) ?_
  refine AM.run2 hG 200 (by cbv) ?_ ?_
  · (simp only [sxs, sxb, and_self, and_true, true_and, implies_true, imp_self, bne_eq_false_iff_eq, Nat.zero_add, Nat.le_refl, Int.toNat_natCast, Int.ofNat_lt, Int.natCast_nonneg, decide_eq_true_eq, decide_eq_false_iff_not, bne_iff_ne, ne_eq]; try dsimp only [Kd.T, Kds.T, AK.T, AKs.T])
    exact ⟨fun _ => hh, fun _ => Nat.le_trans hw (by omega), Nat.le_trans hc (by omega), hh⟩
  refine AM.ret2 hG (by cbv) (by (simp only [sxs, sxb, and_self, and_true, true_and, implies_true, imp_self, bne_eq_false_iff_eq, Nat.zero_add, Nat.le_refl, Int.toNat_natCast, Int.ofNat_lt, Int.natCast_nonneg, decide_eq_true_eq, decide_eq_false_iff_not, bne_iff_ne, ne_eq]; try dsimp only [Kd.T, Kds.T, AK.T, AKs.T])) (hQ _ _ (FinRo.of (by cbv) (by cbv) ?_ ?_))
  · (simp only [sxs, sxb, and_self, and_true, true_and, implies_true, imp_self, bne_eq_false_iff_eq, Nat.zero_add, Nat.le_refl, Int.toNat_natCast, Int.ofNat_lt, Int.natCast_nonneg, decide_eq_true_eq, decide_eq_false_iff_not, bne_iff_ne, ne_eq]; try dsimp only [Kd.T, Kds.T, AK.T, AKs.T])
  try (simp only [sxs, sxb, and_self, and_true, true_and, implies_true, imp_self, bne_eq_false_iff_eq, Nat.zero_add, Nat.le_refl, Int.toNat_natCast, Int.ofNat_lt, Int.natCast_nonneg, decide_eq_true_eq, decide_eq_false_iff_not, bne_iff_ne, ne_eq]; try dsimp only [Kd.T, Kds.T, AK.T, AKs.T])
end Go.Sx.Yteiehkafkcggeaa
