/- The law PurgeHalls. -/
import Derived.Test.YteiehkafkcggeaaU13
import Derived.Test.YteiehkafkcggeaaL11
namespace Go.Sx.Yteiehkafkcggeaa
open Go Go.Sx Go.Proofs
set_option linter.unusedVariables false
set_option linter.unusedSimpArgs false
set_option maxRecDepth 100000

def SKnown : List AV → Option FOut := sigSpec [] [.bool] (fun _ => (true, ())) (Kds.wf [])
set_option maxHeartbeats 8000000 in
theorem law14 : FnOk Try.prog 14 (sigSpec [IntsK] [.bool] (fun _ => (true, ())) (Kds.wf [IntsK])) := by
  refine fn_ofB (rs := [.tmp 2]) (env [(11, SKnown), (81, S81), (72, S72), (76, S76), (79, S79)]
    ⟨law11, fn81, fn72, fn76, fn79, trivial⟩) Try.func14 (by kernel_rfl) rfl rfl Try.ntmps14 ?_
  rintro ⟨(nums : List Int), u2⟩ _ G hG hB hQ
  have hB := GB.of hB
  have hn1 := carsN_in nums
  have hmd : madeH nums = (loadsL nums (carsN nums), faultL nums (carsN nums), insL nums (carsN nums), tabsH nums 3, ()) := rfl
  obtain ⟨n, hn⟩ : ∃ n, carsN nums = n := ⟨_, rfl⟩
  rw [hn] at hmd hn1
  have hld := loadsL_len nums n
  have hfl := faultL_len nums n
  have hin := insL_len nums n
  have hts := tabs_made nums
  have hli := loads_in nums n
  obtain ⟨ld, qld⟩ : ∃ x, loadsL nums n = x := ⟨_, rfl⟩
  obtain ⟨fl, qfl⟩ : ∃ x, faultL nums n = x := ⟨_, rfl⟩
  obtain ⟨inn, qin⟩ : ∃ x, insL nums n = x := ⟨_, rfl⟩
  obtain ⟨ts, qts⟩ : ∃ x, tabsH nums 3 = x := ⟨_, rfl⟩
  rw [qld] at hmd hld hli
  rw [qfl] at hmd hfl
  rw [qin] at hmd hin
  rw [qts] at hmd hts
  have hE : handE (ld, fl, inn, ts, ()) = 0 := hand_made (by omega) (by omega) (by omega) (by omega) hts hli
  have hL : handL (ld, fl, inn, ts, ()) := hand_L (by omega) (by omega) (by omega) hts
  obtain ⟨W, hW⟩ : ∃ W, wordR (ld, fl, inn, ts, ()) 5 = W := ⟨_, rfl⟩
  have hO : overO (ld, fl, inn, ts, ()) 5 = ((ld, List.replicate n false, inL W n, ts.map hallsR, ()), W, 0) := by
    rw [overO_ok (ask_made hE (by decide) (by decide)), overR, hW]
    simp only [hld]
  have hWi : wipedO (ld, fl, inn, ts, ()) = (ts.map fun t => nI (ownC t), 0) := by
    rw [wipedO, if_neg (by rw [hE]; decide)]
  refine AM.runTo2 hG 17 200 (by cbv) (by (simp only [sxs, sxb, and_self, and_true, true_and, implies_true, imp_self, bne_eq_false_iff_eq, Nat.zero_add, Nat.le_refl, Int.toNat_natCast, Int.ofNat_lt, Int.natCast_nonneg, decide_eq_true_eq, decide_eq_false_iff_not, bne_iff_ne, ne_eq]; try dsimp only [Kd.T, Kds.T, AK.T, AKs.T]); simp only [Kds.wf]) ?_
  refine AM.frz [0] (by cbv) (by (simp only [sxs, sxb, and_self, and_true, true_and, implies_true, imp_self, bne_eq_false_iff_eq, Nat.zero_add, Nat.le_refl, Int.toNat_natCast, Int.ofNat_lt, Int.natCast_nonneg, decide_eq_true_eq, decide_eq_false_iff_not, bne_iff_ne, ne_eq]; try dsimp only [Kd.T, Kds.T, AK.T, AKs.T])) ?_
  refine AM.runTo2 hG 27 200 (by cbv) (by (simp only [sxs, sxb, and_self, and_true, true_and, implies_true, imp_self, bne_eq_false_iff_eq, Nat.zero_add, Nat.le_refl, Int.toNat_natCast, Int.ofNat_lt, Int.natCast_nonneg, decide_eq_true_eq, decide_eq_false_iff_not, bne_iff_ne, ne_eq]; try dsimp only [Kd.T, Kds.T, AK.T, AKs.T]); simp only [hmd, List.take_length]; exact hL) ?_
  refine AM.imp2 (fr' := frame 124 [(3, .bool (.t fun _ => true)), (4, .ptr 1 0), (5, .ptr 2 0), (7, .int .i64 (.l 0)), (8, .ro I64 fun _ => ts.map fun t => nI (ownC t)), (9, .int .i64 (.l 0))])
    (h' := [.dead, .box 78 [.any, .any, .any, .ro TableK fun _ => ts], .box 78 [.any, .any, .any, .ro TableK fun _ => ts.map hallsR]]) (by cbv) (by cbv) ?_ ?_ ?_
  · (simp only [sxs, sxb, and_self, and_true, true_and, implies_true, imp_self, bne_eq_false_iff_eq, Nat.zero_add, Nat.le_refl, Int.toNat_natCast, Int.ofNat_lt, Int.natCast_nonneg, decide_eq_true_eq, decide_eq_false_iff_not, bne_iff_ne, ne_eq]; try dsimp only [Kd.T, Kds.T, AK.T, AKs.T])
    simp only [hmd, List.take_length, hO, hWi]
    exact ⟨trivial, rfl, trivial⟩
  · (simp only [sxs, sxb, and_self, and_true, true_and, implies_true, imp_self, bne_eq_false_iff_eq, Nat.zero_add, Nat.le_refl, Int.toNat_natCast, Int.ofNat_lt, Int.natCast_nonneg, decide_eq_true_eq, decide_eq_false_iff_not, bne_iff_ne, ne_eq]; try dsimp only [Kd.T, Kds.T, AK.T, AKs.T])
    simp only [hmd, List.take_length, hO]
    exact ⟨trivial, trivial⟩
  have h3 := hts.1
  refine AM.run2 hG 200 (by cbv) ?_ ?_
  · (simp only [sxs, sxb, and_self, and_true, true_and, implies_true, imp_self, bne_eq_false_iff_eq, Nat.zero_add, Nat.le_refl, Int.toNat_natCast, Int.ofNat_lt, Int.natCast_nonneg, decide_eq_true_eq, decide_eq_false_iff_not, bne_iff_ne, ne_eq]; try dsimp only [Kd.T, Kds.T, AK.T, AKs.T])
  refine AM.sure 43 false rfl (by (simp only [sxs, sxb, and_self, and_true, true_and, implies_true, imp_self, bne_eq_false_iff_eq, Nat.zero_add, Nat.le_refl, Int.toNat_natCast, Int.ofNat_lt, Int.natCast_nonneg, decide_eq_true_eq, decide_eq_false_iff_not, bne_iff_ne, ne_eq]; try dsimp only [Kd.T, Kds.T, AK.T, AKs.T]); simp [h3]) ?_
  refine AM.run2 hG 200 (by cbv) ?_ ?_
  · (simp only [sxs, sxb, and_self, and_true, true_and, implies_true, imp_self, bne_eq_false_iff_eq, Nat.zero_add, Nat.le_refl, Int.toNat_natCast, Int.ofNat_lt, Int.natCast_nonneg, decide_eq_true_eq, decide_eq_false_iff_not, bne_iff_ne, ne_eq]; try dsimp only [Kd.T, Kds.T, AK.T, AKs.T])
  refine AM.loopI (fun d : Nat => (frame 124 [(3, .bool (.t fun _ => true)), (4, .ptr 1 0), (5, .ptr 2 0), (8, .ro I64 fun _ => ts.map fun t => nI (ownC t)), (10, .int .i64 (.t fun _ => nI d))],
    [.dead, .box 78 [.any, .any, .any, .ro TableK fun _ => ts], .box 78 [.any, .any, .any, .ro TableK fun _ => ts.map hallsR]]))
    (fun d => d ≤ 3) (fun d => 3 - d) 0 (Nat.zero_le _) ?_ ?_ ?_
  · cbv; (simp only [sxs, sxb, and_self, and_true, true_and, implies_true, imp_self, bne_eq_false_iff_eq, Nat.zero_add, Nat.le_refl, Int.toNat_natCast, Int.ofNat_lt, Int.natCast_nonneg, decide_eq_true_eq, decide_eq_false_iff_not, bne_iff_ne, ne_eq]; try dsimp only [Kd.T, Kds.T, AK.T, AKs.T]); all_goals ((repeat' apply And.intro) <;> first | rfl | assumption | exact trivial)
  · cbv; (simp only [sxs, sxb, and_self, and_true, true_and, implies_true, imp_self, bne_eq_false_iff_eq, Nat.zero_add, Nat.le_refl, Int.toNat_natCast, Int.ofNat_lt, Int.natCast_nonneg, decide_eq_true_eq, decide_eq_false_iff_not, bne_iff_ne, ne_eq]; try dsimp only [Kd.T, Kds.T, AK.T, AKs.T]); all_goals ((repeat' apply And.intro) <;> first | rfl | assumption | exact trivial)
  rintro d hd ih
  refine AM.run2 hG 100 (by cbv) ?_ ?_
  · (simp only [sxs, sxb, and_self, and_true, true_and, implies_true, imp_self, bne_eq_false_iff_eq, Nat.zero_add, Nat.le_refl, Int.toNat_natCast, Int.ofNat_lt, Int.natCast_nonneg, decide_eq_true_eq, decide_eq_false_iff_not, bne_iff_ne, ne_eq]; try dsimp only [Kd.T, Kds.T, AK.T, AKs.T])
  refine AM.case 45 rfl (fun h => ?_) (fun h => ?_) <;> (simp only [sxs, sxb, and_self, and_true, true_and, implies_true, imp_self, bne_eq_false_iff_eq, Nat.zero_add, Nat.le_refl, Int.toNat_natCast, Int.ofNat_lt, Int.natCast_nonneg, decide_eq_true_eq, decide_eq_false_iff_not, bne_iff_ne, ne_eq] at h; try dsimp only [Kd.T, Kds.T, AK.T, AKs.T] at h)
  · obtain ⟨⟨cap, l, u⟩, ht⟩ : ∃ t, ts.getD d zT = t := ⟨_, rfl⟩
    have hmem : (cap, l, u) ∈ ts := by rw [← ht, List.getD_eq_getElem?_getD, List.getElem?_eq_getElem (show d < ts.length by omega)]; exact List.getElem_mem _
    have hok := hts.2 _ hmem
    have hl8 : l.length ≤ 8 := hok.2.len
    refine AM.run2 hG 100 (by cbv) ?_ ?_
    · (simp only [sxs, sxb, and_self, and_true, true_and, implies_true, imp_self, bne_eq_false_iff_eq, Nat.zero_add, Nat.le_refl, Int.toNat_natCast, Int.ofNat_lt, Int.natCast_nonneg, decide_eq_true_eq, decide_eq_false_iff_not, bne_iff_ne, ne_eq]; try dsimp only [Kd.T, Kds.T, AK.T, AKs.T])
    refine AM.emptySlot 11 31 CallK rfl ?_
    have hlt : d < ts.length := by omega
    have hlm : d < (ts.map hallsR).length := by rw [List.length_map]; exact hlt
    have h1 : (ts.getD d (0, (Kd.slice CallK).z, ())).2.1 = l := congrArg (fun t => t.2.1) ht
    have h2 : (ts.getD d (0, (Kd.slice CallK).z, ())).1 = cap := congrArg (fun t => t.1) ht
    have hmp : (ts.map hallsR).getD d (0, (Kd.slice CallK).z, ()) = hallsR (cap, l, u) := by
      rw [List.getD_eq_getElem?_getD, List.getElem?_map, List.getElem?_eq_getElem hlt, ← ht, List.getD_eq_getElem?_getD, List.getElem?_eq_getElem hlt]; rfl
    have h3m : ((ts.map hallsR).getD d (0, (Kd.slice CallK).z, ())).2.1 = l.filter hallB := by rw [hmp]; rfl
    have h4m : ((ts.map hallsR).getD d (0, (Kd.slice CallK).z, ())).1 = cap := by rw [hmp]; rfl
    have h5m : (ts.map fun t => ((ownC t : Nat) : Int)).getD d 0 = ((ownC (cap, l, u) : Nat) : Int) := by
      rw [List.getD_eq_getElem?_getD, List.getElem?_map, List.getElem?_eq_getElem hlt, ← ht, List.getD_eq_getElem?_getD, List.getElem?_eq_getElem hlt]; rfl
    have hhl := half_len hallB l
    have how : ownC (cap, l, u) = (l.filter fun c => !hallB c).length := rfl
    refine AM.loopI (fun z : Nat × List Call => (frame 124 [(3, .bool (.t fun _ => true)), (4, .ptr 1 0), (5, .ptr 2 0), (8, .ro I64 fun _ => ts.map fun t => nI (ownC t)), (10, .int .i64 (.t fun _ => nI d)), (11, .sl 3 4 (.l 0) (.t fun _ => z.2.length)), (12, .int .i64 (.t fun _ => nI z.1))],
      [.dead, .box 78 [.any, .any, .any, .ro TableK fun _ => ts], .box 78 [.any, .any, .any, .ro TableK fun _ => ts.map hallsR], .row 31 CallK (fun _ => z.2)]))
      (fun z => z.1 ≤ l.length ∧ z.2 = (l.take z.1).filter hallB) (fun z => l.length - z.1) (0, []) ⟨Nat.zero_le _, rfl⟩ ?_ ?_ ?_
    · cbv; (simp only [sxs, sxb, and_self, and_true, true_and, implies_true, imp_self, bne_eq_false_iff_eq, Nat.zero_add, Nat.le_refl, Int.toNat_natCast, Int.ofNat_lt, Int.natCast_nonneg, decide_eq_true_eq, decide_eq_false_iff_not, bne_iff_ne, ne_eq]; try dsimp only [Kd.T, Kds.T, AK.T, AKs.T]); all_goals ((repeat' apply And.intro) <;> first | rfl | assumption | exact trivial)
    · cbv; (simp only [sxs, sxb, and_self, and_true, true_and, implies_true, imp_self, bne_eq_false_iff_eq, Nat.zero_add, Nat.le_refl, Int.toNat_natCast, Int.ofNat_lt, Int.natCast_nonneg, decide_eq_true_eq, decide_eq_false_iff_not, bne_iff_ne, ne_eq]; try dsimp only [Kd.T, Kds.T, AK.T, AKs.T]); all_goals ((repeat' apply And.intro) <;> first | rfl | assumption | exact trivial)
    rintro ⟨i, m⟩ ⟨hi, he⟩ ih2
    simp only at hi he
    have hml : m.length ≤ 8 := by
      have q := List.length_filter_le hallB (l.take i)
      rw [← he, List.length_take] at q
      omega
    refine AM.run2 hG 100 (by cbv) ?_ ?_
    · (simp only [sxs, sxb, and_self, and_true, true_and, implies_true, imp_self, bne_eq_false_iff_eq, Nat.zero_add, Nat.le_refl, Int.toNat_natCast, Int.ofNat_lt, Int.natCast_nonneg, decide_eq_true_eq, decide_eq_false_iff_not, bne_iff_ne, ne_eq]; try dsimp only [Kd.T, Kds.T, AK.T, AKs.T])
      exact hlt
    refine AM.case 56 rfl (fun h4 => ?_) (fun h4 => ?_) <;> (simp only [sxs, sxb, and_self, and_true, true_and, implies_true, imp_self, bne_eq_false_iff_eq, Nat.zero_add, Nat.le_refl, Int.toNat_natCast, Int.ofNat_lt, Int.natCast_nonneg, decide_eq_true_eq, decide_eq_false_iff_not, bne_iff_ne, ne_eq] at h4; try dsimp only [Kd.T, Kds.T, AK.T, AKs.T] at h4)
    · replace h4 : i < l.length := by rw [← h1]; exact h4
      have hst := filter_step hallB zc h4
      refine AM.run2 hG 100 (by cbv) ?_ ?_
      · (simp only [sxs, sxb, and_self, and_true, true_and, implies_true, imp_self, bne_eq_false_iff_eq, Nat.zero_add, Nat.le_refl, Int.toNat_natCast, Int.ofNat_lt, Int.natCast_nonneg, decide_eq_true_eq, decide_eq_false_iff_not, bne_iff_ne, ne_eq]; try dsimp only [Kd.T, Kds.T, AK.T, AKs.T])
        simp only [h1]
        exact ⟨h4, h4, hlt⟩
      refine AM.case 69 rfl (fun h5 => ?_) (fun h5 => ?_) <;> (simp only [sxs, sxb, and_self, and_true, true_and, implies_true, imp_self, bne_eq_false_iff_eq, Nat.zero_add, Nat.le_refl, Int.toNat_natCast, Int.ofNat_lt, Int.natCast_nonneg, decide_eq_true_eq, decide_eq_false_iff_not, bne_iff_ne, ne_eq] at h5; try dsimp only [Kd.T, Kds.T, AK.T, AKs.T] at h5)
      · simp only [h1] at h5
        rw [if_pos (show hallB (l.getD i zc) = true from decide_eq_true h5)] at hst
        refine AM.run2 hG 100 (by cbv) ?_ ?_
        · (simp only [sxs, sxb, and_self, and_true, true_and, implies_true, imp_self, bne_eq_false_iff_eq, Nat.zero_add, Nat.le_refl, Int.toNat_natCast, Int.ofNat_lt, Int.natCast_nonneg, decide_eq_true_eq, decide_eq_false_iff_not, bne_iff_ne, ne_eq]; try dsimp only [Kd.T, Kds.T, AK.T, AKs.T])
          simp only [h1, maxLen, List.length_take, List.length_cons, List.length_nil]
          exact ⟨⟨by omega, by omega⟩, h4, h4, hlt⟩
        refine AM.ren hB [0, 1, 2, 5] (by cbv) (by cbv) (by cbv) ?_ ?_ (ih2 (i + 1, m ++ [l.getD i zc]) ⟨by simp only; omega, ?_⟩ (by simp only; omega))
        · (simp only [sxs, sxb, and_self, and_true, true_and, implies_true, imp_self, bne_eq_false_iff_eq, Nat.zero_add, Nat.le_refl, Int.toNat_natCast, Int.ofNat_lt, Int.natCast_nonneg, decide_eq_true_eq, decide_eq_false_iff_not, bne_iff_ne, ne_eq]; try dsimp only [Kd.T, Kds.T, AK.T, AKs.T])
          simp only [h1]
          rw [w64s (by omega), List.length_append]
          exact ⟨rfl, rfl⟩
        · (simp only [sxs, sxb, and_self, and_true, true_and, implies_true, imp_self, bne_eq_false_iff_eq, Nat.zero_add, Nat.le_refl, Int.toNat_natCast, Int.ofNat_lt, Int.natCast_nonneg, decide_eq_true_eq, decide_eq_false_iff_not, bne_iff_ne, ne_eq]; try dsimp only [Kd.T, Kds.T, AK.T, AKs.T])
          simp only [h1]
          rfl
        · simp only
          rw [he, hst]
      · simp only [h1] at h5
        rw [if_neg (show ¬ hallB (l.getD i zc) = true from by rw [hallB, decide_eq_true_eq]; exact fun q => q h5), List.append_nil] at hst
        refine AM.run2 hG 100 (by cbv) ?_ ?_
        · (simp only [sxs, sxb, and_self, and_true, true_and, implies_true, imp_self, bne_eq_false_iff_eq, Nat.zero_add, Nat.le_refl, Int.toNat_natCast, Int.ofNat_lt, Int.natCast_nonneg, decide_eq_true_eq, decide_eq_false_iff_not, bne_iff_ne, ne_eq]; try dsimp only [Kd.T, Kds.T, AK.T, AKs.T])
        refine AM.ren hB [0, 1, 2, 3] (by cbv) (by cbv) (by cbv) ?_ ?_ (ih2 (i + 1, m) ⟨by simp only; omega, ?_⟩ (by simp only; omega))
        · (simp only [sxs, sxb, and_self, and_true, true_and, implies_true, imp_self, bne_eq_false_iff_eq, Nat.zero_add, Nat.le_refl, Int.toNat_natCast, Int.ofNat_lt, Int.natCast_nonneg, decide_eq_true_eq, decide_eq_false_iff_not, bne_iff_ne, ne_eq]; try dsimp only [Kd.T, Kds.T, AK.T, AKs.T])
          rw [w64s (by omega)]
        · (simp only [sxs, sxb, and_self, and_true, true_and, implies_true, imp_self, bne_eq_false_iff_eq, Nat.zero_add, Nat.le_refl, Int.toNat_natCast, Int.ofNat_lt, Int.natCast_nonneg, decide_eq_true_eq, decide_eq_false_iff_not, bne_iff_ne, ne_eq]; try dsimp only [Kd.T, Kds.T, AK.T, AKs.T])
        · simp only
          rw [he, hst]
    clear ih2
    replace h4 : l.length ≤ i := by rw [← h1]; exact Nat.le_of_not_lt h4
    rw [List.take_of_length_le h4] at he
    refine AM.frz [3] (by cbv) (by (simp only [sxs, sxb, and_self, and_true, true_and, implies_true, imp_self, bne_eq_false_iff_eq, Nat.zero_add, Nat.le_refl, Int.toNat_natCast, Int.ofNat_lt, Int.natCast_nonneg, decide_eq_true_eq, decide_eq_false_iff_not, bne_iff_ne, ne_eq]; try dsimp only [Kd.T, Kds.T, AK.T, AKs.T])) ?_
    refine AM.run2 hG 100 (by cbv) ?_ ?_
    · (simp only [sxs, sxb, and_self, and_true, true_and, implies_true, imp_self, bne_eq_false_iff_eq, Nat.zero_add, Nat.le_refl, Int.toNat_natCast, Int.ofNat_lt, Int.natCast_nonneg, decide_eq_true_eq, decide_eq_false_iff_not, bne_iff_ne, ne_eq]; try dsimp only [Kd.T, Kds.T, AK.T, AKs.T])
      simp only [h1, h2, h3m, h4m, h5m, List.length_map, List.take_length]
      exact ⟨hlt, hlt, ⟨by rw [← he]; omega, by omega⟩, fun _ => hlt, fun _ => hlt, fun _ => hlt, fun _ => hlt, fun _ => hlt, fun _ => hlt, fun _ => hlt⟩
    have hwo : ((ownC (cap, l, u) : Nat) : Int) = IntKind.i64.wrap ((l.length : Int) - (m.length : Int)) := by
      rw [how, he, w64 (by omega) (by omega)]
      omega
    refine AM.sure 122 false rfl (by (simp only [sxs, sxb, and_self, and_true, true_and, implies_true, imp_self, bne_eq_false_iff_eq, Nat.zero_add, Nat.le_refl, Int.toNat_natCast, Int.ofNat_lt, Int.natCast_nonneg, decide_eq_true_eq, decide_eq_false_iff_not, bne_iff_ne, ne_eq]; try dsimp only [Kd.T, Kds.T, AK.T, AKs.T]); simp only [h1, h2, h3m, h4m, h5m, List.take_length]; exact ⟨fun q => q.elim (fun q => q he.symm) (fun q => q hwo), trivial⟩) ?_
    refine AM.run2 hG 100 (by cbv) ?_ ?_
    · (simp only [sxs, sxb, and_self, and_true, true_and, implies_true, imp_self, bne_eq_false_iff_eq, Nat.zero_add, Nat.le_refl, Int.toNat_natCast, Int.ofNat_lt, Int.natCast_nonneg, decide_eq_true_eq, decide_eq_false_iff_not, bne_iff_ne, ne_eq]; try dsimp only [Kd.T, Kds.T, AK.T, AKs.T])
    refine AM.ren hB [0, 1, 2] (by cbv) (by cbv) (by cbv) ?_ ?_ (ih (d + 1) (by omega) (by omega))
    · (simp only [sxs, sxb, and_self, and_true, true_and, implies_true, imp_self, bne_eq_false_iff_eq, Nat.zero_add, Nat.le_refl, Int.toNat_natCast, Int.ofNat_lt, Int.natCast_nonneg, decide_eq_true_eq, decide_eq_false_iff_not, bne_iff_ne, ne_eq]; try dsimp only [Kd.T, Kds.T, AK.T, AKs.T])
      rw [w64s (by omega)]
    · (simp only [sxs, sxb, and_self, and_true, true_and, implies_true, imp_self, bne_eq_false_iff_eq, Nat.zero_add, Nat.le_refl, Int.toNat_natCast, Int.ofNat_lt, Int.natCast_nonneg, decide_eq_true_eq, decide_eq_false_iff_not, bne_iff_ne, ne_eq]; try dsimp only [Kd.T, Kds.T, AK.T, AKs.T])
  clear ih
  refine AM.run2 hG 100 (by cbv) ?_ ?_
  · (simp only [sxs, sxb, and_self, and_true, true_and, implies_true, imp_self, bne_eq_false_iff_eq, Nat.zero_add, Nat.le_refl, Int.toNat_natCast, Int.ofNat_lt, Int.natCast_nonneg, decide_eq_true_eq, decide_eq_false_iff_not, bne_iff_ne, ne_eq]; try dsimp only [Kd.T, Kds.T, AK.T, AKs.T])
  refine AM.ret2 hG (by cbv) (by (simp only [sxs, sxb, and_self, and_true, true_and, implies_true, imp_self, bne_eq_false_iff_eq, Nat.zero_add, Nat.le_refl, Int.toNat_natCast, Int.ofNat_lt, Int.natCast_nonneg, decide_eq_true_eq, decide_eq_false_iff_not, bne_iff_ne, ne_eq]; try dsimp only [Kd.T, Kds.T, AK.T, AKs.T])) (hQ _ _ (FinRo.of (by cbv) (by cbv) ?_ ?_))
  · (simp only [sxs, sxb, and_self, and_true, true_and, implies_true, imp_self, bne_eq_false_iff_eq, Nat.zero_add, Nat.le_refl, Int.toNat_natCast, Int.ofNat_lt, Int.natCast_nonneg, decide_eq_true_eq, decide_eq_false_iff_not, bne_iff_ne, ne_eq]; try dsimp only [Kd.T, Kds.T, AK.T, AKs.T])
  exact ⟨rfl⟩
end Go.Sx.Yteiehkafkcggeaa
