/- The law PurgeClean. -/
import Derived.Test.YteiehkafkcggeaaU13
import Derived.Test.YteiehkafkcggeaaL11
namespace Go.Sx.Yteiehkafkcggeaa
open Go Go.Sx Go.Proofs
set_option linter.unusedVariables false
set_option linter.unusedSimpArgs false
set_option maxRecDepth 100000

def SKnown : List AV → Option FOut := sigSpec [] [.bool] (fun _ => (true, ())) (Kds.wf [])
set_option maxHeartbeats 8000000 in
theorem law12 : FnOk Try.prog 12 (sigSpec [IntsK, I64] [.bool] (fun _ => (true, ())) (Kds.wf [IntsK, I64])) := by
  refine fn_of (rs := [.tmp 4]) (env [(11, SKnown), (81, S81), (32, S32), (72, S72), (74, S74), (63, S63), (68, S68)]
    ⟨law11, fn81, fn32, fn72, fn74, fn63, fn68, trivial⟩) Try.func12 (by kernel_rfl) rfl rfl Try.ntmps12 ?_
  rintro ⟨(nums : List Int), (e0 : Int), u2⟩ _ G hG hQ
  refine AM.runTo2 hG 26 100 (by cbv) (by (simp only [sxs, sxb, and_self, and_true, true_and, implies_true, imp_self, bne_eq_false_iff_eq, Nat.zero_add, Nat.le_refl, Int.toNat_natCast, Int.ofNat_lt, Int.natCast_nonneg, decide_eq_true_eq, decide_eq_false_iff_not, bne_iff_ne, ne_eq]; try dsimp only [Kd.T, Kds.T, AK.T, AKs.T]); exact ⟨by decide, by simp only [Kds.wf]⟩) ?_
  refine AM.frz [0] (by cbv) (by (simp only [sxs, sxb, and_self, and_true, true_and, implies_true, imp_self, bne_eq_false_iff_eq, Nat.zero_add, Nat.le_refl, Int.toNat_natCast, Int.ofNat_lt, Int.natCast_nonneg, decide_eq_true_eq, decide_eq_false_iff_not, bne_iff_ne, ne_eq]; try dsimp only [Kd.T, Kds.T, AK.T, AKs.T])) ?_
  obtain ⟨e, he⟩ : ∃ e, modS e0 21 = e := ⟨_, rfl⟩
  have he0 := modS_in e0 (show (0 : Int) < 21 by decide)
  rw [he] at he0
  have hn1 := carsN_in nums
  have hmd : madeH nums = (loadsL nums (carsN nums), faultL nums (carsN nums), insL nums (carsN nums), tabsH nums 3, ()) := rfl
  obtain ⟨n, hn⟩ : ∃ n, carsN nums = n := ⟨_, rfl⟩
  rw [hn] at hmd hn1
  have hld := loadsL_len nums n
  have hfl := faultL_len nums n
  have hin := insL_len nums n
  have hts := tabs_made nums
  have hli := loads_in nums n
  obtain ⟨ld, qld⟩ : ∃ x, loadsL nums n = x := ⟨_, rfl⟩
  obtain ⟨fl, qfl⟩ : ∃ x, faultL nums n = x := ⟨_, rfl⟩
  obtain ⟨inn, qin⟩ : ∃ x, insL nums n = x := ⟨_, rfl⟩
  obtain ⟨ts, qts⟩ : ∃ x, tabsH nums 3 = x := ⟨_, rfl⟩
  rw [qld] at hmd hld hli
  rw [qfl] at hmd hfl
  rw [qin] at hmd hin
  rw [qts] at hmd hts
  refine AM.imp2 (fr' := frame 143 [(1, .int .i64 (.t fun _ => e)), (5, .bool (.t fun _ => true)), (6, .ptr 1 0)])
    (h' := [.dead, .box 78 [.ro I64 fun _ => ld, .ro .bool fun _ => fl, .ro .bool fun _ => inn, .ro TableK fun _ => ts]]) (by cbv) (by cbv) ?_ ?_ ?_
  · (simp only [sxs, sxb, and_self, and_true, true_and, implies_true, imp_self, bne_eq_false_iff_eq, Nat.zero_add, Nat.le_refl, Int.toNat_natCast, Int.ofNat_lt, Int.natCast_nonneg, decide_eq_true_eq, decide_eq_false_iff_not, bne_iff_ne, ne_eq]; try dsimp only [Kd.T, Kds.T, AK.T, AKs.T])
    exact he
  · (simp only [sxs, sxb, and_self, and_true, true_and, implies_true, imp_self, bne_eq_false_iff_eq, Nat.zero_add, Nat.le_refl, Int.toNat_natCast, Int.ofNat_lt, Int.natCast_nonneg, decide_eq_true_eq, decide_eq_false_iff_not, bne_iff_ne, ne_eq]; try dsimp only [Kd.T, Kds.T, AK.T, AKs.T])
    rw [hmd]
    exact ⟨rfl, rfl, List.take_length, rfl⟩
  have hE : handE (ld, fl, inn, ts, ()) = 0 := hand_made (by omega) (by omega) (by omega) (by omega) hts hli
  have hL : handL (ld, fl, inn, ts, ()) := hand_L (by omega) (by omega) (by omega) hts
  obtain ⟨W, hW⟩ : ∃ W, wordR (ld, fl, inn, ts, ()) e = W := ⟨_, rfl⟩
  have hWi := wordR_in (ld, fl, inn, ts, ()) e
  simp only [hW, hld] at hWi
  have hO : overO (ld, fl, inn, ts, ()) e = ((ld, List.replicate n false, inL W n, ts.map hallsR, ()), W, 0) := by
    rw [overO_ok (ask_made hE (by omega) (by omega)), overR, hW]
    simp only [hld]
  have hts2 := tabs_halls hts
  have hE2 : handE (ld, List.replicate n false, inL W n, ts.map hallsR, ()) = 0 := hand_made (by omega) (by omega) (by rw [List.length_replicate, hld]) (by rw [inL_len, hld]) hts2 hli
  have hL2 : handL (ld, List.replicate n false, inL W n, ts.map hallsR, ()) := hand_L (by omega) (by rw [List.length_replicate, hld]) (by rw [inL_len, hld]) hts2
  obtain ⟨C, hC⟩ : ∃ C, cleanL ld (inL W n) e (callsOf (ts.map hallsR)) n = C := ⟨_, rfl⟩
  have hCl : C.length = n := by rw [← hC, cleanL_len]
  have hCO : cleanO (ld, List.replicate n false, inL W n, ts.map hallsR, ()) e = (C, 0) := by
    rw [cleanO, if_neg (by rw [ask_made hE2 (by omega) (by omega)]; decide)]
    simp only [hld, hC]
  have hCa : ∀ k, k < n → C.getD k false = true := fun k hk => by
    have := clean_at (h := (ld, fl, inn, ts, ())) (e := e) (k := k) (by simp only; omega)
    simp only [hW, hld, hC] at this
    exact this
  obtain ⟨V, hV⟩ : ∃ V, wordR (ld, List.replicate n false, inL W n, ts.map hallsR, ()) e = V := ⟨_, rfl⟩
  have hVi := wordR_in (ld, List.replicate n false, inL W n, ts.map hallsR, ()) e
  simp only [hV, hld] at hVi
  have hWO : wordO (ld, List.replicate n false, inL W n, ts.map hallsR, ()) e = (V, 0) := by
    rw [wordO, if_neg (by rw [ask_made hE2 (by omega) (by omega)]; decide), hV]
  have hB1 := bits_ok hn1.1 hn1.2 hWi
  have hB2 := bits_ok hn1.1 hn1.2 hVi
  have hp8 : (2 : Int) ^ n ≤ 256 := by
    have q1 : (2 : Nat) ^ n ≤ 2 ^ 8 := Nat.pow_le_pow_right (by decide) hn1.2
    have q2 : ((2 : Int)) ^ n = (((2 : Nat) ^ n : Nat) : Int) := by simp
    rw [q2]
    omega
  have hVb : ∀ k, k < n → (bitL V n).getD k false = ltI e (ld.getD k 0) := fun k hk => by
    have := load_bit (h := (ld, fl, inn, ts, ())) (e := e) (k := k) (by simp only; omega)
    rw [overR] at this
    simp only [hW, hld, hV] at this
    exact this
  refine AM.runTo2 hG 63 200 (by cbv) ?_ ?_
  · (simp only [sxs, sxb, and_self, and_true, true_and, implies_true, imp_self, bne_eq_false_iff_eq, Nat.zero_add, Nat.le_refl, Int.toNat_natCast, Int.ofNat_lt, Int.natCast_nonneg, decide_eq_true_eq, decide_eq_false_iff_not, bne_iff_ne, ne_eq]; try dsimp only [Kd.T, Kds.T, AK.T, AKs.T])
    simp only [hO, hWO, hld]
    exact ⟨⟨by omega, by omega⟩, ⟨by omega, by rw [hts2.1]; decide⟩, ⟨by omega, by omega⟩, hL2, hL⟩
  refine AM.imp2 (fr' := frame 143 [(1, .int .i64 (.t fun _ => e)), (5, .bool (.t fun _ => true)), (6, .ptr 1 0), (7, .ptr 2 0), (9, .int .i64 (.l 0)), (10, .ro .bool fun _ => C), (11, .int .i64 (.l 0)), (12, .ro .bool fun _ => bitL W n), (13, .int .i64 (.l 0)), (15, .int .i64 (.l 0)), (16, .ro .bool fun _ => bitL V n), (17, .int .i64 (.l 0)), (18, .int .i64 (.t fun _ => nI n))])
    (h' := [.dead, .box 78 [.ro I64 fun _ => ld, .ro .bool fun _ => fl, .ro .bool fun _ => inn, .ro TableK fun _ => ts], .box 78 [.ro I64 fun _ => ld, .ro .bool fun _ => List.replicate n false, .ro .bool fun _ => inL W n, .ro TableK fun _ => ts.map hallsR]]) (by cbv) (by cbv) ?_ ?_ ?_
  · (simp only [sxs, sxb, and_self, and_true, true_and, implies_true, imp_self, bne_eq_false_iff_eq, Nat.zero_add, Nat.le_refl, Int.toNat_natCast, Int.ofNat_lt, Int.natCast_nonneg, decide_eq_true_eq, decide_eq_false_iff_not, bne_iff_ne, ne_eq]; try dsimp only [Kd.T, Kds.T, AK.T, AKs.T])
    simp only [hO, hWO, hCO, hld]
    exact ⟨trivial, trivial, trivial, congrArg (fun z => z.1) hB1, congrArg (fun z => z.2) hB1, trivial, congrArg (fun z => z.1) hB2, congrArg (fun z => z.2) hB2, trivial⟩
  · (simp only [sxs, sxb, and_self, and_true, true_and, implies_true, imp_self, bne_eq_false_iff_eq, Nat.zero_add, Nat.le_refl, Int.toNat_natCast, Int.ofNat_lt, Int.natCast_nonneg, decide_eq_true_eq, decide_eq_false_iff_not, bne_iff_ne, ne_eq]; try dsimp only [Kd.T, Kds.T, AK.T, AKs.T])
    simp only [hO]
    exact ⟨trivial, trivial, trivial, trivial⟩
  refine AM.run2 hG 200 (by cbv) ?_ ?_
  · (simp only [sxs, sxb, and_self, and_true, true_and, implies_true, imp_self, bne_eq_false_iff_eq, Nat.zero_add, Nat.le_refl, Int.toNat_natCast, Int.ofNat_lt, Int.natCast_nonneg, decide_eq_true_eq, decide_eq_false_iff_not, bne_iff_ne, ne_eq]; try dsimp only [Kd.T, Kds.T, AK.T, AKs.T])
  refine AM.sure 105 false rfl (by (simp only [sxs, sxb, and_self, and_true, true_and, implies_true, imp_self, bne_eq_false_iff_eq, Nat.zero_add, Nat.le_refl, Int.toNat_natCast, Int.ofNat_lt, Int.natCast_nonneg, decide_eq_true_eq, decide_eq_false_iff_not, bne_iff_ne, ne_eq]; try dsimp only [Kd.T, Kds.T, AK.T, AKs.T]); simp [hCl, bitL_len, inL_len]) ?_
  refine AM.run2 hG 200 (by cbv) ?_ ?_
  · (simp only [sxs, sxb, and_self, and_true, true_and, implies_true, imp_self, bne_eq_false_iff_eq, Nat.zero_add, Nat.le_refl, Int.toNat_natCast, Int.ofNat_lt, Int.natCast_nonneg, decide_eq_true_eq, decide_eq_false_iff_not, bne_iff_ne, ne_eq]; try dsimp only [Kd.T, Kds.T, AK.T, AKs.T])
  refine AM.loopI (fun k : Nat => (frame 143 [(1, .int .i64 (.t fun _ => e)), (5, .bool (.t fun _ => true)), (6, .ptr 1 0), (7, .ptr 2 0), (10, .ro .bool fun _ => C), (12, .ro .bool fun _ => bitL W n), (16, .ro .bool fun _ => bitL V n), (18, .int .i64 (.t fun _ => nI n)), (19, .int .i64 (.t fun _ => nI k))],
    [.dead, .box 78 [.ro I64 fun _ => ld, .ro .bool fun _ => fl, .ro .bool fun _ => inn, .ro TableK fun _ => ts], .box 78 [.ro I64 fun _ => ld, .ro .bool fun _ => List.replicate n false, .ro .bool fun _ => inL W n, .ro TableK fun _ => ts.map hallsR]]))
    (fun k => k ≤ n) (fun k => n - k) 0 (Nat.zero_le _) ?_ ?_ ?_
  · cbv; (simp only [sxs, sxb, and_self, and_true, true_and, implies_true, imp_self, bne_eq_false_iff_eq, Nat.zero_add, Nat.le_refl, Int.toNat_natCast, Int.ofNat_lt, Int.natCast_nonneg, decide_eq_true_eq, decide_eq_false_iff_not, bne_iff_ne, ne_eq]; try dsimp only [Kd.T, Kds.T, AK.T, AKs.T]); all_goals ((repeat' apply And.intro) <;> first | rfl | assumption | exact trivial)
  · cbv; (simp only [sxs, sxb, and_self, and_true, true_and, implies_true, imp_self, bne_eq_false_iff_eq, Nat.zero_add, Nat.le_refl, Int.toNat_natCast, Int.ofNat_lt, Int.natCast_nonneg, decide_eq_true_eq, decide_eq_false_iff_not, bne_iff_ne, ne_eq]; try dsimp only [Kd.T, Kds.T, AK.T, AKs.T]); all_goals ((repeat' apply And.intro) <;> first | rfl | assumption | exact trivial)
  rintro k hk ih
  refine AM.run2 hG 100 (by cbv) ?_ ?_
  · (simp only [sxs, sxb, and_self, and_true, true_and, implies_true, imp_self, bne_eq_false_iff_eq, Nat.zero_add, Nat.le_refl, Int.toNat_natCast, Int.ofNat_lt, Int.natCast_nonneg, decide_eq_true_eq, decide_eq_false_iff_not, bne_iff_ne, ne_eq]; try dsimp only [Kd.T, Kds.T, AK.T, AKs.T])
  refine AM.case 108 rfl (fun h => ?_) (fun h => ?_) <;> (simp only [sxs, sxb, and_self, and_true, true_and, implies_true, imp_self, bne_eq_false_iff_eq, Nat.zero_add, Nat.le_refl, Int.toNat_natCast, Int.ofNat_lt, Int.natCast_nonneg, decide_eq_true_eq, decide_eq_false_iff_not, bne_iff_ne, ne_eq] at h; try dsimp only [Kd.T, Kds.T, AK.T, AKs.T] at h)
  · refine AM.run2 hG 100 (by cbv) ?_ ?_
    · (simp only [sxs, sxb, and_self, and_true, true_and, implies_true, imp_self, bne_eq_false_iff_eq, Nat.zero_add, Nat.le_refl, Int.toNat_natCast, Int.ofNat_lt, Int.natCast_nonneg, decide_eq_true_eq, decide_eq_false_iff_not, bne_iff_ne, ne_eq]; try dsimp only [Kd.T, Kds.T, AK.T, AKs.T])
      simp only [hCl, inL_len, bitL_len, hld]
      exact ⟨h, h, fun _ => h, fun _ => h, fun _ => h, fun _ => h, fun _ => h, fun _ => h, fun _ => h⟩
    have q1 : C.getD k Kd.bool.z = true := hCa k h
    have q2 : ¬ (inL W n).getD k Kd.bool.z = (bitL W n).getD k Kd.bool.z := fun q => by
      have := in_bit (w := W) h
      rw [show (inL W n).getD k false = (bitL W n).getD k false from q] at this
      simp at this
    refine AM.sure 141 false rfl (by (simp only [sxs, sxb, and_self, and_true, true_and, implies_true, imp_self, bne_eq_false_iff_eq, Nat.zero_add, Nat.le_refl, Int.toNat_natCast, Int.ofNat_lt, Int.natCast_nonneg, decide_eq_true_eq, decide_eq_false_iff_not, bne_iff_ne, ne_eq]; try dsimp only [Kd.T, Kds.T, AK.T, AKs.T]); exact ⟨fun q => q.elim (fun q => Bool.noConfusion (q.symm.trans q1)) q2, hVb k h⟩) ?_
    refine AM.run2 hG 100 (by cbv) ?_ ?_
    · (simp only [sxs, sxb, and_self, and_true, true_and, implies_true, imp_self, bne_eq_false_iff_eq, Nat.zero_add, Nat.le_refl, Int.toNat_natCast, Int.ofNat_lt, Int.natCast_nonneg, decide_eq_true_eq, decide_eq_false_iff_not, bne_iff_ne, ne_eq]; try dsimp only [Kd.T, Kds.T, AK.T, AKs.T])
    refine AM.imp2 (by cbv) (by cbv) ?_ ?_ (ih (k + 1) (by omega) (by omega))
    · (simp only [sxs, sxb, and_self, and_true, true_and, implies_true, imp_self, bne_eq_false_iff_eq, Nat.zero_add, Nat.le_refl, Int.toNat_natCast, Int.ofNat_lt, Int.natCast_nonneg, decide_eq_true_eq, decide_eq_false_iff_not, bne_iff_ne, ne_eq]; try dsimp only [Kd.T, Kds.T, AK.T, AKs.T])
      rw [w64s (by omega)]
    · (simp only [sxs, sxb, and_self, and_true, true_and, implies_true, imp_self, bne_eq_false_iff_eq, Nat.zero_add, Nat.le_refl, Int.toNat_natCast, Int.ofNat_lt, Int.natCast_nonneg, decide_eq_true_eq, decide_eq_false_iff_not, bne_iff_ne, ne_eq]; try dsimp only [Kd.T, Kds.T, AK.T, AKs.T])
  clear ih
  refine AM.run2 hG 100 (by cbv) ?_ ?_
  · (simp only [sxs, sxb, and_self, and_true, true_and, implies_true, imp_self, bne_eq_false_iff_eq, Nat.zero_add, Nat.le_refl, Int.toNat_natCast, Int.ofNat_lt, Int.natCast_nonneg, decide_eq_true_eq, decide_eq_false_iff_not, bne_iff_ne, ne_eq]; try dsimp only [Kd.T, Kds.T, AK.T, AKs.T])
  refine AM.ret2 hG (by cbv) (by (simp only [sxs, sxb, and_self, and_true, true_and, implies_true, imp_self, bne_eq_false_iff_eq, Nat.zero_add, Nat.le_refl, Int.toNat_natCast, Int.ofNat_lt, Int.natCast_nonneg, decide_eq_true_eq, decide_eq_false_iff_not, bne_iff_ne, ne_eq]; try dsimp only [Kd.T, Kds.T, AK.T, AKs.T])) (hQ _ _ (FinRo.of (by cbv) (by cbv) ?_ ?_))
  · (simp only [sxs, sxb, and_self, and_true, true_and, implies_true, imp_self, bne_eq_false_iff_eq, Nat.zero_add, Nat.le_refl, Int.toNat_natCast, Int.ofNat_lt, Int.natCast_nonneg, decide_eq_true_eq, decide_eq_false_iff_not, bne_iff_ne, ne_eq]; try dsimp only [Kd.T, Kds.T, AK.T, AKs.T])
  exact ⟨rfl⟩
end Go.Sx.Yteiehkafkcggeaa
