/- The law PurgeWord. -/
import Derived.Test.YteiehkafkcggeaaU13
import Derived.Test.YteiehkafkcggeaaL11
namespace Go.Sx.Yteiehkafkcggeaa
open Go Go.Sx Go.Proofs
set_option linter.unusedVariables false
set_option linter.unusedSimpArgs false
set_option maxRecDepth 100000

def SKnown : List AV → Option FOut := sigSpec [] [.bool] (fun _ => (true, ())) (Kds.wf [])
set_option maxHeartbeats 8000000 in
theorem law13 : FnOk Try.prog 13 (sigSpec [IntsK, IntsK, I64, I64] [.bool] (fun _ => (true, ())) (Kds.wf [IntsK, IntsK, I64, I64])) := by
  refine fn_of (rs := [.tmp 8]) (env [(11, SKnown), (81, S81), (32, S32), (68, S68)]
    ⟨law11, fn81, fn32, fn68, trivial⟩) Try.func13 (by kernel_rfl) rfl rfl Try.ntmps13 ?_
  rintro ⟨(nums : List Int), (more : List Int), (e0 : Int), (g0 : Int), u2⟩ _ G hG hQ
  obtain ⟨e, he⟩ : ∃ e, modS e0 21 = e := ⟨_, rfl⟩
  have he0 := modS_in e0 (show (0 : Int) < 21 by decide)
  rw [he] at he0
  obtain ⟨g, hg⟩ : ∃ g, modS g0 21 = g := ⟨_, rfl⟩
  have hg0 := modS_in g0 (show (0 : Int) < 21 by decide)
  rw [hg] at hg0
  have hn1 := carsN_in nums
  have hmd : madeH nums = (loadsL nums (carsN nums), faultL nums (carsN nums), insL nums (carsN nums), tabsH nums 3, ()) := rfl
  obtain ⟨n, hn⟩ : ∃ n, carsN nums = n := ⟨_, rfl⟩
  rw [hn] at hmd hn1
  have hld := loadsL_len nums n
  have hfl := faultL_len nums n
  have hin := insL_len nums n
  have hts := tabs_made nums
  have htm := tabs_made more
  have hm3 : (madeH more).2.2.2.1 = tabsH more 3 := rfl
  have hli := loads_in nums n
  obtain ⟨ld, qld⟩ : ∃ x, loadsL nums n = x := ⟨_, rfl⟩
  obtain ⟨fl, qfl⟩ : ∃ x, faultL nums n = x := ⟨_, rfl⟩
  obtain ⟨inn, qin⟩ : ∃ x, insL nums n = x := ⟨_, rfl⟩
  obtain ⟨ts, qts⟩ : ∃ x, tabsH nums 3 = x := ⟨_, rfl⟩
  obtain ⟨tm, qtm⟩ : ∃ x, tabsH more 3 = x := ⟨_, rfl⟩
  rw [qld] at hmd hld hli
  rw [qfl] at hmd hfl
  rw [qin] at hmd hin
  rw [qts] at hmd hts
  rw [qtm] at hm3 htm
  have hE : ∀ i2 : List Bool, i2.length = n → ∀ t2, TabsOk t2 → handE (ld, fl, i2, t2, ()) = 0 ∧ handL (ld, fl, i2, t2, ()) := fun i2 h2 t2 h3 => ⟨hand_made (by omega) (by omega) (by omega) (by omega) h3 hli, hand_L (by omega) (by omega) (by omega) h3⟩
  have hW : ∀ i2 : List Bool, i2.length = n → ∀ t2, TabsOk t2 → ∀ x : Int, 0 ≤ x → x ≤ 100 → wordO (ld, fl, i2, t2, ()) x = (wordN ld fl x n, 0) := fun i2 h2 t2 h3 x hx hy => by
    rw [wordO, if_neg (by rw [ask_made (hE i2 h2 t2 h3).1 (by omega) (by omega)]; decide), wordR]
    simp only [hld]
  refine AM.runTo2 hG 48 200 (by cbv) ?_ ?_
  · (simp only [sxs, sxb, and_self, and_true, true_and, implies_true, imp_self, bne_eq_false_iff_eq, Nat.zero_add, Nat.le_refl, Int.toNat_natCast, Int.ofNat_lt, Int.natCast_nonneg, decide_eq_true_eq, decide_eq_false_iff_not, bne_iff_ne, ne_eq]; try dsimp only [Kd.T, Kds.T, AK.T, AKs.T])
    simp only [hmd, hm3, he, hg]
    exact ⟨⟨by omega, by rw [htm.1]; decide⟩, ⟨by omega, by rw [hts.1]; decide⟩, by decide, by decide, by simp only [Kds.wf]⟩
  obtain ⟨A, hA⟩ : ∃ A, wordN ld fl e n = A := ⟨_, rfl⟩
  obtain ⟨f, hf⟩ : ∃ f, e + g = f := ⟨_, rfl⟩
  have hwf : IntKind.i64.wrap (e + g) = f := by rw [w64 (by omega) (by omega), hf]
  have w1 : ∀ t2, TabsOk t2 → wordO (ld, fl, inn, t2, ()) e = (A, 0) := fun t2 h => by rw [hW inn hin t2 h e (by omega) (by omega), hA]
  have htk : List.take inn.length inn = inn := List.take_length
  refine AM.imp2 (fr' := frame 114 [(2, .int .i64 (.t fun _ => e)), (3, .int .i64 (.t fun _ => f)), (9, .bool (.t fun _ => true)), (10, .ptr 2 0), (12, .int .i64 (.t fun _ => A)), (13, .int .i64 (.l 0)), (14, .int .i64 (.t fun _ => A)), (15, .int .i64 (.l 0)), (16, .int .i64 (.l 0))])
    (h' := [.row 4 .bool (fun _ => inn), .dead, .box 78 [.ro I64 fun _ => ld, .ro .bool fun _ => fl, .sl 0 1 (.l 0) (.t fun _ => n), .ro TableK fun _ => tm], .dead, .dead]) (by cbv) (by cbv) ?_ ?_ ?_
  · (simp only [sxs, sxb, and_self, and_true, true_and, implies_true, imp_self, bne_eq_false_iff_eq, Nat.zero_add, Nat.le_refl, Int.toNat_natCast, Int.ofNat_lt, Int.natCast_nonneg, decide_eq_true_eq, decide_eq_false_iff_not, bne_iff_ne, ne_eq]; try dsimp only [Kd.T, Kds.T, AK.T, AKs.T])
    simp only [hmd, hm3, he, hg, hwf, htk, w1 ts hts, w1 tm htm]
    exact ⟨trivial, trivial, trivial, trivial, trivial, trivial⟩
  · (simp only [sxs, sxb, and_self, and_true, true_and, implies_true, imp_self, bne_eq_false_iff_eq, Nat.zero_add, Nat.le_refl, Int.toNat_natCast, Int.ofNat_lt, Int.natCast_nonneg, decide_eq_true_eq, decide_eq_false_iff_not, bne_iff_ne, ne_eq]; try dsimp only [Kd.T, Kds.T, AK.T, AKs.T])
    simp only [hmd, hm3]
    exact ⟨trivial, trivial, trivial, hin, trivial⟩
  refine AM.loopI (fun z : Nat × List Bool => (frame 114 [(2, .int .i64 (.t fun _ => e)), (3, .int .i64 (.t fun _ => f)), (9, .bool (.t fun _ => true)), (10, .ptr 2 0), (12, .int .i64 (.t fun _ => A)), (13, .int .i64 (.l 0)), (14, .int .i64 (.t fun _ => A)), (15, .int .i64 (.l 0)), (16, .int .i64 (.t fun _ => nI z.1))],
    [.row 4 .bool (fun _ => z.2), .dead, .box 78 [.ro I64 fun _ => ld, .ro .bool fun _ => fl, .sl 0 1 (.l 0) (.t fun _ => n), .ro TableK fun _ => tm], .dead, .dead]))
    (fun z => z.1 ≤ n ∧ z.2.length = n) (fun z => n - z.1) (0, inn) ⟨Nat.zero_le _, hin⟩ ?_ ?_ ?_
  · cbv; (simp only [sxs, sxb, and_self, and_true, true_and, implies_true, imp_self, bne_eq_false_iff_eq, Nat.zero_add, Nat.le_refl, Int.toNat_natCast, Int.ofNat_lt, Int.natCast_nonneg, decide_eq_true_eq, decide_eq_false_iff_not, bne_iff_ne, ne_eq]; try dsimp only [Kd.T, Kds.T, AK.T, AKs.T]); all_goals ((repeat' apply And.intro) <;> first | rfl | assumption | exact trivial)
  · cbv; (simp only [sxs, sxb, and_self, and_true, true_and, implies_true, imp_self, bne_eq_false_iff_eq, Nat.zero_add, Nat.le_refl, Int.toNat_natCast, Int.ofNat_lt, Int.natCast_nonneg, decide_eq_true_eq, decide_eq_false_iff_not, bne_iff_ne, ne_eq]; try dsimp only [Kd.T, Kds.T, AK.T, AKs.T])
  rintro ⟨k, l⟩ ⟨hk, hl⟩ ih
  simp only at hk hl
  refine AM.run2 hG 100 (by cbv) ?_ ?_
  · (simp only [sxs, sxb, and_self, and_true, true_and, implies_true, imp_self, bne_eq_false_iff_eq, Nat.zero_add, Nat.le_refl, Int.toNat_natCast, Int.ofNat_lt, Int.natCast_nonneg, decide_eq_true_eq, decide_eq_false_iff_not, bne_iff_ne, ne_eq]; try dsimp only [Kd.T, Kds.T, AK.T, AKs.T])
  refine AM.case 52 rfl (fun h => ?_) (fun h => ?_) <;> (simp only [sxs, sxb, and_self, and_true, true_and, implies_true, imp_self, bne_eq_false_iff_eq, Nat.zero_add, Nat.le_refl, Int.toNat_natCast, Int.ofNat_lt, Int.natCast_nonneg, decide_eq_true_eq, decide_eq_false_iff_not, bne_iff_ne, ne_eq] at h; try dsimp only [Kd.T, Kds.T, AK.T, AKs.T] at h)
  · refine AM.run2 hG 100 (by cbv) ?_ ?_
    · (simp only [sxs, sxb, and_self, and_true, true_and, implies_true, imp_self, bne_eq_false_iff_eq, Nat.zero_add, Nat.le_refl, Int.toNat_natCast, Int.ofNat_lt, Int.natCast_nonneg, decide_eq_true_eq, decide_eq_false_iff_not, bne_iff_ne, ne_eq]; try dsimp only [Kd.T, Kds.T, AK.T, AKs.T])
      exact ⟨h, by omega, h, by omega⟩
    refine AM.imp2 (by cbv) (by cbv) ?_ ?_ (ih (k + 1, l.set k (!l.getD k false)) ⟨by simp only; omega, by simp only [List.length_set]; exact hl⟩ (by simp only; omega))
    · (simp only [sxs, sxb, and_self, and_true, true_and, implies_true, imp_self, bne_eq_false_iff_eq, Nat.zero_add, Nat.le_refl, Int.toNat_natCast, Int.ofNat_lt, Int.natCast_nonneg, decide_eq_true_eq, decide_eq_false_iff_not, bne_iff_ne, ne_eq]; try dsimp only [Kd.T, Kds.T, AK.T, AKs.T])
      rw [w64s (by omega)]
    · (simp only [sxs, sxb, and_self, and_true, true_and, implies_true, imp_self, bne_eq_false_iff_eq, Nat.zero_add, Nat.le_refl, Int.toNat_natCast, Int.ofNat_lt, Int.natCast_nonneg, decide_eq_true_eq, decide_eq_false_iff_not, bne_iff_ne, ne_eq]; try dsimp only [Kd.T, Kds.T, AK.T, AKs.T])
      rfl
  clear ih
  have w2 := hW l hl tm htm e (by omega) (by omega)
  have w3 := hW l hl tm htm f (by omega) (by omega)
  obtain ⟨D, hD⟩ : ∃ D, wordN ld fl f n = D := ⟨_, rfl⟩
  have hA0 := wordN_in ld fl e n
  have hD0 := wordN_in ld fl f n
  have hAD := andNot_sub hD0.1 hA0.1 (fun i hb => wordN_sub (by omega) n i hb)
  rw [hA] at w2 hA0 hAD
  rw [hD] at w3 hD0 hAD
  have htl : List.take n l = l := List.take_of_length_le (by omega)
  refine AM.runTo2 hG 77 200 (by cbv) ?_ ?_
  · (simp only [sxs, sxb, and_self, and_true, true_and, implies_true, imp_self, bne_eq_false_iff_eq, Nat.zero_add, Nat.le_refl, Int.toNat_natCast, Int.ofNat_lt, Int.natCast_nonneg, decide_eq_true_eq, decide_eq_false_iff_not, bne_iff_ne, ne_eq]; try dsimp only [Kd.T, Kds.T, AK.T, AKs.T])
    exact ⟨⟨by omega, by rw [htm.1]; decide⟩, by omega, ⟨by omega, by rw [htm.1]; decide⟩, by omega⟩
  refine AM.imp2 (fr' := frame 114 [(9, .bool (.t fun _ => true)), (12, .int .i64 (.t fun _ => A)), (13, .int .i64 (.l 0)), (14, .int .i64 (.t fun _ => A)), (15, .int .i64 (.l 0)), (17, .int .i64 (.t fun _ => A)), (18, .int .i64 (.l 0)), (19, .int .i64 (.t fun _ => D)), (20, .int .i64 (.l 0))]) (h' := [.dead, .dead, .dead, .dead, .dead]) (by cbv) (by cbv) ?_ ?_ ?_
  · (simp only [sxs, sxb, and_self, and_true, true_and, implies_true, imp_self, bne_eq_false_iff_eq, Nat.zero_add, Nat.le_refl, Int.toNat_natCast, Int.ofNat_lt, Int.natCast_nonneg, decide_eq_true_eq, decide_eq_false_iff_not, bne_iff_ne, ne_eq]; try dsimp only [Kd.T, Kds.T, AK.T, AKs.T])
    simp only [htl, w2, w3]
    exact ⟨trivial, trivial, trivial, trivial⟩
  · (simp only [sxs, sxb, and_self, and_true, true_and, implies_true, imp_self, bne_eq_false_iff_eq, Nat.zero_add, Nat.le_refl, Int.toNat_natCast, Int.ofNat_lt, Int.natCast_nonneg, decide_eq_true_eq, decide_eq_false_iff_not, bne_iff_ne, ne_eq]; try dsimp only [Kd.T, Kds.T, AK.T, AKs.T])
  refine AM.run2 hG 200 (by cbv) ?_ ?_
  · (simp only [sxs, sxb, and_self, and_true, true_and, implies_true, imp_self, bne_eq_false_iff_eq, Nat.zero_add, Nat.le_refl, Int.toNat_natCast, Int.ofNat_lt, Int.natCast_nonneg, decide_eq_true_eq, decide_eq_false_iff_not, bne_iff_ne, ne_eq]; try dsimp only [Kd.T, Kds.T, AK.T, AKs.T])
  refine AM.ret2 hG (by cbv) (by (simp only [sxs, sxb, and_self, and_true, true_and, implies_true, imp_self, bne_eq_false_iff_eq, Nat.zero_add, Nat.le_refl, Int.toNat_natCast, Int.ofNat_lt, Int.natCast_nonneg, decide_eq_true_eq, decide_eq_false_iff_not, bne_iff_ne, ne_eq]; try dsimp only [Kd.T, Kds.T, AK.T, AKs.T])) (hQ _ _ (FinRo.of (by cbv) (by cbv) ?_ ?_))
  · (simp only [sxs, sxb, and_self, and_true, true_and, implies_true, imp_self, bne_eq_false_iff_eq, Nat.zero_add, Nat.le_refl, Int.toNat_natCast, Int.ofNat_lt, Int.natCast_nonneg, decide_eq_true_eq, decide_eq_false_iff_not, bne_iff_ne, ne_eq]; try dsimp only [Kd.T, Kds.T, AK.T, AKs.T])
  refine ⟨?_⟩
  (simp only [sxs, sxb, and_self, and_true, true_and, implies_true, imp_self, bne_eq_false_iff_eq, Nat.zero_add, Nat.le_refl, Int.toNat_natCast, Int.ofNat_lt, Int.natCast_nonneg, decide_eq_true_eq, decide_eq_false_iff_not, bne_iff_ne, ne_eq]; try dsimp only [Kd.T, Kds.T, AK.T, AKs.T])
  exact ⟨hD0.1, hAD⟩
end Go.Sx.Yteiehkafkcggeaa
