/- The law PickOrder. -/
import Derived.Test.YteiehkafkcggeaaT18
namespace Go.Sx.Yteiehkafkcggeaa
open Go Go.Sx Go.Proofs
set_option linter.unusedVariables false
set_option linter.unusedSimpArgs false
set_option maxRecDepth 100000

theorem has_in {l g : List Call} {T : Int} (h : OkT l T) (hg : ∀ x ∈ g, x ∈ l) {c : Call} (hc : c ∈ l) : hasB g c = decide (c ∈ g) := by
  rw [Bool.eq_iff_iff, hasB, List.any_eq_true, decide_eq_true_eq]
  constructor
  · rintro ⟨x, hx, hs⟩
    by_cases e : x = c
    · rwa [← e]
    · obtain ⟨i, hi, rfl⟩ := List.getElem_of_mem (hg x hx)
      obtain ⟨j, hj, rfl⟩ := List.getElem_of_mem hc
      rcases Nat.lt_trichotomy i j with q | q | q
      · rw [List.pairwise_iff_getElem.1 h.dif i j hi hj q] at hs; cases hs
      · subst q; exact absurd rfl e
      · rw [sameB_comm, List.pairwise_iff_getElem.1 h.dif j i hj hi q] at hs; cases hs
  · intro hx
    exact ⟨c, hx, by simp [sameB]⟩

set_option maxHeartbeats 8000000 in
theorem law5 : FnOk Try.prog 5 (sigSpec [IntsK, I64, I64, I64] [.bool] (fun _ => (true, ())) (Kds.wf [IntsK, I64, I64, I64])) := by
  refine fn_ofB (rs := [.tmp 8]) (env [(15, S15), (32, S32), (33, S33), (17, S17), (18, S18), (20, S20)]
    ⟨fn15, fn32, fn33, fn17, fn18, fn20, trivial⟩) Try.func5 (by kernel_rfl) rfl rfl Try.ntmps5 ?_
  rintro ⟨(nums : List Int), (n : Int), (now : Int), (many : Int), u2⟩ _ G hG hB hQ
  have hB := GB.of hB
  obtain ⟨hT, hT0, hT1⟩ := madeM_ok nums
  have hA := askM_ok hT0 hT1 n now
  obtain ⟨l, hl⟩ : ∃ l, (madeM nums).2 = l := ⟨_, rfl⟩
  obtain ⟨a1, a2, a3, a4, a5, a6, a7, a8, a9, ha⟩ : ∃ a1 a2 a3 a4 a5 a6 a7 a8 a9 : Int, askM (madeM nums).1 n now = (a1, a2, a3, a4, a5, a6, a7, a8, a9, [], ()) := ⟨_, _, _, _, _, _, _, _, _, rfl⟩
  have h6 : a6 = 0 ∧ a7 = 500 ∧ a9 = 2 := by
    have e6 : (askM (madeM nums).1 n now).2.2.2.2.2.1 = 0 := rfl
    have e7 : (askM (madeM nums).1 n now).2.2.2.2.2.2.1 = 500 := rfl
    have e9 : (askM (madeM nums).1 n now).2.2.2.2.2.2.2.2.1 = 2 := rfl
    rw [ha] at e6 e7 e9
    exact ⟨e6, e7, e9⟩
  rw [hl] at hT
  rw [ha] at hA
  have hlen := hT.len
  obtain ⟨K, hK⟩ : ∃ K, modS many 9 = K := ⟨_, rfl⟩
  have hK9 := modS_in many (show (0 : Int) < 9 by decide)
  rw [hK] at hK9
  refine AM.runTo2 hG 12 100 (by cbv) ?_ ?_
  · (simp only [sxs, sxb, and_self, and_true, true_and, implies_true, imp_self, bne_eq_false_iff_eq, Nat.zero_add, Nat.le_refl, Int.toNat_natCast, Int.ofNat_lt, Int.natCast_nonneg, decide_eq_true_eq, decide_eq_false_iff_not, bne_iff_ne, ne_eq]; try dsimp only [Kd.T, Kds.T, AK.T, AKs.T])
    try decide
  refine AM.imp2 (fr' := frame 134 [(8, .bool (.l false)), (9, .ptr 0 0), (10, .ptr 1 0), (11, .int .i64 (.t fun _ => K))]) (h' := [.box 25 [.int .i64 (.l 20), .ro CallK fun _ => l], .box 27 [.int .i64 (.t fun _ => a1), .int .i64 (.t fun _ => a2), .int .i64 (.t fun _ => a3), .int .i64 (.t fun _ => a4), .int .i64 (.t fun _ => a5), .int .i64 (.t fun _ => a6), .int .i64 (.t fun _ => a7), .int .i64 (.t fun _ => a8), .int .i64 (.t fun _ => a9), .nils]]) (by cbv) (by cbv) ?_ ?_ ?_
  · (simp only [sxs, sxb, and_self, and_true, true_and, implies_true, imp_self, bne_eq_false_iff_eq, Nat.zero_add, Nat.le_refl, Int.toNat_natCast, Int.ofNat_lt, Int.natCast_nonneg, decide_eq_true_eq, decide_eq_false_iff_not, bne_iff_ne, ne_eq]; try dsimp only [Kd.T, Kds.T, AK.T, AKs.T])
    exact hK
  · (simp only [sxs, sxb, and_self, and_true, true_and, implies_true, imp_self, bne_eq_false_iff_eq, Nat.zero_add, Nat.le_refl, Int.toNat_natCast, Int.ofNat_lt, Int.natCast_nonneg, decide_eq_true_eq, decide_eq_false_iff_not, bne_iff_ne, ne_eq]; try dsimp only [Kd.T, Kds.T, AK.T, AKs.T])
    rw [hl, ha]
    exact ⟨rfl, rfl, rfl, rfl, rfl, rfl, h6.1.symm, h6.2.1.symm, rfl, h6.2.2.symm⟩
  refine AM.run2 hG 100 (by cbv) ?_ ?_
  · (simp only [sxs, sxb, and_self, and_true, true_and, implies_true, imp_self, bne_eq_false_iff_eq, Nat.zero_add, Nat.le_refl, Int.toNat_natCast, Int.ofNat_lt, Int.natCast_nonneg, decide_eq_true_eq, decide_eq_false_iff_not, bne_iff_ne, ne_eq]; try dsimp only [Kd.T, Kds.T, AK.T, AKs.T])
  refine AM.emptyRow 1 9 31 CallK rfl (by simp) rfl ?_
  refine AM.loopI (fun z : Nat × List Call => (frame 134 [(8, .bool (.l false)), (9, .ptr 0 0), (10, .ptr 1 0), (11, .int .i64 (.t fun _ => K)), (12, .int .i64 (.t fun _ => nI z.1))],
    [.box 25 [.int .i64 (.l 20), .ro CallK fun _ => l], .box 27 [.int .i64 (.t fun _ => a1), .int .i64 (.t fun _ => a2), .int .i64 (.t fun _ => a3), .int .i64 (.t fun _ => a4), .int .i64 (.t fun _ => a5), .int .i64 (.t fun _ => a6), .int .i64 (.t fun _ => a7), .int .i64 (.t fun _ => a8), .int .i64 (.t fun _ => a9), .sl 2 4 (.l 0) (.t fun _ => z.2.length)], .row 31 CallK (fun _ => z.2)]))
    (fun z => z.1 ≤ l.length ∧ (∀ x ∈ z.2, x ∈ l ∧ hallB x = true) ∧ (z.2.length : Int) ≤ K) (fun z => l.length - z.1) (0, []) ⟨by simp, by simp, by simpa using hK9.1⟩ ?_ ?_ ?_
  · cbv; (simp only [sxs, sxb, and_self, and_true, true_and, implies_true, imp_self, bne_eq_false_iff_eq, Nat.zero_add, Nat.le_refl, Int.toNat_natCast, Int.ofNat_lt, Int.natCast_nonneg, decide_eq_true_eq, decide_eq_false_iff_not, bne_iff_ne, ne_eq]; try dsimp only [Kd.T, Kds.T, AK.T, AKs.T]); all_goals ((repeat' apply And.intro) <;> first | rfl | assumption | exact trivial)
  · cbv; (simp only [sxs, sxb, and_self, and_true, true_and, implies_true, imp_self, bne_eq_false_iff_eq, Nat.zero_add, Nat.le_refl, Int.toNat_natCast, Int.ofNat_lt, Int.natCast_nonneg, decide_eq_true_eq, decide_eq_false_iff_not, bne_iff_ne, ne_eq]; try dsimp only [Kd.T, Kds.T, AK.T, AKs.T]); all_goals ((repeat' apply And.intro) <;> first | rfl | assumption | exact trivial)
  rintro ⟨i, g⟩ ⟨hi, hgl, hgk⟩ ih
  simp only at hi hgl hgk
  refine AM.run2 hG 100 (by cbv) ?_ ?_
  · (simp only [sxs, sxb, and_self, and_true, true_and, implies_true, imp_self, bne_eq_false_iff_eq, Nat.zero_add, Nat.le_refl, Int.toNat_natCast, Int.ofNat_lt, Int.natCast_nonneg, decide_eq_true_eq, decide_eq_false_iff_not, bne_iff_ne, ne_eq]; try dsimp only [Kd.T, Kds.T, AK.T, AKs.T])
  refine AM.case 39 rfl (fun h => ?_) (fun h => ?_)
  · replace h : (if ltI (nI i) (nI l.length) = true then ltI (nI g.length) K else false) = true := h
    rw [ite_and, Bool.and_eq_true, ltI_t, ltI_t] at h
    obtain ⟨h, hgk2⟩ := h
    (simp only [sxs, sxb, and_self, and_true, true_and, implies_true, imp_self, bne_eq_false_iff_eq, Nat.zero_add, Nat.le_refl, Int.toNat_natCast, Int.ofNat_lt, Int.natCast_nonneg, decide_eq_true_eq, decide_eq_false_iff_not, bne_iff_ne, ne_eq] at h hgk2; try dsimp only [Kd.T, Kds.T, AK.T, AKs.T] at h hgk2)
    refine AM.run2 hG 100 (by cbv) ?_ ?_
    · (simp only [sxs, sxb, and_self, and_true, true_and, implies_true, imp_self, bne_eq_false_iff_eq, Nat.zero_add, Nat.le_refl, Int.toNat_natCast, Int.ofNat_lt, Int.natCast_nonneg, decide_eq_true_eq, decide_eq_false_iff_not, bne_iff_ne, ne_eq]; try dsimp only [Kd.T, Kds.T, AK.T, AKs.T])
      exact h
    refine AM.case 47 rfl (fun h1 => ?_) (fun h1 => ?_)
    · replace h1 : hallB (l.getD i zc) = true := h1
      refine AM.run2 hG 100 (by cbv) ?_ ?_
      · (simp only [sxs, sxb, and_self, and_true, true_and, implies_true, imp_self, bne_eq_false_iff_eq, Nat.zero_add, Nat.le_refl, Int.toNat_natCast, Int.ofNat_lt, Int.natCast_nonneg, decide_eq_true_eq, decide_eq_false_iff_not, bne_iff_ne, ne_eq]; try dsimp only [Kd.T, Kds.T, AK.T, AKs.T])
        simp only [maxLen, List.length_take, List.length_cons, List.length_nil]
        omega
      refine AM.ren hB [0, 1, 4] (by cbv) (by cbv) (by cbv) ?_ ?_ (ih (i + 1, g ++ [l.getD i zc]) ⟨by simp only; omega, fun x hx => ?_, by simp only [List.length_append, List.length_cons, List.length_nil]; omega⟩ (by simp only; omega))
      · (simp only [sxs, sxb, and_self, and_true, true_and, implies_true, imp_self, bne_eq_false_iff_eq, Nat.zero_add, Nat.le_refl, Int.toNat_natCast, Int.ofNat_lt, Int.natCast_nonneg, decide_eq_true_eq, decide_eq_false_iff_not, bne_iff_ne, ne_eq]; try dsimp only [Kd.T, Kds.T, AK.T, AKs.T])
        rw [w64s (by omega)]
      · (simp only [sxs, sxb, and_self, and_true, true_and, implies_true, imp_self, bne_eq_false_iff_eq, Nat.zero_add, Nat.le_refl, Int.toNat_natCast, Int.ofNat_lt, Int.natCast_nonneg, decide_eq_true_eq, decide_eq_false_iff_not, bne_iff_ne, ne_eq]; try dsimp only [Kd.T, Kds.T, AK.T, AKs.T])
        rw [List.length_append]
        exact ⟨rfl, rfl⟩
      · rcases List.mem_append.1 hx with hx | hx
        · exact hgl x hx
        · rw [List.mem_singleton.1 hx]
          exact ⟨getD_mem h, h1⟩
    · refine AM.run2 hG 100 (by cbv) ?_ ?_
      · (simp only [sxs, sxb, and_self, and_true, true_and, implies_true, imp_self, bne_eq_false_iff_eq, Nat.zero_add, Nat.le_refl, Int.toNat_natCast, Int.ofNat_lt, Int.natCast_nonneg, decide_eq_true_eq, decide_eq_false_iff_not, bne_iff_ne, ne_eq]; try dsimp only [Kd.T, Kds.T, AK.T, AKs.T])
      refine AM.ren hB [0, 1, 2] (by cbv) (by cbv) (by cbv) ?_ ?_ (ih (i + 1, g) ⟨by simp only; omega, hgl, hgk⟩ (by simp only; omega))
      · (simp only [sxs, sxb, and_self, and_true, true_and, implies_true, imp_self, bne_eq_false_iff_eq, Nat.zero_add, Nat.le_refl, Int.toNat_natCast, Int.ofNat_lt, Int.natCast_nonneg, decide_eq_true_eq, decide_eq_false_iff_not, bne_iff_ne, ne_eq]; try dsimp only [Kd.T, Kds.T, AK.T, AKs.T])
        rw [w64s (by omega)]
      · (simp only [sxs, sxb, and_self, and_true, true_and, implies_true, imp_self, bne_eq_false_iff_eq, Nat.zero_add, Nat.le_refl, Int.toNat_natCast, Int.ofNat_lt, Int.natCast_nonneg, decide_eq_true_eq, decide_eq_false_iff_not, bne_iff_ne, ne_eq]; try dsimp only [Kd.T, Kds.T, AK.T, AKs.T])
  clear ih h
  refine AM.frz [2] (by cbv) (by (simp only [sxs, sxb, and_self, and_true, true_and, implies_true, imp_self, bne_eq_false_iff_eq, Nat.zero_add, Nat.le_refl, Int.toNat_natCast, Int.ofNat_lt, Int.natCast_nonneg, decide_eq_true_eq, decide_eq_false_iff_not, bne_iff_ne, ne_eq]; try dsimp only [Kd.T, Kds.T, AK.T, AKs.T])) ?_
  refine AM.runTo2 hG 59 100 (by cbv) (by (simp only [sxs, sxb, and_self, and_true, true_and, implies_true, imp_self, bne_eq_false_iff_eq, Nat.zero_add, Nat.le_refl, Int.toNat_natCast, Int.ofNat_lt, Int.natCast_nonneg, decide_eq_true_eq, decide_eq_false_iff_not, bne_iff_ne, ne_eq]; try dsimp only [Kd.T, Kds.T, AK.T, AKs.T])) ?_
  refine AM.imp2 (fr' := frame 134 [(8, .bool (.l false)), (9, .ptr 0 0), (10, .ptr 1 0)]) (h' := [.box 25 [.int .i64 (.l 20), .ro CallK fun _ => l], .box 27 [.int .i64 (.t fun _ => a1), .int .i64 (.t fun _ => a2), .int .i64 (.t fun _ => a3), .int .i64 (.t fun _ => a4), .int .i64 (.t fun _ => a5), .int .i64 (.t fun _ => a6), .int .i64 (.t fun _ => a7), .int .i64 (.t fun _ => a8), .int .i64 (.t fun _ => a9), .ro CallK fun _ => g], .dead]) (by cbv) (by cbv) ?_ ?_ ?_
  · (simp only [sxs, sxb, and_self, and_true, true_and, implies_true, imp_self, bne_eq_false_iff_eq, Nat.zero_add, Nat.le_refl, Int.toNat_natCast, Int.ofNat_lt, Int.natCast_nonneg, decide_eq_true_eq, decide_eq_false_iff_not, bne_iff_ne, ne_eq]; try dsimp only [Kd.T, Kds.T, AK.T, AKs.T])
  · (simp only [sxs, sxb, and_self, and_true, true_and, implies_true, imp_self, bne_eq_false_iff_eq, Nat.zero_add, Nat.le_refl, Int.toNat_natCast, Int.ofNat_lt, Int.natCast_nonneg, decide_eq_true_eq, decide_eq_false_iff_not, bne_iff_ne, ne_eq]; try dsimp only [Kd.T, Kds.T, AK.T, AKs.T])
    try rw [List.take_length]
  have hg8 : g.length ≤ 8 := by omega
  obtain ⟨av, hav⟩ : ∃ av : Ask, av = (a1, a2, a3, a4, a5, a6, a7, a8, a9, g, ()) := ⟨_, rfl⟩
  have hask : asksE (20, l, ()) (a1, a2, a3, a4, a5, a6, a7, a8, a9, g, ()) = 0 := by
    rw [asksE, if_neg (by rw [hT.check]; decide), askErr, if_neg (fun q => q hA), takenErr, if_neg (by simp only; omega)]
    exact takenGo_ok fun c hc => ⟨hT.ok c (hgl c hc).1, (hgl c hc).2⟩
  have hord : orderR (20, l, ()) (a1, a2, a3, a4, a5, a6, a7, a8, a9, g, ()) = (orderGo av l.length l, 0) := by
    rw [orderR, if_neg (by rw [hask]; decide), hav]
  have hperm := order_perm (a := av) (by rw [hav]; exact hA.2.1.1) l.length l (by omega) hT.dif
  obtain ⟨o, ho⟩ : ∃ o, orderGo av l.length l = o := ⟨_, rfl⟩
  rw [ho] at hord hperm
  have hol : o.length ≤ 20 := by
    have := hperm.length_eq
    have := List.length_filter_le (wantB av) l
    omega
  refine AM.runTo2 hG 64 100 (by cbv) ?_ ?_
  · (simp only [sxs, sxb, and_self, and_true, true_and, implies_true, imp_self, bne_eq_false_iff_eq, Nat.zero_add, Nat.le_refl, Int.toNat_natCast, Int.ofNat_lt, Int.natCast_nonneg, decide_eq_true_eq, decide_eq_false_iff_not, bne_iff_ne, ne_eq]; try dsimp only [Kd.T, Kds.T, AK.T, AKs.T])
    exact ⟨by omega, by omega⟩
  refine AM.imp2 (fr' := frame 134 [(8, .bool (.l false)), (9, .ptr 0 0), (10, .ptr 1 0), (13, .ro CallK fun _ => o), (14, .int .i64 (.l 0))]) (h' := [.box 25 [.int .i64 (.l 20), .ro CallK fun _ => l], .box 27 [.int .i64 (.t fun _ => a1), .int .i64 (.t fun _ => a2), .int .i64 (.t fun _ => a3), .int .i64 (.t fun _ => a4), .int .i64 (.t fun _ => a5), .int .i64 (.t fun _ => a6), .int .i64 (.t fun _ => a7), .int .i64 (.t fun _ => a8), .int .i64 (.t fun _ => a9), .ro CallK fun _ => g], .dead]) (by cbv) (by cbv) ?_ ?_ ?_
  · (simp only [sxs, sxb, and_self, and_true, true_and, implies_true, imp_self, bne_eq_false_iff_eq, Nat.zero_add, Nat.le_refl, Int.toNat_natCast, Int.ofNat_lt, Int.natCast_nonneg, decide_eq_true_eq, decide_eq_false_iff_not, bne_iff_ne, ne_eq]; try dsimp only [Kd.T, Kds.T, AK.T, AKs.T])
    rw [hord]
    exact ⟨rfl, rfl⟩
  · (simp only [sxs, sxb, and_self, and_true, true_and, implies_true, imp_self, bne_eq_false_iff_eq, Nat.zero_add, Nat.le_refl, Int.toNat_natCast, Int.ofNat_lt, Int.natCast_nonneg, decide_eq_true_eq, decide_eq_false_iff_not, bne_iff_ne, ne_eq]; try dsimp only [Kd.T, Kds.T, AK.T, AKs.T])
  refine AM.run2 hG 100 (by cbv) ?_ ?_
  · (simp only [sxs, sxb, and_self, and_true, true_and, implies_true, imp_self, bne_eq_false_iff_eq, Nat.zero_add, Nat.le_refl, Int.toNat_natCast, Int.ofNat_lt, Int.natCast_nonneg, decide_eq_true_eq, decide_eq_false_iff_not, bne_iff_ne, ne_eq]; try dsimp only [Kd.T, Kds.T, AK.T, AKs.T])
  clear hgk i hi
  refine AM.loopI (fun z : Nat × Nat => (frame 134 [(8, .bool (.l false)), (9, .ptr 0 0), (10, .ptr 1 0), (13, .ro CallK fun _ => o), (15, .int .i64 (.t fun _ => nI z.2)), (16, .int .i64 (.t fun _ => nI z.1))],
    [.box 25 [.int .i64 (.l 20), .ro CallK fun _ => l], .box 27 [.int .i64 (.t fun _ => a1), .int .i64 (.t fun _ => a2), .int .i64 (.t fun _ => a3), .int .i64 (.t fun _ => a4), .int .i64 (.t fun _ => a5), .int .i64 (.t fun _ => a6), .int .i64 (.t fun _ => a7), .int .i64 (.t fun _ => a8), .int .i64 (.t fun _ => a9), .ro CallK fun _ => g], .dead]))
    (fun z => z.1 ≤ l.length ∧ z.2 = ((l.take z.1).filter (wantB av)).length) (fun z => l.length - z.1) (0, 0) ⟨by simp, by simp⟩ ?_ ?_ ?_
  · cbv; (simp only [sxs, sxb, and_self, and_true, true_and, implies_true, imp_self, bne_eq_false_iff_eq, Nat.zero_add, Nat.le_refl, Int.toNat_natCast, Int.ofNat_lt, Int.natCast_nonneg, decide_eq_true_eq, decide_eq_false_iff_not, bne_iff_ne, ne_eq]; try dsimp only [Kd.T, Kds.T, AK.T, AKs.T]); all_goals ((repeat' apply And.intro) <;> first | rfl | assumption | exact trivial)
  · cbv; (simp only [sxs, sxb, and_self, and_true, true_and, implies_true, imp_self, bne_eq_false_iff_eq, Nat.zero_add, Nat.le_refl, Int.toNat_natCast, Int.ofNat_lt, Int.natCast_nonneg, decide_eq_true_eq, decide_eq_false_iff_not, bne_iff_ne, ne_eq]; try dsimp only [Kd.T, Kds.T, AK.T, AKs.T]); all_goals ((repeat' apply And.intro) <;> first | rfl | assumption | exact trivial)
  rintro ⟨i, m⟩ ⟨hi, hm⟩ ih
  simp only at hi hm
  have hml : m ≤ 20 := by
    have := List.length_filter_le (wantB av) (l.take i)
    rw [← hm, List.length_take] at this
    omega
  refine AM.run2 hG 100 (by cbv) ?_ ?_
  · (simp only [sxs, sxb, and_self, and_true, true_and, implies_true, imp_self, bne_eq_false_iff_eq, Nat.zero_add, Nat.le_refl, Int.toNat_natCast, Int.ofNat_lt, Int.natCast_nonneg, decide_eq_true_eq, decide_eq_false_iff_not, bne_iff_ne, ne_eq]; try dsimp only [Kd.T, Kds.T, AK.T, AKs.T])
  refine AM.case 70 rfl (fun h => ?_) (fun h => ?_) <;> (simp only [sxs, sxb, and_self, and_true, true_and, implies_true, imp_self, bne_eq_false_iff_eq, Nat.zero_add, Nat.le_refl, Int.toNat_natCast, Int.ofNat_lt, Int.natCast_nonneg, decide_eq_true_eq, decide_eq_false_iff_not, bne_iff_ne, ne_eq] at h; try dsimp only [Kd.T, Kds.T, AK.T, AKs.T] at h)
  · have hnext : ((l.take (i + 1)).filter (wantB av)).length = m + (if wantB av (l.getD i zc) = true then 1 else 0) := by
      rw [take_succD h, List.filter_append, List.length_append, ← hm]
      congr 1
      by_cases hq : wantB av (l.getD i zc) = true
      · rw [if_pos hq, List.filter_cons_of_pos hq]; rfl
      · rw [if_neg hq, List.filter_cons_of_neg hq]; rfl
    have hmem := getD_mem h
    have hhas := has_in hT (fun x hx => (hgl x hx).1) hmem
    have hino : decide (l.getD i zc ∈ o) = wantB av (l.getD i zc) := by
      rw [Bool.eq_iff_iff, decide_eq_true_eq, hperm.mem_iff, List.mem_filter]
      exact ⟨fun q => q.2, fun q => ⟨hmem, q⟩⟩
    obtain ⟨c, hc⟩ : ∃ c, l.getD i zc = c := ⟨_, rfl⟩
    rw [hc] at hmem hhas hino hnext
    have hck := hT.ok c hmem
    have hlate := hT.late c hmem
    obtain ⟨c1, c2, c3, c4, ⟨⟩⟩ := c
    refine AM.runTo2 hG 78 100 (by cbv) ?_ ?_
    · (simp only [sxs, sxb, and_self, and_true, true_and, implies_true, imp_self, bne_eq_false_iff_eq, Nat.zero_add, Nat.le_refl, Int.toNat_natCast, Int.ofNat_lt, Int.natCast_nonneg, decide_eq_true_eq, decide_eq_false_iff_not, bne_iff_ne, ne_eq]; try dsimp only [Kd.T, Kds.T, AK.T, AKs.T])
      exact h
    refine AM.imp2 (fr' := frame 134 [(8, .bool (.l false)), (9, .ptr 0 0), (10, .ptr 1 0), (13, .ro CallK fun _ => o), (15, .int .i64 (.t fun _ => nI m)), (16, .int .i64 (.t fun _ => nI i)), (17, .ptr 3 0)])
      (h' := [.box 25 [.int .i64 (.l 20), .ro CallK fun _ => l], .box 27 [.int .i64 (.t fun _ => a1), .int .i64 (.t fun _ => a2), .int .i64 (.t fun _ => a3), .int .i64 (.t fun _ => a4), .int .i64 (.t fun _ => a5), .int .i64 (.t fun _ => a6), .int .i64 (.t fun _ => a7), .int .i64 (.t fun _ => a8), .int .i64 (.t fun _ => a9), .ro CallK fun _ => g], .dead, .box 31 [.int .i64 (.t fun _ => c1), .int .i64 (.t fun _ => c2), .int .i64 (.t fun _ => c3), .int .i64 (.t fun _ => c4)]]) (by cbv) (by cbv) ?_ ?_ ?_
    · (simp only [sxs, sxb, and_self, and_true, true_and, implies_true, imp_self, bne_eq_false_iff_eq, Nat.zero_add, Nat.le_refl, Int.toNat_natCast, Int.ofNat_lt, Int.natCast_nonneg, decide_eq_true_eq, decide_eq_false_iff_not, bne_iff_ne, ne_eq]; try dsimp only [Kd.T, Kds.T, AK.T, AKs.T])
    · (simp only [sxs, sxb, and_self, and_true, true_and, implies_true, imp_self, bne_eq_false_iff_eq, Nat.zero_add, Nat.le_refl, Int.toNat_natCast, Int.ofNat_lt, Int.natCast_nonneg, decide_eq_true_eq, decide_eq_false_iff_not, bne_iff_ne, ne_eq]; try dsimp only [Kd.T, Kds.T, AK.T, AKs.T])
      rw [hc]
      exact ⟨rfl, rfl, rfl, rfl⟩
    have hww : IntKind.i64.wrap (a4 - c4) = a4 - c4 := by
      have q1 : 0 ≤ a4 ∧ a4 ≤ 1099511627776 := hA.2.2.2.1
      have q2 : c4 ≤ (madeM nums).1 := hlate
      have q3 : 0 ≤ c4 := by
        rw [callErr] at hck
        simp only at hck
        split at hck
        · cases hck
        · split at hck
          · cases hck
          · omega
      exact w64 (by omega) (by omega)
    refine AM.runTo2 hG 18 200 (by cbv) ?_ ?_
    · (simp only [sxs, sxb, and_self, and_true, true_and, implies_true, imp_self, bne_eq_false_iff_eq, Nat.zero_add, Nat.le_refl, Int.toNat_natCast, Int.ofNat_lt, Int.natCast_nonneg, decide_eq_true_eq, decide_eq_false_iff_not, bne_iff_ne, ne_eq]; try dsimp only [Kd.T, Kds.T, AK.T, AKs.T])
      exact ⟨fun q1 q2 => ⟨q1, q2⟩, fun q1 q2 => ⟨q1, q2⟩, fun q1 q2 => ⟨q1, q2⟩, fun _ => by omega⟩
    refine AM.imp2 (fr' := frame 134 [(8, .bool (.l false)), (9, .ptr 0 0), (10, .ptr 1 0), (13, .ro CallK fun _ => o), (15, .int .i64 (.t fun _ => nI m)), (16, .int .i64 (.t fun _ => nI i)), (17, .ptr 3 0), (118, .bool (.t fun _ => wantB av (c1, c2, c3, c4, ())))])
      (h' := [.box 25 [.int .i64 (.l 20), .ro CallK fun _ => l], .box 27 [.int .i64 (.t fun _ => a1), .int .i64 (.t fun _ => a2), .int .i64 (.t fun _ => a3), .int .i64 (.t fun _ => a4), .int .i64 (.t fun _ => a5), .int .i64 (.t fun _ => a6), .int .i64 (.t fun _ => a7), .int .i64 (.t fun _ => a8), .int .i64 (.t fun _ => a9), .ro CallK fun _ => g], .dead, .box 31 [.int .i64 (.t fun _ => c1), .int .i64 (.t fun _ => c2), .int .i64 (.t fun _ => c3), .int .i64 (.t fun _ => c4)]]) (by cbv) (by cbv) ?_ ?_ ?_
    · (simp only [sxs, sxb, and_self, and_true, true_and, implies_true, imp_self, bne_eq_false_iff_eq, Nat.zero_add, Nat.le_refl, Int.toNat_natCast, Int.ofNat_lt, Int.natCast_nonneg, decide_eq_true_eq, decide_eq_false_iff_not, bne_iff_ne, ne_eq]; try dsimp only [Kd.T, Kds.T, AK.T, AKs.T])
      have e1 : wantB av (c1, c2, c3, c4, ()) = ((eqI a2 0 && (urgB a4 a5 (c1, c2, c3, c4, ()) || freeB g (c1, c2, c3, c4, ()))) || (leI a2 1 && ownB a1 (c1, c2, c3, c4, ()))) := by rw [hav]; rfl
      show _ = wantB av (c1, c2, c3, c4, ())
      rw [e1, urgB, freeB, ownB, hhas, hww]
      rw [Bool.eq_iff_iff]
      cases hallB (c1, c2, c3, c4, ()) <;> simp [eqI, leI] <;> grind
    · (simp only [sxs, sxb, and_self, and_true, true_and, implies_true, imp_self, bne_eq_false_iff_eq, Nat.zero_add, Nat.le_refl, Int.toNat_natCast, Int.ofNat_lt, Int.natCast_nonneg, decide_eq_true_eq, decide_eq_false_iff_not, bne_iff_ne, ne_eq]; try dsimp only [Kd.T, Kds.T, AK.T, AKs.T])
    obtain ⟨wd, hwd⟩ : ∃ wd, wantB av (c1, c2, c3, c4, ()) = wd := ⟨_, rfl⟩
    refine AM.run2 hG 100 (by cbv) ?_ ?_
    · (simp only [sxs, sxb, and_self, and_true, true_and, implies_true, imp_self, bne_eq_false_iff_eq, Nat.zero_add, Nat.le_refl, Int.toNat_natCast, Int.ofNat_lt, Int.natCast_nonneg, decide_eq_true_eq, decide_eq_false_iff_not, bne_iff_ne, ne_eq]; try dsimp only [Kd.T, Kds.T, AK.T, AKs.T])
      omega
    refine AM.sure 123 false rfl ?_ ?_
    · show (!eqBo (decide ((c1, c2, c3, c4, ()) ∈ o)) (wantB av (c1, c2, c3, c4, ()))) = false
      rw [hino]
      cases wantB av (c1, c2, c3, c4, ()) <;> rfl
    refine AM.run2 hG 100 (by cbv) ?_ ?_
    · (simp only [sxs, sxb, and_self, and_true, true_and, implies_true, imp_self, bne_eq_false_iff_eq, Nat.zero_add, Nat.le_refl, Int.toNat_natCast, Int.ofNat_lt, Int.natCast_nonneg, decide_eq_true_eq, decide_eq_false_iff_not, bne_iff_ne, ne_eq]; try dsimp only [Kd.T, Kds.T, AK.T, AKs.T])
    refine AM.case 124 rfl (fun (h4 : wantB av (c1, c2, c3, c4, ()) = true) => ?_) (fun (h4 : wantB av (c1, c2, c3, c4, ()) = false) => ?_)
    · rw [if_pos h4] at hnext
      refine AM.run2 hG 100 (by cbv) ?_ ?_
      · (simp only [sxs, sxb, and_self, and_true, true_and, implies_true, imp_self, bne_eq_false_iff_eq, Nat.zero_add, Nat.le_refl, Int.toNat_natCast, Int.ofNat_lt, Int.natCast_nonneg, decide_eq_true_eq, decide_eq_false_iff_not, bne_iff_ne, ne_eq]; try dsimp only [Kd.T, Kds.T, AK.T, AKs.T])
      refine AM.ren hB [0, 1, 2] (by cbv) (by cbv) (by cbv) ?_ ?_ (ih (i + 1, m + 1) ⟨by simp only; omega, hnext.symm⟩ (by simp only; omega))
      · (simp only [sxs, sxb, and_self, and_true, true_and, implies_true, imp_self, bne_eq_false_iff_eq, Nat.zero_add, Nat.le_refl, Int.toNat_natCast, Int.ofNat_lt, Int.natCast_nonneg, decide_eq_true_eq, decide_eq_false_iff_not, bne_iff_ne, ne_eq]; try dsimp only [Kd.T, Kds.T, AK.T, AKs.T])
        rw [w64s (by omega), w64s (by omega)]
        exact ⟨rfl, rfl⟩
      · (simp only [sxs, sxb, and_self, and_true, true_and, implies_true, imp_self, bne_eq_false_iff_eq, Nat.zero_add, Nat.le_refl, Int.toNat_natCast, Int.ofNat_lt, Int.natCast_nonneg, decide_eq_true_eq, decide_eq_false_iff_not, bne_iff_ne, ne_eq]; try dsimp only [Kd.T, Kds.T, AK.T, AKs.T])
    · rw [if_neg (by rw [h4]; decide)] at hnext
      refine AM.run2 hG 100 (by cbv) ?_ ?_
      · (simp only [sxs, sxb, and_self, and_true, true_and, implies_true, imp_self, bne_eq_false_iff_eq, Nat.zero_add, Nat.le_refl, Int.toNat_natCast, Int.ofNat_lt, Int.natCast_nonneg, decide_eq_true_eq, decide_eq_false_iff_not, bne_iff_ne, ne_eq]; try dsimp only [Kd.T, Kds.T, AK.T, AKs.T])
      refine AM.ren hB [0, 1, 2] (by cbv) (by cbv) (by cbv) ?_ ?_ (ih (i + 1, m) ⟨by simp only; omega, hnext.symm⟩ (by simp only; omega))
      · (simp only [sxs, sxb, and_self, and_true, true_and, implies_true, imp_self, bne_eq_false_iff_eq, Nat.zero_add, Nat.le_refl, Int.toNat_natCast, Int.ofNat_lt, Int.natCast_nonneg, decide_eq_true_eq, decide_eq_false_iff_not, bne_iff_ne, ne_eq]; try dsimp only [Kd.T, Kds.T, AK.T, AKs.T])
        rw [w64s (by omega)]
      · (simp only [sxs, sxb, and_self, and_true, true_and, implies_true, imp_self, bne_eq_false_iff_eq, Nat.zero_add, Nat.le_refl, Int.toNat_natCast, Int.ofNat_lt, Int.natCast_nonneg, decide_eq_true_eq, decide_eq_false_iff_not, bne_iff_ne, ne_eq]; try dsimp only [Kd.T, Kds.T, AK.T, AKs.T])
  clear ih
  rw [List.take_of_length_le (by omega)] at hm
  have hmo : m = o.length := by rw [hm, hperm.length_eq]
  refine AM.run2 hG 100 (by cbv) ?_ ?_
  · (simp only [sxs, sxb, and_self, and_true, true_and, implies_true, imp_self, bne_eq_false_iff_eq, Nat.zero_add, Nat.le_refl, Int.toNat_natCast, Int.ofNat_lt, Int.natCast_nonneg, decide_eq_true_eq, decide_eq_false_iff_not, bne_iff_ne, ne_eq]; try dsimp only [Kd.T, Kds.T, AK.T, AKs.T])
  refine AM.ret2 hG (by cbv) (by (simp only [sxs, sxb, and_self, and_true, true_and, implies_true, imp_self, bne_eq_false_iff_eq, Nat.zero_add, Nat.le_refl, Int.toNat_natCast, Int.ofNat_lt, Int.natCast_nonneg, decide_eq_true_eq, decide_eq_false_iff_not, bne_iff_ne, ne_eq]; try dsimp only [Kd.T, Kds.T, AK.T, AKs.T])) (hQ _ _ (FinRo.of (by cbv) (by cbv) ?_ ?_))
  · (simp only [sxs, sxb, and_self, and_true, true_and, implies_true, imp_self, bne_eq_false_iff_eq, Nat.zero_add, Nat.le_refl, Int.toNat_natCast, Int.ofNat_lt, Int.natCast_nonneg, decide_eq_true_eq, decide_eq_false_iff_not, bne_iff_ne, ne_eq]; try dsimp only [Kd.T, Kds.T, AK.T, AKs.T])
  try (simp only [sxs, sxb, and_self, and_true, true_and, implies_true, imp_self, bne_eq_false_iff_eq, Nat.zero_add, Nat.le_refl, Int.toNat_natCast, Int.ofNat_lt, Int.natCast_nonneg, decide_eq_true_eq, decide_eq_false_iff_not, bne_iff_ne, ne_eq]; try dsimp only [Kd.T, Kds.T, AK.T, AKs.T])
  rw [hmo]
end Go.Sx.Yteiehkafkcggeaa
