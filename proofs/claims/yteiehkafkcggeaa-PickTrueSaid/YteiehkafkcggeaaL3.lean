/- The law PickTrue. -/
import Derived.Test.YteiehkafkcggeaaT18
namespace Go.Sx.Yteiehkafkcggeaa
open Go Go.Sx Go.Proofs
set_option linter.unusedVariables false
set_option linter.unusedSimpArgs false
set_option maxRecDepth 100000

set_option maxHeartbeats 8000000 in
theorem law3 : FnOk Try.prog 3 (sigSpec [IntsK, I64, I64] [.bool] (fun _ => (true, ())) (Kds.wf [IntsK, I64, I64])) := by
  refine fn_ofB (rs := [.tmp 6]) (env [(15, S15), (16, S16), (19, S19), (17, S17), (18, S18), (20, S20)]
    ⟨fn15, fn16, fn19, fn17, fn18, fn20, trivial⟩) Try.func3 (by kernel_rfl) rfl rfl Try.ntmps3 ?_
  rintro ⟨(nums : List Int), (n : Int), (now : Int), u2⟩ _ G hG hB hQ
  have hB := GB.of hB
  obtain ⟨hT, hT0, hT1⟩ := madeM_ok nums
  have hA := askM_ok hT0 hT1 n now
  obtain ⟨l, hl⟩ : ∃ l, (madeM nums).2 = l := ⟨_, rfl⟩
  obtain ⟨a1, a2, a3, a4, a5, a6, a7, a8, a9, ha⟩ : ∃ a1 a2 a3 a4 a5 a6 a7 a8 a9 : Int, askM (madeM nums).1 n now = (a1, a2, a3, a4, a5, a6, a7, a8, a9, [], ()) := ⟨_, _, _, _, _, _, _, _, _, rfl⟩
  have h67 : a6 = 0 ∧ a7 = 500 := by
    have e6 : (askM (madeM nums).1 n now).2.2.2.2.2.1 = 0 := rfl
    have e7 : (askM (madeM nums).1 n now).2.2.2.2.2.2.1 = 500 := rfl
    rw [ha] at e6 e7
    exact ⟨e6, e7⟩
  rw [hl] at hT
  rw [ha] at hA
  have hlen := hT.len
  obtain ⟨av, hav⟩ : ∃ av : Ask, av = (a1, a2, a3, a4, a5, a6, a7, a8, a9, [], ()) := ⟨_, rfl⟩
  have hask : ∀ m : List Call, OkT m (madeM nums).1 → asksE (20, m, ()) (a1, a2, a3, a4, a5, a6, a7, a8, a9, [], ()) = 0 := fun m hm => by
    rw [asksE, if_neg (by rw [hm.check]; decide), askErr, if_neg (by simpa using hA)]
    rfl
  obtain ⟨c, is, hby⟩ : ∃ c is, byS l (a1, a2, a3, a4, a5, a6, a7, a8, a9, [], ()) = (c, is) := ⟨_, _, rfl⟩
  have hbyR : byR (20, l, ()) (a1, a2, a3, a4, a5, a6, a7, a8, a9, [], ()) = (c, is, 0) := by
    rw [byR, if_neg (by rw [hask l hT]; decide)]
    simp only [hby]
  have hin : is = decide (c ∈ l) := by
    cases h : is
    · have := byS_no (l := l) (a := (a1, a2, a3, a4, a5, a6, a7, a8, a9, [], ())) (by rw [hby]; exact h)
      rw [hby] at this
      obtain ⟨rfl, _⟩ := Prod.mk.inj this
      rw [eq_comm, decide_eq_false_iff_not]
      intro hm
      have := hT.ok _ hm
      cases this
    · have := byS_mem (l := l) (a := (a1, a2, a3, a4, a5, a6, a7, a8, a9, [], ())) (by rw [hby]; exact h)
      rw [hby] at this
      simp [this]
  have hcar : is = true → hallB c = false → c.2.2.1 = a1 := by
    intro h h2
    have := byS_want (l := l) (a := (a1, a2, a3, a4, a5, a6, a7, a8, a9, [], ())) hA.2.1.1 (by rw [hby]; exact h)
    rw [hby, wantB] at this
    simp only [urgB, freeB, h2, Bool.false_and, Bool.or_false, Bool.and_false, Bool.false_or, ownB, Bool.not_false, Bool.true_and, Bool.and_eq_true, eqI_t] at this
    exact this.2
  obtain ⟨c1, c2, c3, c4, ⟨⟩⟩ := c
  refine AM.runTo2 hG 27 100 (by cbv) (by (simp only [sxs, sxb, and_self, and_true, true_and, implies_true, imp_self, bne_eq_false_iff_eq, Nat.zero_add, Nat.le_refl, Int.toNat_natCast, Int.ofNat_lt, Int.natCast_nonneg, decide_eq_true_eq, decide_eq_false_iff_not, bne_iff_ne, ne_eq]; try dsimp only [Kd.T, Kds.T, AK.T, AKs.T])) ?_
  refine AM.imp2 (fr' := frame 151 [(6, .bool (.l false)), (7, .ptr 0 0), (8, .ptr 1 0)]) (h' := [.box 25 [.int .i64 (.l 20), .ro CallK fun _ => l], .box 27 [.int .i64 (.t fun _ => a1), .int .i64 (.t fun _ => a2), .int .i64 (.t fun _ => a3), .int .i64 (.t fun _ => a4), .int .i64 (.t fun _ => a5), .int .i64 (.t fun _ => a6), .int .i64 (.t fun _ => a7), .int .i64 (.t fun _ => a8), .int .i64 (.t fun _ => a9), .ro CallK fun _ => []]]) (by cbv) (by cbv) ?_ ?_ ?_
  · (simp only [sxs, sxb, and_self, and_true, true_and, implies_true, imp_self, bne_eq_false_iff_eq, Nat.zero_add, Nat.le_refl, Int.toNat_natCast, Int.ofNat_lt, Int.natCast_nonneg, decide_eq_true_eq, decide_eq_false_iff_not, bne_iff_ne, ne_eq]; try dsimp only [Kd.T, Kds.T, AK.T, AKs.T])
  · (simp only [sxs, sxb, and_self, and_true, true_and, implies_true, imp_self, bne_eq_false_iff_eq, Nat.zero_add, Nat.le_refl, Int.toNat_natCast, Int.ofNat_lt, Int.natCast_nonneg, decide_eq_true_eq, decide_eq_false_iff_not, bne_iff_ne, ne_eq]; try dsimp only [Kd.T, Kds.T, AK.T, AKs.T])
    have e9 : (askM (madeM nums).1 n now).2.2.2.2.2.2.2.2.1 = 2 := rfl
    rw [ha] at e9
    rw [hl, ha]
    exact ⟨rfl, rfl, rfl, rfl, rfl, rfl, h67.1.symm, h67.2.symm, rfl, e9.symm⟩
  refine AM.runTo2 hG 33 100 (by cbv) ?_ ?_
  · (simp only [sxs, sxb, and_self, and_true, true_and, implies_true, imp_self, bne_eq_false_iff_eq, Nat.zero_add, Nat.le_refl, Int.toNat_natCast, Int.ofNat_lt, Int.natCast_nonneg, decide_eq_true_eq, decide_eq_false_iff_not, bne_iff_ne, ne_eq]; try dsimp only [Kd.T, Kds.T, AK.T, AKs.T])
    exact ⟨by omega, by decide⟩
  refine AM.imp2 (fr' := frame 151 [(6, .bool (.l false)), (7, .ptr 0 0), (8, .ptr 1 0), (9, .ptr 2 0), (10, .bool (.t fun _ => is)), (11, .int .i64 (.l 0))]) (h' := [.box 25 [.int .i64 (.l 20), .ro CallK fun _ => l], .box 27 [.int .i64 (.t fun _ => a1), .int .i64 (.t fun _ => a2), .int .i64 (.t fun _ => a3), .int .i64 (.t fun _ => a4), .int .i64 (.t fun _ => a5), .int .i64 (.t fun _ => a6), .int .i64 (.t fun _ => a7), .int .i64 (.t fun _ => a8), .int .i64 (.t fun _ => a9), .ro CallK fun _ => []], .box 31 [.int .i64 (.t fun _ => c1), .int .i64 (.t fun _ => c2), .int .i64 (.t fun _ => c3), .int .i64 (.t fun _ => c4)]]) (by cbv) (by cbv) ?_ ?_ ?_
  · (simp only [sxs, sxb, and_self, and_true, true_and, implies_true, imp_self, bne_eq_false_iff_eq, Nat.zero_add, Nat.le_refl, Int.toNat_natCast, Int.ofNat_lt, Int.natCast_nonneg, decide_eq_true_eq, decide_eq_false_iff_not, bne_iff_ne, ne_eq]; try dsimp only [Kd.T, Kds.T, AK.T, AKs.T])
    rw [hbyR]
    exact ⟨rfl, rfl⟩
  · (simp only [sxs, sxb, and_self, and_true, true_and, implies_true, imp_self, bne_eq_false_iff_eq, Nat.zero_add, Nat.le_refl, Int.toNat_natCast, Int.ofNat_lt, Int.natCast_nonneg, decide_eq_true_eq, decide_eq_false_iff_not, bne_iff_ne, ne_eq]; try dsimp only [Kd.T, Kds.T, AK.T, AKs.T])
    rw [hbyR]
    exact ⟨rfl, rfl, rfl, rfl⟩
  have hin' : ((c1, c2, c3, c4, PUnit.unit) ∈ l) = (is = true) := by rw [hin, decide_eq_true_eq]
  refine AM.run2 hG 100 (by cbv) ?_ ?_
  · (simp only [sxs, sxb, and_self, and_true, true_and, implies_true, imp_self, bne_eq_false_iff_eq, Nat.zero_add, Nat.le_refl, Int.toNat_natCast, Int.ofNat_lt, Int.natCast_nonneg, decide_eq_true_eq, decide_eq_false_iff_not, bne_iff_ne, ne_eq]; try dsimp only [Kd.T, Kds.T, AK.T, AKs.T])
    exact ⟨fun q1 q2 => ⟨q1, q2⟩, fun q1 q2 => ⟨q1, q2⟩, by omega⟩
  refine AM.sure 57 false rfl ?_ ?_
  · show (if (!eqBo is (decide ((c1, c2, c3, c4, ()) ∈ l))) = true then true else if (if is = true then !hallB (c1, c2, c3, c4, ()) else false) = true then neI c3 a1 else false) = false
    rw [← hin, show eqBo is is = true by cases is <;> rfl, if_neg (by decide)]
    by_cases q1 : is = true
    · rw [if_pos q1]
      by_cases q2 : hallB (c1, c2, c3, c4, ()) = true
      · rw [q2]; rfl
      · have q3 : c3 = a1 := hcar q1 (by simpa using q2)
        rw [if_pos (by simpa using q2), neI_f]
        exact q3
    · rw [if_neg q1, if_neg (by decide)]
  refine AM.runTo2 hG 66 100 (by cbv) ?_ ?_
  · (simp only [sxs, sxb, and_self, and_true, true_and, implies_true, imp_self, bne_eq_false_iff_eq, Nat.zero_add, Nat.le_refl, Int.toNat_natCast, Int.ofNat_lt, Int.natCast_nonneg, decide_eq_true_eq, decide_eq_false_iff_not, bne_iff_ne, ne_eq]; try dsimp only [Kd.T, Kds.T, AK.T, AKs.T])
    exact ⟨by omega, by decide⟩
  obtain ⟨g, gs, d, hg, hg0⟩ : ∃ g gs d, goalR (20, l, ()) (a1, a2, a3, a4, a5, a6, a7, a8, a9, [], ()) = (g, gs, d, 0) ∧ (a2 = 0 → g = c2 ∧ gs = is ∧ d = (c1, c2, c3, c4, ())) := by
    rw [goalR, if_neg (by rw [hask l hT]; decide), hby]
    simp only
    obtain ⟨h6, h7⟩ := h67
    by_cases e2 : a2 = 2
    · exact ⟨_, _, _, if_pos e2, fun h => by omega⟩
    rw [if_neg e2, if_neg (by omega)]
    by_cases e3 : a2 = 3
    · exact ⟨_, _, _, if_pos e3, fun h => by omega⟩
    rw [if_neg e3]
    exact ⟨_, _, _, rfl, fun _ => ⟨rfl, rfl, rfl⟩⟩
  obtain ⟨d1, d2, d3, d4, d5⟩ := d
  refine AM.imp2 (fr' := frame 151 [(6, .bool (.l false)), (7, .ptr 0 0), (8, .ptr 1 0), (9, .ptr 2 0), (10, .bool (.t fun _ => is)), (11, .int .i64 (.l 0)), (12, .int .i64 (.t fun _ => g)), (13, .bool (.t fun _ => gs)), (14, .ptr 3 0)]) (h' := [.box 25 [.int .i64 (.l 20), .ro CallK fun _ => l], .box 27 [.int .i64 (.t fun _ => a1), .int .i64 (.t fun _ => a2), .int .i64 (.t fun _ => a3), .int .i64 (.t fun _ => a4), .int .i64 (.t fun _ => a5), .int .i64 (.t fun _ => a6), .int .i64 (.t fun _ => a7), .int .i64 (.t fun _ => a8), .int .i64 (.t fun _ => a9), .ro CallK fun _ => []], .box 31 [.int .i64 (.t fun _ => c1), .int .i64 (.t fun _ => c2), .int .i64 (.t fun _ => c3), .int .i64 (.t fun _ => c4)], .box 31 [.int .i64 (.t fun _ => d1), .int .i64 (.t fun _ => d2), .int .i64 (.t fun _ => d3), .int .i64 (.t fun _ => d4)]]) (by cbv) (by cbv) ?_ ?_ ?_
  · (simp only [sxs, sxb, and_self, and_true, true_and, implies_true, imp_self, bne_eq_false_iff_eq, Nat.zero_add, Nat.le_refl, Int.toNat_natCast, Int.ofNat_lt, Int.natCast_nonneg, decide_eq_true_eq, decide_eq_false_iff_not, bne_iff_ne, ne_eq]; try dsimp only [Kd.T, Kds.T, AK.T, AKs.T])
    rw [hg]
    exact ⟨rfl, rfl, rfl⟩
  · (simp only [sxs, sxb, and_self, and_true, true_and, implies_true, imp_self, bne_eq_false_iff_eq, Nat.zero_add, Nat.le_refl, Int.toNat_natCast, Int.ofNat_lt, Int.natCast_nonneg, decide_eq_true_eq, decide_eq_false_iff_not, bne_iff_ne, ne_eq]; try dsimp only [Kd.T, Kds.T, AK.T, AKs.T])
    rw [hg]
    exact ⟨rfl, rfl, rfl, rfl⟩
  refine AM.run2 hG 100 (by cbv) ?_ ?_
  · (simp only [sxs, sxb, and_self, and_true, true_and, implies_true, imp_self, bne_eq_false_iff_eq, Nat.zero_add, Nat.le_refl, Int.toNat_natCast, Int.ofNat_lt, Int.natCast_nonneg, decide_eq_true_eq, decide_eq_false_iff_not, bne_iff_ne, ne_eq]; try dsimp only [Kd.T, Kds.T, AK.T, AKs.T])
    exact ⟨fun q1 q2 => ⟨q1, q2⟩, fun q1 q2 => ⟨q1, q2⟩, fun q1 q2 => ⟨q1, q2⟩⟩
  refine AM.sure 91 false rfl ?_ ?_
  · show (if eqI a2 0 = true then if (!eqBo gs is) = true then true else if is = true then if neI g c2 = true then true else !eqK CallK (d1, d2, d3, d4, ()) (c1, c2, c3, c4, ()) else false else false) = false
    by_cases q : a2 = 0
    · obtain ⟨q1, q2, q3⟩ := hg0 q
      rw [q1, q2, q3, show eqBo is is = true by cases is <;> rfl, eqK_call]
      cases is <;> simp [neI]
    · rw [if_neg (by rw [eqI_t]; exact q)]
  refine AM.run2 hG 100 (by cbv) ?_ ?_
  · (simp only [sxs, sxb, and_self, and_true, true_and, implies_true, imp_self, bne_eq_false_iff_eq, Nat.zero_add, Nat.le_refl, Int.toNat_natCast, Int.ofNat_lt, Int.natCast_nonneg, decide_eq_true_eq, decide_eq_false_iff_not, bne_iff_ne, ne_eq]; try dsimp only [Kd.T, Kds.T, AK.T, AKs.T])
  refine AM.emptyRow 4 1 31 CallK rfl (by simp) rfl ?_
  refine AM.loopI (fun z : Nat × List Call => (frame 151 [(6, .bool (.l false)), (7, .ptr 0 0), (8, .ptr 1 0), (9, .ptr 2 0), (10, .bool (.t fun _ => is)), (15, .ptr 4 0), (16, .int .i64 (.t fun _ => nI z.1))],
    [.box 25 [.int .i64 (.l 20), .ro CallK fun _ => l], .box 27 [.int .i64 (.t fun _ => a1), .int .i64 (.t fun _ => a2), .int .i64 (.t fun _ => a3), .int .i64 (.t fun _ => a4), .int .i64 (.t fun _ => a5), .int .i64 (.t fun _ => a6), .int .i64 (.t fun _ => a7), .int .i64 (.t fun _ => a8), .int .i64 (.t fun _ => a9), .ro CallK fun _ => []], .box 31 [.int .i64 (.t fun _ => c1), .int .i64 (.t fun _ => c2), .int .i64 (.t fun _ => c3), .int .i64 (.t fun _ => c4)], .box 31 [.int .i64 (.t fun _ => d1), .int .i64 (.t fun _ => d2), .int .i64 (.t fun _ => d3), .int .i64 (.t fun _ => d4)], .box 25 [.int .i64 (.l 20), .sl 5 4 (.l 0) (.t fun _ => z.2.length)], .row 31 CallK (fun _ => z.2)]))
    (fun z => z.1 ≤ l.length ∧ z.2 = (l.take z.1).filter (mineB a1) ∧ z.2.length ≤ z.1) (fun z => l.length - z.1) (0, []) ⟨by simp, by simp, by simp⟩ ?_ ?_ ?_
  · cbv; (simp only [sxs, sxb, and_self, and_true, true_and, implies_true, imp_self, bne_eq_false_iff_eq, Nat.zero_add, Nat.le_refl, Int.toNat_natCast, Int.ofNat_lt, Int.natCast_nonneg, decide_eq_true_eq, decide_eq_false_iff_not, bne_iff_ne, ne_eq]; try dsimp only [Kd.T, Kds.T, AK.T, AKs.T]); all_goals ((repeat' apply And.intro) <;> first | rfl | assumption | exact trivial)
  · cbv; (simp only [sxs, sxb, and_self, and_true, true_and, implies_true, imp_self, bne_eq_false_iff_eq, Nat.zero_add, Nat.le_refl, Int.toNat_natCast, Int.ofNat_lt, Int.natCast_nonneg, decide_eq_true_eq, decide_eq_false_iff_not, bne_iff_ne, ne_eq]; try dsimp only [Kd.T, Kds.T, AK.T, AKs.T]); all_goals ((repeat' apply And.intro) <;> first | rfl | assumption | exact trivial)
  rintro ⟨i, m⟩ ⟨hi, hm, hml⟩ ih
  simp only at hi hm hml
  refine AM.run2 hG 100 (by cbv) ?_ ?_
  · (simp only [sxs, sxb, and_self, and_true, true_and, implies_true, imp_self, bne_eq_false_iff_eq, Nat.zero_add, Nat.le_refl, Int.toNat_natCast, Int.ofNat_lt, Int.natCast_nonneg, decide_eq_true_eq, decide_eq_false_iff_not, bne_iff_ne, ne_eq]; try dsimp only [Kd.T, Kds.T, AK.T, AKs.T])
  refine AM.case 99 rfl (fun h => ?_) (fun h => ?_) <;> (simp only [sxs, sxb, and_self, and_true, true_and, implies_true, imp_self, bne_eq_false_iff_eq, Nat.zero_add, Nat.le_refl, Int.toNat_natCast, Int.ofNat_lt, Int.natCast_nonneg, decide_eq_true_eq, decide_eq_false_iff_not, bne_iff_ne, ne_eq] at h; try dsimp only [Kd.T, Kds.T, AK.T, AKs.T] at h)
  · have hnext : (l.take (i + 1)).filter (mineB a1) = m ++ (if mineB a1 (l.getD i zc) = true then [l.getD i zc] else []) := by
      rw [take_succD h, List.filter_append, ← hm]
      congr 1
      by_cases hq : mineB a1 (l.getD i zc) = true
      · rw [if_pos hq, List.filter_cons_of_pos hq]; rfl
      · rw [if_neg hq, List.filter_cons_of_neg hq]; rfl
    refine AM.run2 hG 100 (by cbv) ?_ ?_
    · (simp only [sxs, sxb, and_self, and_true, true_and, implies_true, imp_self, bne_eq_false_iff_eq, Nat.zero_add, Nat.le_refl, Int.toNat_natCast, Int.ofNat_lt, Int.natCast_nonneg, decide_eq_true_eq, decide_eq_false_iff_not, bne_iff_ne, ne_eq]; try dsimp only [Kd.T, Kds.T, AK.T, AKs.T])
      exact ⟨h, h, fun _ => h⟩
    refine AM.case 118 rfl (fun h1 => ?_) (fun h1 => ?_)
    · replace h1 : (if hallB (l.getD i zc) = true then true else eqI (l.getD i zc).2.2.1 a1) = true := h1
      have hq : mineB a1 (l.getD i zc) = true := by
        rw [mineB, ← h1]
        cases hallB (l.getD i zc) <;> simp
      rw [if_pos hq] at hnext
      refine AM.run2 hG 100 (by cbv) ?_ ?_
      · (simp only [sxs, sxb, and_self, and_true, true_and, implies_true, imp_self, bne_eq_false_iff_eq, Nat.zero_add, Nat.le_refl, Int.toNat_natCast, Int.ofNat_lt, Int.natCast_nonneg, decide_eq_true_eq, decide_eq_false_iff_not, bne_iff_ne, ne_eq]; try dsimp only [Kd.T, Kds.T, AK.T, AKs.T])
        simp only [maxLen, List.length_take, List.length_cons, List.length_nil]
        omega
      refine AM.ren hB [0, 1, 2, 3, 4, 7] (by cbv) (by cbv) (by cbv) ?_ ?_ (ih (i + 1, m ++ [l.getD i zc]) ⟨by simp only; omega, hnext.symm, by simp only [List.length_append, List.length_cons, List.length_nil]; omega⟩ (by simp only; omega))
      · (simp only [sxs, sxb, and_self, and_true, true_and, implies_true, imp_self, bne_eq_false_iff_eq, Nat.zero_add, Nat.le_refl, Int.toNat_natCast, Int.ofNat_lt, Int.natCast_nonneg, decide_eq_true_eq, decide_eq_false_iff_not, bne_iff_ne, ne_eq]; try dsimp only [Kd.T, Kds.T, AK.T, AKs.T])
        rw [w64s (by omega)]
      · (simp only [sxs, sxb, and_self, and_true, true_and, implies_true, imp_self, bne_eq_false_iff_eq, Nat.zero_add, Nat.le_refl, Int.toNat_natCast, Int.ofNat_lt, Int.natCast_nonneg, decide_eq_true_eq, decide_eq_false_iff_not, bne_iff_ne, ne_eq]; try dsimp only [Kd.T, Kds.T, AK.T, AKs.T])
        rw [List.length_append]
        exact ⟨rfl, rfl⟩
    · replace h1 : (if hallB (l.getD i zc) = true then true else eqI (l.getD i zc).2.2.1 a1) = false := h1
      have hq : ¬ mineB a1 (l.getD i zc) = true := by
        rw [mineB]
        revert h1
        cases hallB (l.getD i zc) <;> simp
      rw [if_neg hq, List.append_nil] at hnext
      refine AM.run2 hG 100 (by cbv) ?_ ?_
      · (simp only [sxs, sxb, and_self, and_true, true_and, implies_true, imp_self, bne_eq_false_iff_eq, Nat.zero_add, Nat.le_refl, Int.toNat_natCast, Int.ofNat_lt, Int.natCast_nonneg, decide_eq_true_eq, decide_eq_false_iff_not, bne_iff_ne, ne_eq]; try dsimp only [Kd.T, Kds.T, AK.T, AKs.T])
      refine AM.ren hB [0, 1, 2, 3, 4, 5] (by cbv) (by cbv) (by cbv) ?_ ?_ (ih (i + 1, m) ⟨by simp only; omega, hnext.symm, by simp only; omega⟩ (by simp only; omega))
      · (simp only [sxs, sxb, and_self, and_true, true_and, implies_true, imp_self, bne_eq_false_iff_eq, Nat.zero_add, Nat.le_refl, Int.toNat_natCast, Int.ofNat_lt, Int.natCast_nonneg, decide_eq_true_eq, decide_eq_false_iff_not, bne_iff_ne, ne_eq]; try dsimp only [Kd.T, Kds.T, AK.T, AKs.T])
        rw [w64s (by omega)]
      · (simp only [sxs, sxb, and_self, and_true, true_and, implies_true, imp_self, bne_eq_false_iff_eq, Nat.zero_add, Nat.le_refl, Int.toNat_natCast, Int.ofNat_lt, Int.natCast_nonneg, decide_eq_true_eq, decide_eq_false_iff_not, bne_iff_ne, ne_eq]; try dsimp only [Kd.T, Kds.T, AK.T, AKs.T])
  clear ih
  rw [List.take_of_length_le (by omega)] at hm
  have hby2 : byR (20, m, ()) (a1, a2, a3, a4, a5, a6, a7, a8, a9, [], ()) = ((c1, c2, c3, c4, ()), is, 0) := by
    have := byS_filter l (a1, a2, a3, a4, a5, a6, a7, a8, a9, [], ())
    rw [hby] at this
    rw [byR, if_neg (by rw [hm, hask _ (hT.filter _)]; decide), hm]
    simp only [this]
  refine AM.run2 hG 100 (by cbv) ?_ ?_
  · (simp only [sxs, sxb, and_self, and_true, true_and, implies_true, imp_self, bne_eq_false_iff_eq, Nat.zero_add, Nat.le_refl, Int.toNat_natCast, Int.ofNat_lt, Int.natCast_nonneg, decide_eq_true_eq, decide_eq_false_iff_not, bne_iff_ne, ne_eq]; try dsimp only [Kd.T, Kds.T, AK.T, AKs.T])
    rw [List.take_length]
    exact ⟨by omega, by decide⟩
  refine AM.ret2 hG (by cbv) (by (simp only [sxs, sxb, and_self, and_true, true_and, implies_true, imp_self, bne_eq_false_iff_eq, Nat.zero_add, Nat.le_refl, Int.toNat_natCast, Int.ofNat_lt, Int.natCast_nonneg, decide_eq_true_eq, decide_eq_false_iff_not, bne_iff_ne, ne_eq]; try dsimp only [Kd.T, Kds.T, AK.T, AKs.T])) (hQ _ _ (FinRo.of (by cbv) (by cbv) ?_ ?_))
  · (simp only [sxs, sxb, and_self, and_true, true_and, implies_true, imp_self, bne_eq_false_iff_eq, Nat.zero_add, Nat.le_refl, Int.toNat_natCast, Int.ofNat_lt, Int.natCast_nonneg, decide_eq_true_eq, decide_eq_false_iff_not, bne_iff_ne, ne_eq]; try dsimp only [Kd.T, Kds.T, AK.T, AKs.T])
  try (simp only [sxs, sxb, and_self, and_true, true_and, implies_true, imp_self, bne_eq_false_iff_eq, Nat.zero_add, Nat.le_refl, Int.toNat_natCast, Int.ofNat_lt, Int.natCast_nonneg, decide_eq_true_eq, decide_eq_false_iff_not, bne_iff_ne, ne_eq]; try dsimp only [Kd.T, Kds.T, AK.T, AKs.T])
  rw [List.take_length, hby2]
  exact ⟨⟨rfl, by simp [eqKs, eqK, eqI]⟩, rfl⟩
end Go.Sx.Yteiehkafkcggeaa
