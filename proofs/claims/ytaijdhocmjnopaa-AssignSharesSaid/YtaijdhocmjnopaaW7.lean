/- The law AssignShares. -/
import Derived.Test.YtaijdhocmjnopaaV10
namespace Go.Sx.Ytaijdhocmjnopaa
open Go Go.Sx Go.Proofs
set_option linter.unusedVariables false
set_option linter.unusedSimpArgs false
set_option maxRecDepth 100000

theorem eqsC (a b : Call) : eqKs [I64, I64, I64, I64] a b = decide (a = b) := by
  obtain ⟨a1, a2, a3, a4, ⟨⟩⟩ := a
  obtain ⟨b1, b2, b3, b4, ⟨⟩⟩ := b
  rw [Bool.eq_iff_iff]
  simp [eqK, eqKs, eqI, Prod.ext_iff]
set_option maxHeartbeats 16000000 in
theorem law7 : FnOk Try.prog 7 (sigSpec [IntsK, I64] [.bool] (fun _ => (true, ())) (Kds.wf [IntsK, I64])) := by
  refine fn_ofB (rs := [.tmp 4]) (env [(10, S10), (11, S11), (15, S15), (14, S14)]
    ⟨fn10, fn11, fn15, fn14, trivial⟩) Try.func7 (by kernel_rfl) rfl rfl Try.ntmps7 ?_
  rintro ⟨(nums : List Int), (n : Int), u2⟩ _ G hG hB hQ
  have hB := GB.of hB
  have hM := (madeM_ok nums).1
  have hE := tabM_ok nums
  obtain ⟨hT, hl1, hl4⟩ := turnM_ok nums n
  have htm : tabM nums = (32, (madeM nums).2, ()) := rfl
  obtain ⟨cs, hcs⟩ : ∃ x, (madeM nums).2 = x := ⟨_, rfl⟩
  obtain ⟨T, hTT⟩ : ∃ x, (madeM nums).1 = x := ⟨_, rfl⟩
  obtain ⟨l, hl⟩ : ∃ x, turnM nums n = x := ⟨_, rfl⟩
  rw [hcs] at htm hM
  rw [htm] at hE
  rw [hTT] at hM
  rw [hl] at hT hl1 hl4
  have hcsl : cs.length ≤ 20 := hM.len
  have hA := allR_ok hE hT
  have r0 := hT.range _ (getA_mem (show 0 < l.length by omega))
  have hU := uR_ok (now := (l.getD 0 zA).2.2.2.1) (cy := (l.getD 0 zA).2.2.2.2.1) hE (by have := r0.2.2.2.1; omega) (by have := r0.2.2.2.1; omega) r0.2.2.2.2.1
  obtain ⟨now, hnow⟩ : ∃ x, (l.getD 0 zA).2.2.2.1 = x := ⟨_, rfl⟩
  obtain ⟨cy, hcy⟩ : ∃ x, (l.getD 0 zA).2.2.2.2.1 = x := ⟨_, rfl⟩
  rw [hnow, hcy] at hU
  obtain ⟨ch, hch⟩ : ∃ x, choicesR (32, cs, ()) l [] = x := ⟨_, rfl⟩
  have hcl : ch.length = l.length := by rw [← hch, choicesR_len]
  rw [hch] at hA
  refine AM.runTo2 hG 44 200 (by cbv) ?_ ?_
  · (simp only [sxs, sxb, and_self, and_true, true_and, implies_true, imp_self, bne_eq_false_iff_eq, Nat.zero_add, Nat.le_refl, Int.toNat_natCast, Int.ofNat_lt, Int.natCast_nonneg, decide_eq_true_eq, decide_eq_false_iff_not, bne_iff_ne, ne_eq]; try dsimp only [Kd.T, Kds.T, AK.T, AKs.T])
    simp only [htm, hl]
    exact ⟨⟨by decide, by omega⟩, by omega, ⟨by decide, by omega⟩, by omega, by omega, by omega, by omega⟩
  obtain ⟨U, hUU⟩ : ∃ x, cs.filter (urgentP now cy) = x := ⟨_, rfl⟩
  have hU2 : uR (32, cs, ()) now cy = (U, 0) := by rw [hU]; simp only [hUU]
  refine AM.imp2 (fr' := frame 178 [(5, .ptr 0 0), (6, .ro AskK fun _ => l), (7, .ro ChoiceK fun _ => ch), (8, .int .i64 (.l 0)), (9, .ro CallK fun _ => U), (10, .int .i64 (.l 0))])
    (h' := [.box 25 [.int .i64 (.t fun _ => 32), .ro CallK fun _ => cs]]) (by cbv) (by cbv) ?_ ?_ ?_
  · (simp only [sxs, sxb, and_self, and_true, true_and, implies_true, imp_self, bne_eq_false_iff_eq, Nat.zero_add, Nat.le_refl, Int.toNat_natCast, Int.ofNat_lt, Int.natCast_nonneg, decide_eq_true_eq, decide_eq_false_iff_not, bne_iff_ne, ne_eq]; try dsimp only [Kd.T, Kds.T, AK.T, AKs.T])
    simp only [htm, hl, hA]
    refine ⟨trivial, trivial, trivial, ?_, ?_⟩
    · exact congrArg (fun z => z.1) (show uR (32, cs, ()) (l.getD 0 zA).2.2.2.1 (l.getD 0 zA).2.2.2.2.1 = (U, 0) by rw [hnow, hcy]; exact hU2)
    · exact congrArg (fun z => z.2) (show uR (32, cs, ()) (l.getD 0 zA).2.2.2.1 (l.getD 0 zA).2.2.2.2.1 = (U, 0) by rw [hnow, hcy]; exact hU2)
  · (simp only [sxs, sxb, and_self, and_true, true_and, implies_true, imp_self, bne_eq_false_iff_eq, Nat.zero_add, Nat.le_refl, Int.toNat_natCast, Int.ofNat_lt, Int.natCast_nonneg, decide_eq_true_eq, decide_eq_false_iff_not, bne_iff_ne, ne_eq]; try dsimp only [Kd.T, Kds.T, AK.T, AKs.T])
    simp only [htm]
    exact ⟨trivial, trivial⟩
  have hci : ∀ i, i < l.length → ch.getD i zCh = goalC (32, cs, ()) (l.getD i zA) (takenL (ch.take i)) := fun i hi => by
    have := choice_at (32, cs, ()) l [] i hi
    rw [show takenL [] = [] from rfl, hch, List.nil_append] at this
    exact this
  have hcho : ∀ i, i < l.length → byC (ch.getD i zCh) ≠ zc → Chose (32, cs, ()) (l.getD i zA) (takenL (ch.take i)) (ch.getD i zCh) := fun i hi hb => by
    rw [hci i hi] at hb ⊢
    exact chose hb
  refine AM.run2 hG 200 (by cbv) ?_ ?_
  · (simp only [sxs, sxb, and_self, and_true, true_and, implies_true, imp_self, bne_eq_false_iff_eq, Nat.zero_add, Nat.le_refl, Int.toNat_natCast, Int.ofNat_lt, Int.natCast_nonneg, decide_eq_true_eq, decide_eq_false_iff_not, bne_iff_ne, ne_eq]; try dsimp only [Kd.T, Kds.T, AK.T, AKs.T])
  refine AM.sure 56 false rfl (by (simp only [sxs, sxb, and_self, and_true, true_and, implies_true, imp_self, bne_eq_false_iff_eq, Nat.zero_add, Nat.le_refl, Int.toNat_natCast, Int.ofNat_lt, Int.natCast_nonneg, decide_eq_true_eq, decide_eq_false_iff_not, bne_iff_ne, ne_eq]; try dsimp only [Kd.T, Kds.T, AK.T, AKs.T]); simp [hcl]) ?_
  refine AM.run2 hG 200 (by cbv) ?_ ?_
  · (simp only [sxs, sxb, and_self, and_true, true_and, implies_true, imp_self, bne_eq_false_iff_eq, Nat.zero_add, Nat.le_refl, Int.toNat_natCast, Int.ofNat_lt, Int.natCast_nonneg, decide_eq_true_eq, decide_eq_false_iff_not, bne_iff_ne, ne_eq]; try dsimp only [Kd.T, Kds.T, AK.T, AKs.T])
  refine AM.loopI (fun i : Nat => (frame 178 [(5, .ptr 0 0), (6, .ro AskK fun _ => l), (7, .ro ChoiceK fun _ => ch), (9, .ro CallK fun _ => U), (11, .int .i64 (.t fun _ => nI i))],
    [.box 25 [.int .i64 (.t fun _ => 32), .ro CallK fun _ => cs]])) (fun i => i ≤ l.length) (fun i => l.length - i) 0 (Nat.zero_le _) ?_ ?_ ?_
  · cbv; (simp only [sxs, sxb, and_self, and_true, true_and, implies_true, imp_self, bne_eq_false_iff_eq, Nat.zero_add, Nat.le_refl, Int.toNat_natCast, Int.ofNat_lt, Int.natCast_nonneg, decide_eq_true_eq, decide_eq_false_iff_not, bne_iff_ne, ne_eq]; try dsimp only [Kd.T, Kds.T, AK.T, AKs.T]); all_goals ((repeat' apply And.intro) <;> first | rfl | assumption | exact trivial)
  · cbv; (simp only [sxs, sxb, and_self, and_true, true_and, implies_true, imp_self, bne_eq_false_iff_eq, Nat.zero_add, Nat.le_refl, Int.toNat_natCast, Int.ofNat_lt, Int.natCast_nonneg, decide_eq_true_eq, decide_eq_false_iff_not, bne_iff_ne, ne_eq]; try dsimp only [Kd.T, Kds.T, AK.T, AKs.T]); all_goals ((repeat' apply And.intro) <;> first | rfl | assumption | exact trivial)
  rintro i hi ih
  refine AM.run2 hG 100 (by cbv) ?_ ?_
  · (simp only [sxs, sxb, and_self, and_true, true_and, implies_true, imp_self, bne_eq_false_iff_eq, Nat.zero_add, Nat.le_refl, Int.toNat_natCast, Int.ofNat_lt, Int.natCast_nonneg, decide_eq_true_eq, decide_eq_false_iff_not, bne_iff_ne, ne_eq]; try dsimp only [Kd.T, Kds.T, AK.T, AKs.T])
  refine AM.case 60 rfl (fun h => ?_) (fun h => ?_) <;> (simp only [sxs, sxb, and_self, and_true, true_and, implies_true, imp_self, bne_eq_false_iff_eq, Nat.zero_add, Nat.le_refl, Int.toNat_natCast, Int.ofNat_lt, Int.natCast_nonneg, decide_eq_true_eq, decide_eq_false_iff_not, bne_iff_ne, ne_eq] at h; try dsimp only [Kd.T, Kds.T, AK.T, AKs.T] at h)
  · obtain ⟨⟨car, fl, isc, ⟨b1, b2, b3, b4, ⟨⟩⟩, ⟨⟩⟩, hc⟩ : ∃ c, ch.getD i zCh = c := ⟨_, rfl⟩
    replace h : i < ch.length := h
    have hc2 : ch.getD i (0, 0, Kd.bool.z, (0, 0, 0, 0, ()), ()) = (car, fl, isc, (b1, b2, b3, b4, ()), ()) := hc
    refine AM.run2 hG 100 (by cbv) ?_ ?_
    · (simp only [sxs, sxb, and_self, and_true, true_and, implies_true, imp_self, bne_eq_false_iff_eq, Nat.zero_add, Nat.le_refl, Int.toNat_natCast, Int.ofNat_lt, Int.natCast_nonneg, decide_eq_true_eq, decide_eq_false_iff_not, bne_iff_ne, ne_eq]; try dsimp only [Kd.T, Kds.T, AK.T, AKs.T])
      exact h
    refine AM.imp2 (fr' := frame 178 [(5, .ptr 0 0), (6, .ro AskK fun _ => l), (7, .ro ChoiceK fun _ => ch), (9, .ro CallK fun _ => U), (11, .int .i64 (.t fun _ => nI i)), (12, .ptr 1 0), (70, .bool (.t fun _ => decide ((b1, b2, b3, b4, ()) = zc)))])
      (h' := [.box 25 [.int .i64 (.t fun _ => 32), .ro CallK fun _ => cs], .box 38 (cAtF fun _ => (b1, b2, b3, b4, ()))]) (by cbv) (by cbv) ?_ ?_ ?_
    · (simp only [sxs, sxb, and_self, and_true, true_and, implies_true, imp_self, bne_eq_false_iff_eq, Nat.zero_add, Nat.le_refl, Int.toNat_natCast, Int.ofNat_lt, Int.natCast_nonneg, decide_eq_true_eq, decide_eq_false_iff_not, bne_iff_ne, ne_eq]; try dsimp only [Kd.T, Kds.T, AK.T, AKs.T])
      rw [hc2]
      exact eqsC _ _
    · (simp only [sxs, sxb, and_self, and_true, true_and, implies_true, imp_self, bne_eq_false_iff_eq, Nat.zero_add, Nat.le_refl, Int.toNat_natCast, Int.ofNat_lt, Int.natCast_nonneg, decide_eq_true_eq, decide_eq_false_iff_not, bne_iff_ne, ne_eq]; try dsimp only [Kd.T, Kds.T, AK.T, AKs.T])
      rw [hc2]
      exact ⟨rfl, rfl, rfl, rfl⟩
    refine AM.case 70 rfl (fun (h1 : decide ((b1, b2, b3, b4, ()) = zc) = true) => ?_) (fun (h1 : decide ((b1, b2, b3, b4, ()) = zc) = false) => ?_)
    · refine AM.run2 hG 100 (by cbv) ?_ ?_
      · (simp only [sxs, sxb, and_self, and_true, true_and, implies_true, imp_self, bne_eq_false_iff_eq, Nat.zero_add, Nat.le_refl, Int.toNat_natCast, Int.ofNat_lt, Int.natCast_nonneg, decide_eq_true_eq, decide_eq_false_iff_not, bne_iff_ne, ne_eq]; try dsimp only [Kd.T, Kds.T, AK.T, AKs.T])
      refine AM.ren hB [0] (by cbv) (by cbv) (by cbv) ?_ ?_ (ih (i + 1) (by omega) (by omega))
      · (simp only [sxs, sxb, and_self, and_true, true_and, implies_true, imp_self, bne_eq_false_iff_eq, Nat.zero_add, Nat.le_refl, Int.toNat_natCast, Int.ofNat_lt, Int.natCast_nonneg, decide_eq_true_eq, decide_eq_false_iff_not, bne_iff_ne, ne_eq]; try dsimp only [Kd.T, Kds.T, AK.T, AKs.T])
        rw [w64s (by omega)]
      · (simp only [sxs, sxb, and_self, and_true, true_and, implies_true, imp_self, bne_eq_false_iff_eq, Nat.zero_add, Nat.le_refl, Int.toNat_natCast, Int.ofNat_lt, Int.natCast_nonneg, decide_eq_true_eq, decide_eq_false_iff_not, bne_iff_ne, ne_eq]; try dsimp only [Kd.T, Kds.T, AK.T, AKs.T])
    rw [decide_eq_false_iff_not] at h1
    have hch1 := hcho i (by omega) (by rw [hc]; exact h1)
    rw [hc] at hch1
    obtain ⟨k1, k2, k3, k4, k5⟩ := hch1
    have hca : car = (l.getD i zA).1 := by have := hci i (by omega); rw [hc] at this; exact congrArg (fun z => z.1) this
    simp only [byC] at k1 k2 k3 k4 k5
    refine AM.run2 hG 100 (by cbv) ?_ ?_
    · (simp only [sxs, sxb, and_self, and_true, true_and, implies_true, imp_self, bne_eq_false_iff_eq, Nat.zero_add, Nat.le_refl, Int.toNat_natCast, Int.ofNat_lt, Int.natCast_nonneg, decide_eq_true_eq, decide_eq_false_iff_not, bne_iff_ne, ne_eq]; try dsimp only [Kd.T, Kds.T, AK.T, AKs.T])
    refine AM.loopI (fun z : Nat × Int => (frame 178 [(5, .ptr 0 0), (6, .ro AskK fun _ => l), (7, .ro ChoiceK fun _ => ch), (9, .ro CallK fun _ => U), (11, .int .i64 (.t fun _ => nI i)), (12, .ptr 1 0), (13, .int .i64 (.t fun _ => z.2)), (14, .int .i64 (.t fun _ => nI z.1))],
      [.box 25 [.int .i64 (.t fun _ => 32), .ro CallK fun _ => cs], .box 38 (cAtF fun _ => (b1, b2, b3, b4, ()))]))
      (fun z => z.1 ≤ cs.length ∧ ((z.2 = -1 ∧ ∀ k, k < z.1 → cs.getD k zc ≠ (b1, b2, b3, b4, ())) ∨ ∃ k, k < z.1 ∧ z.2 = nI k ∧ cs.getD k zc = (b1, b2, b3, b4, ()))) (fun z => cs.length - z.1) (0, -1) ⟨Nat.zero_le _, .inl ⟨rfl, fun k hk => by omega⟩⟩ ?_ ?_ ?_
    · cbv; (simp only [sxs, sxb, and_self, and_true, true_and, implies_true, imp_self, bne_eq_false_iff_eq, Nat.zero_add, Nat.le_refl, Int.toNat_natCast, Int.ofNat_lt, Int.natCast_nonneg, decide_eq_true_eq, decide_eq_false_iff_not, bne_iff_ne, ne_eq]; try dsimp only [Kd.T, Kds.T, AK.T, AKs.T]); all_goals ((repeat' apply And.intro) <;> first | rfl | assumption | exact trivial)
    · cbv; (simp only [sxs, sxb, and_self, and_true, true_and, implies_true, imp_self, bne_eq_false_iff_eq, Nat.zero_add, Nat.le_refl, Int.toNat_natCast, Int.ofNat_lt, Int.natCast_nonneg, decide_eq_true_eq, decide_eq_false_iff_not, bne_iff_ne, ne_eq]; try dsimp only [Kd.T, Kds.T, AK.T, AKs.T]); all_goals ((repeat' apply And.intro) <;> first | rfl | assumption | exact trivial)
    rintro ⟨j, at0⟩ ⟨hj, hat⟩ ih2
    simp only at hj hat
    refine AM.run2 hG 100 (by cbv) ?_ ?_
    · (simp only [sxs, sxb, and_self, and_true, true_and, implies_true, imp_self, bne_eq_false_iff_eq, Nat.zero_add, Nat.le_refl, Int.toNat_natCast, Int.ofNat_lt, Int.natCast_nonneg, decide_eq_true_eq, decide_eq_false_iff_not, bne_iff_ne, ne_eq]; try dsimp only [Kd.T, Kds.T, AK.T, AKs.T])
    refine AM.case 75 rfl (fun h2 => ?_) (fun h2 => ?_) <;> (simp only [sxs, sxb, and_self, and_true, true_and, implies_true, imp_self, bne_eq_false_iff_eq, Nat.zero_add, Nat.le_refl, Int.toNat_natCast, Int.ofNat_lt, Int.natCast_nonneg, decide_eq_true_eq, decide_eq_false_iff_not, bne_iff_ne, ne_eq] at h2; try dsimp only [Kd.T, Kds.T, AK.T, AKs.T] at h2)
    · refine AM.run2 hG 100 (by cbv) ?_ ?_
      · (simp only [sxs, sxb, and_self, and_true, true_and, implies_true, imp_self, bne_eq_false_iff_eq, Nat.zero_add, Nat.le_refl, Int.toNat_natCast, Int.ofNat_lt, Int.natCast_nonneg, decide_eq_true_eq, decide_eq_false_iff_not, bne_iff_ne, ne_eq]; try dsimp only [Kd.T, Kds.T, AK.T, AKs.T])
        exact h2
      refine AM.case 84 rfl (fun h3 => ?_) (fun h3 => ?_)
      · replace h3 := (eqsC (cs.getD j zc) (b1, b2, b3, b4, ())).symm.trans h3
        rw [decide_eq_true_eq] at h3
        refine AM.run2 hG 100 (by cbv) ?_ ?_
        · (simp only [sxs, sxb, and_self, and_true, true_and, implies_true, imp_self, bne_eq_false_iff_eq, Nat.zero_add, Nat.le_refl, Int.toNat_natCast, Int.ofNat_lt, Int.natCast_nonneg, decide_eq_true_eq, decide_eq_false_iff_not, bne_iff_ne, ne_eq]; try dsimp only [Kd.T, Kds.T, AK.T, AKs.T])
        refine AM.imp2 (by cbv) (by cbv) ?_ ?_ (ih2 (j + 1, nI j) ⟨by simp only; omega, .inr ⟨j, by simp only; omega, rfl, h3⟩⟩ (by simp only; omega))
        · (simp only [sxs, sxb, and_self, and_true, true_and, implies_true, imp_self, bne_eq_false_iff_eq, Nat.zero_add, Nat.le_refl, Int.toNat_natCast, Int.ofNat_lt, Int.natCast_nonneg, decide_eq_true_eq, decide_eq_false_iff_not, bne_iff_ne, ne_eq]; try dsimp only [Kd.T, Kds.T, AK.T, AKs.T])
          rw [w64s (by omega)]
        · (simp only [sxs, sxb, and_self, and_true, true_and, implies_true, imp_self, bne_eq_false_iff_eq, Nat.zero_add, Nat.le_refl, Int.toNat_natCast, Int.ofNat_lt, Int.natCast_nonneg, decide_eq_true_eq, decide_eq_false_iff_not, bne_iff_ne, ne_eq]; try dsimp only [Kd.T, Kds.T, AK.T, AKs.T])
      · replace h3 := (eqsC (cs.getD j zc) (b1, b2, b3, b4, ())).symm.trans h3
        rw [decide_eq_false_iff_not] at h3
        refine AM.run2 hG 100 (by cbv) ?_ ?_
        · (simp only [sxs, sxb, and_self, and_true, true_and, implies_true, imp_self, bne_eq_false_iff_eq, Nat.zero_add, Nat.le_refl, Int.toNat_natCast, Int.ofNat_lt, Int.natCast_nonneg, decide_eq_true_eq, decide_eq_false_iff_not, bne_iff_ne, ne_eq]; try dsimp only [Kd.T, Kds.T, AK.T, AKs.T])
        refine AM.imp2 (by cbv) (by cbv) ?_ ?_ (ih2 (j + 1, at0) ⟨by simp only; omega, ?_⟩ (by simp only; omega))
        · (simp only [sxs, sxb, and_self, and_true, true_and, implies_true, imp_self, bne_eq_false_iff_eq, Nat.zero_add, Nat.le_refl, Int.toNat_natCast, Int.ofNat_lt, Int.natCast_nonneg, decide_eq_true_eq, decide_eq_false_iff_not, bne_iff_ne, ne_eq]; try dsimp only [Kd.T, Kds.T, AK.T, AKs.T])
          rw [w64s (by omega)]
        · (simp only [sxs, sxb, and_self, and_true, true_and, implies_true, imp_self, bne_eq_false_iff_eq, Nat.zero_add, Nat.le_refl, Int.toNat_natCast, Int.ofNat_lt, Int.natCast_nonneg, decide_eq_true_eq, decide_eq_false_iff_not, bne_iff_ne, ne_eq]; try dsimp only [Kd.T, Kds.T, AK.T, AKs.T])
        · rcases hat with ⟨q1, q2⟩ | ⟨k, q1, q2, q3⟩
          · refine .inl ⟨q1, fun k hk => ?_⟩
            simp only at hk
            rcases (show k < j ∨ k = j by omega) with q | rfl
            · exact q2 k q
            · exact h3
          · exact .inr ⟨k, by simp only; omega, q2, q3⟩
    clear ih2
    obtain ⟨k0, hk0, hk1⟩ := List.getElem_of_mem k3
    replace hk0 : k0 < cs.length := hk0
    replace hk1 : cs[k0] = (b1, b2, b3, b4, ()) := hk1
    rw [← getD_get hk0] at hk1
    rcases hat with ⟨q1, q2⟩ | ⟨ka, q1, q2, hka⟩
    · exact absurd hk1 (q2 k0 (by omega))
    subst q2
    replace q1 : ka < cs.length := by omega
    refine AM.imp2 (fr' := frame 178 [(5, .ptr 0 0), (6, .ro AskK fun _ => l), (7, .ro ChoiceK fun _ => ch), (9, .ro CallK fun _ => U), (11, .int .i64 (.t fun _ => nI i)), (12, .ptr 1 0), (13, .int .i64 (.t fun _ => nI ka)), (75, .bool (.l false))]) (h' := [.box 25 [.int .i64 (.t fun _ => 32), .ro CallK fun _ => cs], .box 38 (cAtF fun _ => (b1, b2, b3, b4, ()))]) (by cbv) (by cbv) ?_ ?_ ?_
    · (simp only [sxs, sxb, and_self, and_true, true_and, implies_true, imp_self, bne_eq_false_iff_eq, Nat.zero_add, Nat.le_refl, Int.toNat_natCast, Int.ofNat_lt, Int.natCast_nonneg, decide_eq_true_eq, decide_eq_false_iff_not, bne_iff_ne, ne_eq]; try dsimp only [Kd.T, Kds.T, AK.T, AKs.T])
    · (simp only [sxs, sxb, and_self, and_true, true_and, implies_true, imp_self, bne_eq_false_iff_eq, Nat.zero_add, Nat.le_refl, Int.toNat_natCast, Int.ofNat_lt, Int.natCast_nonneg, decide_eq_true_eq, decide_eq_false_iff_not, bne_iff_ne, ne_eq]; try dsimp only [Kd.T, Kds.T, AK.T, AKs.T])
    refine AM.run2 hG 100 (by cbv) ?_ ?_
    · (simp only [sxs, sxb, and_self, and_true, true_and, implies_true, imp_self, bne_eq_false_iff_eq, Nat.zero_add, Nat.le_refl, Int.toNat_natCast, Int.ofNat_lt, Int.natCast_nonneg, decide_eq_true_eq, decide_eq_false_iff_not, bne_iff_ne, ne_eq]; try dsimp only [Kd.T, Kds.T, AK.T, AKs.T])
      exact ⟨fun _ => h, fun _ => h, fun _ => h⟩
    refine AM.sure 105 false rfl (by (simp only [sxs, sxb, and_self, and_true, true_and, implies_true, imp_self, bne_eq_false_iff_eq, Nat.zero_add, Nat.le_refl, Int.toNat_natCast, Int.ofNat_lt, Int.natCast_nonneg, decide_eq_true_eq, decide_eq_false_iff_not, bne_iff_ne, ne_eq]; try dsimp only [Kd.T, Kds.T, AK.T, AKs.T]); rw [hc2]; exact ⟨fun q => q.elim (fun q => by omega) (fun q => Bool.noConfusion (q.symm.trans k1)), k2⟩) ?_
    refine AM.run2 hG 100 (by cbv) ?_ ?_
    · (simp only [sxs, sxb, and_self, and_true, true_and, implies_true, imp_self, bne_eq_false_iff_eq, Nat.zero_add, Nat.le_refl, Int.toNat_natCast, Int.ofNat_lt, Int.natCast_nonneg, decide_eq_true_eq, decide_eq_false_iff_not, bne_iff_ne, ne_eq]; try dsimp only [Kd.T, Kds.T, AK.T, AKs.T])
    refine AM.case 108 rfl (fun h4 => ?_) (fun h4 => ?_) <;> (simp only [sxs, sxb, and_self, and_true, true_and, implies_true, imp_self, bne_eq_false_iff_eq, Nat.zero_add, Nat.le_refl, Int.toNat_natCast, Int.ofNat_lt, Int.natCast_nonneg, decide_eq_true_eq, decide_eq_false_iff_not, bne_iff_ne, ne_eq] at h4; try dsimp only [Kd.T, Kds.T, AK.T, AKs.T] at h4)
    · refine AM.run2 hG 100 (by cbv) ?_ ?_
      · (simp only [sxs, sxb, and_self, and_true, true_and, implies_true, imp_self, bne_eq_false_iff_eq, Nat.zero_add, Nat.le_refl, Int.toNat_natCast, Int.ofNat_lt, Int.natCast_nonneg, decide_eq_true_eq, decide_eq_false_iff_not, bne_iff_ne, ne_eq]; try dsimp only [Kd.T, Kds.T, AK.T, AKs.T])
        exact h
      refine AM.sure 116 false rfl (by (simp only [sxs, sxb, and_self, and_true, true_and, implies_true, imp_self, bne_eq_false_iff_eq, Nat.zero_add, Nat.le_refl, Int.toNat_natCast, Int.ofNat_lt, Int.natCast_nonneg, decide_eq_true_eq, decide_eq_false_iff_not, bne_iff_ne, ne_eq]; try dsimp only [Kd.T, Kds.T, AK.T, AKs.T]); rw [hc2]; exact (k4 (decide_eq_false (fun q => q h4))).trans hca.symm) ?_
      refine AM.run2 hG 100 (by cbv) ?_ ?_
      · (simp only [sxs, sxb, and_self, and_true, true_and, implies_true, imp_self, bne_eq_false_iff_eq, Nat.zero_add, Nat.le_refl, Int.toNat_natCast, Int.ofNat_lt, Int.natCast_nonneg, decide_eq_true_eq, decide_eq_false_iff_not, bne_iff_ne, ne_eq]; try dsimp only [Kd.T, Kds.T, AK.T, AKs.T])
      refine AM.ren hB [0] (by cbv) (by cbv) (by cbv) ?_ ?_ (ih (i + 1) (by omega) (by omega))
      · (simp only [sxs, sxb, and_self, and_true, true_and, implies_true, imp_self, bne_eq_false_iff_eq, Nat.zero_add, Nat.le_refl, Int.toNat_natCast, Int.ofNat_lt, Int.natCast_nonneg, decide_eq_true_eq, decide_eq_false_iff_not, bne_iff_ne, ne_eq]; try dsimp only [Kd.T, Kds.T, AK.T, AKs.T])
        rw [w64s (by omega)]
      · (simp only [sxs, sxb, and_self, and_true, true_and, implies_true, imp_self, bne_eq_false_iff_eq, Nat.zero_add, Nat.le_refl, Int.toNat_natCast, Int.ofNat_lt, Int.natCast_nonneg, decide_eq_true_eq, decide_eq_false_iff_not, bne_iff_ne, ne_eq]; try dsimp only [Kd.T, Kds.T, AK.T, AKs.T])
    refine AM.run2 hG 100 (by cbv) ?_ ?_
    · (simp only [sxs, sxb, and_self, and_true, true_and, implies_true, imp_self, bne_eq_false_iff_eq, Nat.zero_add, Nat.le_refl, Int.toNat_natCast, Int.ofNat_lt, Int.natCast_nonneg, decide_eq_true_eq, decide_eq_false_iff_not, bne_iff_ne, ne_eq]; try dsimp only [Kd.T, Kds.T, AK.T, AKs.T])
      exact ⟨⟨by decide, by omega⟩, by omega, ⟨by decide, by omega⟩, by omega⟩
    refine AM.case 128 rfl (fun h5 => ?_) (fun h5 => ?_) <;> (simp only [sxs, sxb, and_self, and_true, true_and, implies_true, imp_self, bne_eq_false_iff_eq, Nat.zero_add, Nat.le_refl, Int.toNat_natCast, Int.ofNat_lt, Int.natCast_nonneg, decide_eq_true_eq, decide_eq_false_iff_not, bne_iff_ne, ne_eq] at h5; try dsimp only [Kd.T, Kds.T, AK.T, AKs.T] at h5)
    · refine AM.run2 hG 100 (by cbv) ?_ ?_
      · (simp only [sxs, sxb, and_self, and_true, true_and, implies_true, imp_self, bne_eq_false_iff_eq, Nat.zero_add, Nat.le_refl, Int.toNat_natCast, Int.ofNat_lt, Int.natCast_nonneg, decide_eq_true_eq, decide_eq_false_iff_not, bne_iff_ne, ne_eq]; try dsimp only [Kd.T, Kds.T, AK.T, AKs.T])
      refine AM.ren hB [0] (by cbv) (by cbv) (by cbv) ?_ ?_ (ih (i + 1) (by omega) (by omega))
      · (simp only [sxs, sxb, and_self, and_true, true_and, implies_true, imp_self, bne_eq_false_iff_eq, Nat.zero_add, Nat.le_refl, Int.toNat_natCast, Int.ofNat_lt, Int.natCast_nonneg, decide_eq_true_eq, decide_eq_false_iff_not, bne_iff_ne, ne_eq]; try dsimp only [Kd.T, Kds.T, AK.T, AKs.T])
        rw [w64s (by omega)]
      · (simp only [sxs, sxb, and_self, and_true, true_and, implies_true, imp_self, bne_eq_false_iff_eq, Nat.zero_add, Nat.le_refl, Int.toNat_natCast, Int.ofNat_lt, Int.natCast_nonneg, decide_eq_true_eq, decide_eq_false_iff_not, bne_iff_ne, ne_eq]; try dsimp only [Kd.T, Kds.T, AK.T, AKs.T])
    have hsm := hT.same i (by omega)
    have hbN : hallB (b1, b2, b3, b4, ()) = true := decide_eq_true h4
    have hub : urgB (l.getD i zA).2.2.2.1 (l.getD i zA).2.2.2.2.1 (b1, b2, b3, b4, ()) = false := by
      rw [urgB, hsm.2.1, hsm.2.2, hbN, Bool.true_and, leI_f]
      exact h5
    rcases k5 hbN with q | ⟨hno, hfr, hpos⟩
    · rw [hub] at q; cases q
    have hU0 : U = [] := by
      rw [← hUU]
      rw [hsm.2.1, hsm.2.2, hnow, hcy] at hno
      exact no_urgent hno
    have hbef := share_before hM (fun c hc => by
      have hc := List.mem_of_mem_take hc
      rw [← hch] at hc
      exact choices_by _ _ _ c hc) q1 hka hpos
    have hdif : ∀ k, k < i → byC (ch.getD k zCh) ≠ (b1, b2, b3, b4, ()) := fun k hk => by
      have hm : ch.getD k zCh ∈ ch.take i := by
        rw [List.getD_eq_getElem?_getD, List.getElem?_eq_getElem (show k < ch.length by omega)]
        exact List.mem_take_iff_getElem.2 ⟨k, by omega, rfl⟩
      exact share_dif hfr (by rw [hallN_B (tab_call hE k3)]; exact hbN) _ hm
    refine AM.run2 hG 100 (by cbv) ?_ ?_
    · (simp only [sxs, sxb, and_self, and_true, true_and, implies_true, imp_self, bne_eq_false_iff_eq, Nat.zero_add, Nat.le_refl, Int.toNat_natCast, Int.ofNat_lt, Int.natCast_nonneg, decide_eq_true_eq, decide_eq_false_iff_not, bne_iff_ne, ne_eq]; try dsimp only [Kd.T, Kds.T, AK.T, AKs.T])
    refine AM.sure 131 false rfl (by (simp only [sxs, sxb, and_self, and_true, true_and, implies_true, imp_self, bne_eq_false_iff_eq, Nat.zero_add, Nat.le_refl, Int.toNat_natCast, Int.ofNat_lt, Int.natCast_nonneg, decide_eq_true_eq, decide_eq_false_iff_not, bne_iff_ne, ne_eq]; try dsimp only [Kd.T, Kds.T, AK.T, AKs.T]); rw [hU0]; decide) ?_
    refine AM.run2 hG 100 (by cbv) ?_ ?_
    · (simp only [sxs, sxb, and_self, and_true, true_and, implies_true, imp_self, bne_eq_false_iff_eq, Nat.zero_add, Nat.le_refl, Int.toNat_natCast, Int.ofNat_lt, Int.natCast_nonneg, decide_eq_true_eq, decide_eq_false_iff_not, bne_iff_ne, ne_eq]; try dsimp only [Kd.T, Kds.T, AK.T, AKs.T])
    refine AM.loopI (fun j : Nat => (frame 178 [(5, .ptr 0 0), (6, .ro AskK fun _ => l), (7, .ro ChoiceK fun _ => ch), (9, .ro CallK fun _ => U), (11, .int .i64 (.t fun _ => nI i)), (12, .ptr 1 0), (13, .int .i64 (.t fun _ => nI ka)), (15, .int .i64 (.t fun _ => nI j))], [.box 25 [.int .i64 (.t fun _ => 32), .ro CallK fun _ => cs], .box 38 (cAtF fun _ => (b1, b2, b3, b4, ()))])) (fun j => j ≤ ka) (fun j => ka - j) 0 (Nat.zero_le _) ?_ ?_ ?_
    · cbv; (simp only [sxs, sxb, and_self, and_true, true_and, implies_true, imp_self, bne_eq_false_iff_eq, Nat.zero_add, Nat.le_refl, Int.toNat_natCast, Int.ofNat_lt, Int.natCast_nonneg, decide_eq_true_eq, decide_eq_false_iff_not, bne_iff_ne, ne_eq]; try dsimp only [Kd.T, Kds.T, AK.T, AKs.T]); all_goals ((repeat' apply And.intro) <;> first | rfl | assumption | exact trivial)
    · cbv; (simp only [sxs, sxb, and_self, and_true, true_and, implies_true, imp_self, bne_eq_false_iff_eq, Nat.zero_add, Nat.le_refl, Int.toNat_natCast, Int.ofNat_lt, Int.natCast_nonneg, decide_eq_true_eq, decide_eq_false_iff_not, bne_iff_ne, ne_eq]; try dsimp only [Kd.T, Kds.T, AK.T, AKs.T]); all_goals ((repeat' apply And.intro) <;> first | rfl | assumption | exact trivial)
    · rintro j hj ih2
      refine AM.run2 hG 100 (by cbv) ?_ ?_
      · (simp only [sxs, sxb, and_self, and_true, true_and, implies_true, imp_self, bne_eq_false_iff_eq, Nat.zero_add, Nat.le_refl, Int.toNat_natCast, Int.ofNat_lt, Int.natCast_nonneg, decide_eq_true_eq, decide_eq_false_iff_not, bne_iff_ne, ne_eq]; try dsimp only [Kd.T, Kds.T, AK.T, AKs.T])
      refine AM.case 134 rfl (fun h6 => ?_) (fun h6 => ?_) <;> (simp only [sxs, sxb, and_self, and_true, true_and, implies_true, imp_self, bne_eq_false_iff_eq, Nat.zero_add, Nat.le_refl, Int.toNat_natCast, Int.ofNat_lt, Int.natCast_nonneg, decide_eq_true_eq, decide_eq_false_iff_not, bne_iff_ne, ne_eq] at h6; try dsimp only [Kd.T, Kds.T, AK.T, AKs.T] at h6)
      · refine AM.run2 hG 100 (by cbv) ?_ ?_
        · (simp only [sxs, sxb, and_self, and_true, true_and, implies_true, imp_self, bne_eq_false_iff_eq, Nat.zero_add, Nat.le_refl, Int.toNat_natCast, Int.ofNat_lt, Int.natCast_nonneg, decide_eq_true_eq, decide_eq_false_iff_not, bne_iff_ne, ne_eq]; try dsimp only [Kd.T, Kds.T, AK.T, AKs.T])
          omega
        refine AM.loopI (fun z : Nat × Bool => (frame 178 [(5, .ptr 0 0), (6, .ro AskK fun _ => l), (7, .ro ChoiceK fun _ => ch), (9, .ro CallK fun _ => U), (11, .int .i64 (.t fun _ => nI i)), (12, .ptr 1 0), (13, .int .i64 (.t fun _ => nI ka)), (15, .int .i64 (.t fun _ => nI j)), (16, .bool (.t fun _ => z.2)), (17, .int .i64 (.t fun _ => nI z.1))], [.box 25 [.int .i64 (.t fun _ => 32), .ro CallK fun _ => cs], .box 38 (cAtF fun _ => (b1, b2, b3, b4, ()))]))
          (fun z => z.1 ≤ i ∧ z.2 = (eqI (cs.getD j zc).1 3 || (ch.take z.1).any fun c => decide (byC c = cs.getD j zc))) (fun z => i - z.1) (0, eqI (cs.getD j zc).1 3) ⟨Nat.zero_le _, by simp⟩ ?_ ?_ ?_
        · cbv; (simp only [sxs, sxb, and_self, and_true, true_and, implies_true, imp_self, bne_eq_false_iff_eq, Nat.zero_add, Nat.le_refl, Int.toNat_natCast, Int.ofNat_lt, Int.natCast_nonneg, decide_eq_true_eq, decide_eq_false_iff_not, bne_iff_ne, ne_eq]; try dsimp only [Kd.T, Kds.T, AK.T, AKs.T])
          rfl
        · cbv; (simp only [sxs, sxb, and_self, and_true, true_and, implies_true, imp_self, bne_eq_false_iff_eq, Nat.zero_add, Nat.le_refl, Int.toNat_natCast, Int.ofNat_lt, Int.natCast_nonneg, decide_eq_true_eq, decide_eq_false_iff_not, bne_iff_ne, ne_eq]; try dsimp only [Kd.T, Kds.T, AK.T, AKs.T]); all_goals ((repeat' apply And.intro) <;> first | rfl | assumption | exact trivial)
        rintro ⟨k, tk⟩ ⟨hk, htk⟩ ih3
        simp only at hk htk
        refine AM.run2 hG 100 (by cbv) ?_ ?_
        · (simp only [sxs, sxb, and_self, and_true, true_and, implies_true, imp_self, bne_eq_false_iff_eq, Nat.zero_add, Nat.le_refl, Int.toNat_natCast, Int.ofNat_lt, Int.natCast_nonneg, decide_eq_true_eq, decide_eq_false_iff_not, bne_iff_ne, ne_eq]; try dsimp only [Kd.T, Kds.T, AK.T, AKs.T])
        refine AM.case 146 rfl (fun h7 => ?_) (fun h7 => ?_) <;> (simp only [sxs, sxb, and_self, and_true, true_and, implies_true, imp_self, bne_eq_false_iff_eq, Nat.zero_add, Nat.le_refl, Int.toNat_natCast, Int.ofNat_lt, Int.natCast_nonneg, decide_eq_true_eq, decide_eq_false_iff_not, bne_iff_ne, ne_eq] at h7; try dsimp only [Kd.T, Kds.T, AK.T, AKs.T] at h7)
        · refine AM.run2 hG 100 (by cbv) ?_ ?_
          · (simp only [sxs, sxb, and_self, and_true, true_and, implies_true, imp_self, bne_eq_false_iff_eq, Nat.zero_add, Nat.le_refl, Int.toNat_natCast, Int.ofNat_lt, Int.natCast_nonneg, decide_eq_true_eq, decide_eq_false_iff_not, bne_iff_ne, ne_eq]; try dsimp only [Kd.T, Kds.T, AK.T, AKs.T])
            exact ⟨fun _ => by omega, fun _ => by omega, fun _ => by omega⟩
          have hkc : eqKs [I64, I64, I64, I64] ((ch.getD k (0, 0, Kd.bool.z, (0, 0, 0, 0, ()), ())).2.2.2.1.1, (ch.getD k (0, 0, Kd.bool.z, (0, 0, 0, 0, ()), ())).2.2.2.1.2.1, (ch.getD k (0, 0, Kd.bool.z, (0, 0, 0, 0, ()), ())).2.2.2.1.2.2.1, (ch.getD k (0, 0, Kd.bool.z, (0, 0, 0, 0, ()), ())).2.2.2.1.2.2.2.1, PUnit.unit)
              ((cs.getD j (0, 0, 0, 0, ())).1, (cs.getD j (0, 0, 0, 0, ())).2.1, (cs.getD j (0, 0, 0, 0, ())).2.2.1, (cs.getD j (0, 0, 0, 0, ())).2.2.2.1, PUnit.unit) = decide ((ch.getD k (0, 0, false, (0, 0, 0, 0, PUnit.unit), PUnit.unit)).2.2.2.1 = cs.getD j (0, 0, 0, 0, PUnit.unit)) := eqsC (byC (ch.getD k zCh)) (cs.getD j zc)
          refine AM.imp2 (by cbv) (by cbv) ?_ ?_ (ih3 (k + 1, tk || decide (byC (ch.getD k zCh) = cs.getD j zc)) ⟨by simp only; omega, ?_⟩ (by simp only; omega))
          · (simp only [sxs, sxb, and_self, and_true, true_and, implies_true, imp_self, bne_eq_false_iff_eq, Nat.zero_add, Nat.le_refl, Int.toNat_natCast, Int.ofNat_lt, Int.natCast_nonneg, decide_eq_true_eq, decide_eq_false_iff_not, bne_iff_ne, ne_eq]; try dsimp only [Kd.T, Kds.T, AK.T, AKs.T])
            rw [hkc]
            exact ⟨by simp, by rw [w64s (by omega)]⟩
          · (simp only [sxs, sxb, and_self, and_true, true_and, implies_true, imp_self, bne_eq_false_iff_eq, Nat.zero_add, Nat.le_refl, Int.toNat_natCast, Int.ofNat_lt, Int.natCast_nonneg, decide_eq_true_eq, decide_eq_false_iff_not, bne_iff_ne, ne_eq]; try dsimp only [Kd.T, Kds.T, AK.T, AKs.T])
          · simp only
            rw [any_step _ (show k < ch.length by omega), htk, Bool.or_assoc]
        clear ih3
        refine AM.run2 hG 100 (by cbv) ?_ ?_
        · (simp only [sxs, sxb, and_self, and_true, true_and, implies_true, imp_self, bne_eq_false_iff_eq, Nat.zero_add, Nat.le_refl, Int.toNat_natCast, Int.ofNat_lt, Int.natCast_nonneg, decide_eq_true_eq, decide_eq_false_iff_not, bne_iff_ne, ne_eq]; try dsimp only [Kd.T, Kds.T, AK.T, AKs.T])
        refine AM.sure 164 false rfl (by (simp only [sxs, sxb, and_self, and_true, true_and, implies_true, imp_self, bne_eq_false_iff_eq, Nat.zero_add, Nat.le_refl, Int.toNat_natCast, Int.ofNat_lt, Int.natCast_nonneg, decide_eq_true_eq, decide_eq_false_iff_not, bne_iff_ne, ne_eq]; try dsimp only [Kd.T, Kds.T, AK.T, AKs.T]); exact htk.trans (by rw [show k = i by omega]; exact hbef j h6)) ?_
        refine AM.run2 hG 100 (by cbv) ?_ ?_
        · (simp only [sxs, sxb, and_self, and_true, true_and, implies_true, imp_self, bne_eq_false_iff_eq, Nat.zero_add, Nat.le_refl, Int.toNat_natCast, Int.ofNat_lt, Int.natCast_nonneg, decide_eq_true_eq, decide_eq_false_iff_not, bne_iff_ne, ne_eq]; try dsimp only [Kd.T, Kds.T, AK.T, AKs.T])
        refine AM.imp2 (by cbv) (by cbv) ?_ ?_ (ih2 (j + 1) (by omega) (by omega))
        · (simp only [sxs, sxb, and_self, and_true, true_and, implies_true, imp_self, bne_eq_false_iff_eq, Nat.zero_add, Nat.le_refl, Int.toNat_natCast, Int.ofNat_lt, Int.natCast_nonneg, decide_eq_true_eq, decide_eq_false_iff_not, bne_iff_ne, ne_eq]; try dsimp only [Kd.T, Kds.T, AK.T, AKs.T])
          rw [w64s (by omega)]
        · (simp only [sxs, sxb, and_self, and_true, true_and, implies_true, imp_self, bne_eq_false_iff_eq, Nat.zero_add, Nat.le_refl, Int.toNat_natCast, Int.ofNat_lt, Int.natCast_nonneg, decide_eq_true_eq, decide_eq_false_iff_not, bne_iff_ne, ne_eq]; try dsimp only [Kd.T, Kds.T, AK.T, AKs.T])
      clear ih2
      refine AM.run2 hG 100 (by cbv) ?_ ?_
      · (simp only [sxs, sxb, and_self, and_true, true_and, implies_true, imp_self, bne_eq_false_iff_eq, Nat.zero_add, Nat.le_refl, Int.toNat_natCast, Int.ofNat_lt, Int.natCast_nonneg, decide_eq_true_eq, decide_eq_false_iff_not, bne_iff_ne, ne_eq]; try dsimp only [Kd.T, Kds.T, AK.T, AKs.T])
      refine AM.loopI (fun k : Nat => (frame 178 [(5, .ptr 0 0), (6, .ro AskK fun _ => l), (7, .ro ChoiceK fun _ => ch), (9, .ro CallK fun _ => U), (11, .int .i64 (.t fun _ => nI i)), (12, .ptr 1 0), (13, .int .i64 (.t fun _ => nI ka)), (18, .int .i64 (.t fun _ => nI k))], [.box 25 [.int .i64 (.t fun _ => 32), .ro CallK fun _ => cs], .box 38 (cAtF fun _ => (b1, b2, b3, b4, ()))])) (fun k => k ≤ i) (fun k => i - k) 0 (Nat.zero_le _) ?_ ?_ ?_
      · cbv; (simp only [sxs, sxb, and_self, and_true, true_and, implies_true, imp_self, bne_eq_false_iff_eq, Nat.zero_add, Nat.le_refl, Int.toNat_natCast, Int.ofNat_lt, Int.natCast_nonneg, decide_eq_true_eq, decide_eq_false_iff_not, bne_iff_ne, ne_eq]; try dsimp only [Kd.T, Kds.T, AK.T, AKs.T]); all_goals ((repeat' apply And.intro) <;> first | rfl | assumption | exact trivial)
      · cbv; (simp only [sxs, sxb, and_self, and_true, true_and, implies_true, imp_self, bne_eq_false_iff_eq, Nat.zero_add, Nat.le_refl, Int.toNat_natCast, Int.ofNat_lt, Int.natCast_nonneg, decide_eq_true_eq, decide_eq_false_iff_not, bne_iff_ne, ne_eq]; try dsimp only [Kd.T, Kds.T, AK.T, AKs.T]); all_goals ((repeat' apply And.intro) <;> first | rfl | assumption | exact trivial)
      rintro k hk ih2
      refine AM.run2 hG 100 (by cbv) ?_ ?_
      · (simp only [sxs, sxb, and_self, and_true, true_and, implies_true, imp_self, bne_eq_false_iff_eq, Nat.zero_add, Nat.le_refl, Int.toNat_natCast, Int.ofNat_lt, Int.natCast_nonneg, decide_eq_true_eq, decide_eq_false_iff_not, bne_iff_ne, ne_eq]; try dsimp only [Kd.T, Kds.T, AK.T, AKs.T])
      refine AM.case 167 rfl (fun h7 => ?_) (fun h7 => ?_) <;> (simp only [sxs, sxb, and_self, and_true, true_and, implies_true, imp_self, bne_eq_false_iff_eq, Nat.zero_add, Nat.le_refl, Int.toNat_natCast, Int.ofNat_lt, Int.natCast_nonneg, decide_eq_true_eq, decide_eq_false_iff_not, bne_iff_ne, ne_eq] at h7; try dsimp only [Kd.T, Kds.T, AK.T, AKs.T] at h7)
      · refine AM.run2 hG 100 (by cbv) ?_ ?_
        · (simp only [sxs, sxb, and_self, and_true, true_and, implies_true, imp_self, bne_eq_false_iff_eq, Nat.zero_add, Nat.le_refl, Int.toNat_natCast, Int.ofNat_lt, Int.natCast_nonneg, decide_eq_true_eq, decide_eq_false_iff_not, bne_iff_ne, ne_eq]; try dsimp only [Kd.T, Kds.T, AK.T, AKs.T])
          omega
        refine AM.sure 176 false rfl (by (simp only [sxs, sxb, and_self, and_true, true_and, implies_true, imp_self, bne_eq_false_iff_eq, Nat.zero_add, Nat.le_refl, Int.toNat_natCast, Int.ofNat_lt, Int.natCast_nonneg, decide_eq_true_eq, decide_eq_false_iff_not, bne_iff_ne, ne_eq]; try dsimp only [Kd.T, Kds.T, AK.T, AKs.T]); exact (eqsC (byC (ch.getD k zCh)) (b1, b2, b3, b4, ())).trans (decide_eq_false (hdif k h7))) ?_
        refine AM.run2 hG 100 (by cbv) ?_ ?_
        · (simp only [sxs, sxb, and_self, and_true, true_and, implies_true, imp_self, bne_eq_false_iff_eq, Nat.zero_add, Nat.le_refl, Int.toNat_natCast, Int.ofNat_lt, Int.natCast_nonneg, decide_eq_true_eq, decide_eq_false_iff_not, bne_iff_ne, ne_eq]; try dsimp only [Kd.T, Kds.T, AK.T, AKs.T])
        refine AM.imp2 (by cbv) (by cbv) ?_ ?_ (ih2 (k + 1) (by omega) (by omega))
        · (simp only [sxs, sxb, and_self, and_true, true_and, implies_true, imp_self, bne_eq_false_iff_eq, Nat.zero_add, Nat.le_refl, Int.toNat_natCast, Int.ofNat_lt, Int.natCast_nonneg, decide_eq_true_eq, decide_eq_false_iff_not, bne_iff_ne, ne_eq]; try dsimp only [Kd.T, Kds.T, AK.T, AKs.T])
          rw [w64s (by omega)]
        · (simp only [sxs, sxb, and_self, and_true, true_and, implies_true, imp_self, bne_eq_false_iff_eq, Nat.zero_add, Nat.le_refl, Int.toNat_natCast, Int.ofNat_lt, Int.natCast_nonneg, decide_eq_true_eq, decide_eq_false_iff_not, bne_iff_ne, ne_eq]; try dsimp only [Kd.T, Kds.T, AK.T, AKs.T])
      clear ih2
      refine AM.run2 hG 100 (by cbv) ?_ ?_
      · (simp only [sxs, sxb, and_self, and_true, true_and, implies_true, imp_self, bne_eq_false_iff_eq, Nat.zero_add, Nat.le_refl, Int.toNat_natCast, Int.ofNat_lt, Int.natCast_nonneg, decide_eq_true_eq, decide_eq_false_iff_not, bne_iff_ne, ne_eq]; try dsimp only [Kd.T, Kds.T, AK.T, AKs.T])
      refine AM.ren hB [0] (by cbv) (by cbv) (by cbv) ?_ ?_ (ih (i + 1) (by omega) (by omega))
      · (simp only [sxs, sxb, and_self, and_true, true_and, implies_true, imp_self, bne_eq_false_iff_eq, Nat.zero_add, Nat.le_refl, Int.toNat_natCast, Int.ofNat_lt, Int.natCast_nonneg, decide_eq_true_eq, decide_eq_false_iff_not, bne_iff_ne, ne_eq]; try dsimp only [Kd.T, Kds.T, AK.T, AKs.T])
        rw [w64s (by omega)]
      · (simp only [sxs, sxb, and_self, and_true, true_and, implies_true, imp_self, bne_eq_false_iff_eq, Nat.zero_add, Nat.le_refl, Int.toNat_natCast, Int.ofNat_lt, Int.natCast_nonneg, decide_eq_true_eq, decide_eq_false_iff_not, bne_iff_ne, ne_eq]; try dsimp only [Kd.T, Kds.T, AK.T, AKs.T])
  clear ih
  refine AM.run2 hG 100 (by cbv) ?_ ?_
  · (simp only [sxs, sxb, and_self, and_true, true_and, implies_true, imp_self, bne_eq_false_iff_eq, Nat.zero_add, Nat.le_refl, Int.toNat_natCast, Int.ofNat_lt, Int.natCast_nonneg, decide_eq_true_eq, decide_eq_false_iff_not, bne_iff_ne, ne_eq]; try dsimp only [Kd.T, Kds.T, AK.T, AKs.T])
  refine AM.ret2 hG (by cbv) (by (simp only [sxs, sxb, and_self, and_true, true_and, implies_true, imp_self, bne_eq_false_iff_eq, Nat.zero_add, Nat.le_refl, Int.toNat_natCast, Int.ofNat_lt, Int.natCast_nonneg, decide_eq_true_eq, decide_eq_false_iff_not, bne_iff_ne, ne_eq]; try dsimp only [Kd.T, Kds.T, AK.T, AKs.T])) (hQ _ _ (FinRo.of (by cbv) (by cbv) ?_ ?_))
  · (simp only [sxs, sxb, and_self, and_true, true_and, implies_true, imp_self, bne_eq_false_iff_eq, Nat.zero_add, Nat.le_refl, Int.toNat_natCast, Int.ofNat_lt, Int.natCast_nonneg, decide_eq_true_eq, decide_eq_false_iff_not, bne_iff_ne, ne_eq]; try dsimp only [Kd.T, Kds.T, AK.T, AKs.T])
  exact ⟨rfl⟩
end Go.Sx.Ytaijdhocmjnopaa
