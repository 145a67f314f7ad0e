/- Chapter 21: without. -/
import Derived.Test.YtaijdhocmjnopaaT12
namespace Go.Sx.Ytaijdhocmjnopaa
open Go Go.Sx Go.Proofs
set_option linter.unusedVariables false
set_option linter.unusedSimpArgs false
set_option maxRecDepth 100000

def S61Serve : List AV → Option FOut := akSpec [.v TableK, .c 62 [.r I64, .r I64]] [TableK, CallsK] (fun x : Table × (Int × Int × Unit) × Unit => (match x with | (t, (fl, car, _), _) => ((t.1, t.2.1.filter (fun y : Call => !serveP fl car y), ()), t.2.1.filter (serveP fl car), ()))) (fun x : Table × (Int × Int × Unit) × Unit => x.1.2.1.length ≤ 1000000)
set_option maxHeartbeats 4000000 in
theorem fn61Serve : FnOk Try.prog 61 S61Serve := by
  refine fn_ofC (rs := [.cell 4 25, .tmp 5]) (env [(71, S71Serve), (81, S81o), (62, S62), (92, S92Serve)] ⟨fn71Serve, fn81o, fn62, fn92Serve, trivial⟩) Try.func61 (by kernel_rfl) rfl rfl Try.ntmps61 ?_
  rintro ⟨⟨(cap : Int), (l : List Call), u⟩, ⟨(fl : Int), (car : Int), w0⟩, w1⟩ hl G hG hB hQ
  simp only at hl
  have hB := GB.of hB
  refine AM.run2 hG 100 (by cbv) ?_ ?_
  · (simp only [sxs, sxb, and_self, and_true, true_and, implies_true, imp_self, bne_eq_false_iff_eq, Nat.zero_add, Nat.le_refl, Int.toNat_natCast, Int.ofNat_lt, Int.natCast_nonneg, decide_eq_true_eq, decide_eq_false_iff_not, bne_iff_ne, ne_eq]; try dsimp only [Kd.T, Kds.T, AK.T, AKs.T])
    all_goals ((repeat' apply And.intro) <;> first | exact hl | omega | trivial)
  refine AM.inlineB hG (by cbv) rfl (by cbv) Try.func82 (by kernel_rfl) rfl rfl Try.ntmps82 fun G1 hG1 hB1 hQ1 => ?_

  replace hB1 : GB G1 3 := ⟨hB1⟩
  obtain ⟨p, hp⟩ : ∃ p : Call → Bool, p = serveP fl car := ⟨_, rfl⟩
  refine AM.run2 hG1 100 (by cbv) ?_ ?_
  · (simp only [sxs, sxb, and_self, and_true, true_and, implies_true, imp_self, bne_eq_false_iff_eq, Nat.zero_add, Nat.le_refl, Int.toNat_natCast, Int.ofNat_lt, Int.natCast_nonneg, decide_eq_true_eq, decide_eq_false_iff_not, bne_iff_ne, ne_eq]; try dsimp only [Kd.T, Kds.T, AK.T, AKs.T])
    simp only [List.take_length, List.drop_zero]
    omega
  have hge := idxOf_ge p l
  refine AM.case 12 rfl (fun e1 => ?_) (fun e1 => ?_) <;> (simp only [sxs, sxb, and_self, and_true, true_and, implies_true, imp_self, bne_eq_false_iff_eq, Nat.zero_add, Nat.le_refl, Int.toNat_natCast, Int.ofNat_lt, Int.natCast_nonneg, decide_eq_true_eq, decide_eq_false_iff_not, bne_iff_ne, ne_eq] at e1; try dsimp only [Kd.T, Kds.T, AK.T, AKs.T] at e1)
  · replace e1 : idxOf (serveP fl car) ((l.drop 0).take l.length) = -1 := e1
    rw [List.drop_zero, List.take_length, ← hp] at e1
    have hend := idxOf_neg e1
    refine AM.run2 hG1 100 (by cbv) ?_ ?_
    · (simp only [sxs, sxb, and_self, and_true, true_and, implies_true, imp_self, bne_eq_false_iff_eq, Nat.zero_add, Nat.le_refl, Int.toNat_natCast, Int.ofNat_lt, Int.natCast_nonneg, decide_eq_true_eq, decide_eq_false_iff_not, bne_iff_ne, ne_eq]; try dsimp only [Kd.T, Kds.T, AK.T, AKs.T])
    refine AM.ret2 hG1 (by cbv) (by (simp only [sxs, sxb, and_self, and_true, true_and, implies_true, imp_self, bne_eq_false_iff_eq, Nat.zero_add, Nat.le_refl, Int.toNat_natCast, Int.ofNat_lt, Int.natCast_nonneg, decide_eq_true_eq, decide_eq_false_iff_not, bne_iff_ne, ne_eq]; try dsimp only [Kd.T, Kds.T, AK.T, AKs.T])) (hQ1 _ _ ?_)
    refine AM.run2 hG 100 (by cbv) ?_ ?_
    · (simp only [sxs, sxb, and_self, and_true, true_and, implies_true, imp_self, bne_eq_false_iff_eq, Nat.zero_add, Nat.le_refl, Int.toNat_natCast, Int.ofNat_lt, Int.natCast_nonneg, decide_eq_true_eq, decide_eq_false_iff_not, bne_iff_ne, ne_eq]; try dsimp only [Kd.T, Kds.T, AK.T, AKs.T])
    refine AM.ret2 hG (by cbv) (by (simp only [sxs, sxb, and_self, and_true, true_and, implies_true, imp_self, bne_eq_false_iff_eq, Nat.zero_add, Nat.le_refl, Int.toNat_natCast, Int.ofNat_lt, Int.natCast_nonneg, decide_eq_true_eq, decide_eq_false_iff_not, bne_iff_ne, ne_eq]; try dsimp only [Kd.T, Kds.T, AK.T, AKs.T])) (hQ _ _ (FinRo.of (by cbv) (by cbv) ?_ ?_))
    · (simp only [sxs, sxb, and_self, and_true, true_and, implies_true, imp_self, bne_eq_false_iff_eq, Nat.zero_add, Nat.le_refl, Int.toNat_natCast, Int.ofNat_lt, Int.natCast_nonneg, decide_eq_true_eq, decide_eq_false_iff_not, bne_iff_ne, ne_eq]; try dsimp only [Kd.T, Kds.T, AK.T, AKs.T])
    try (simp only [sxs, sxb, and_self, and_true, true_and, implies_true, imp_self, bne_eq_false_iff_eq, Nat.zero_add, Nat.le_refl, Int.toNat_natCast, Int.ofNat_lt, Int.natCast_nonneg, decide_eq_true_eq, decide_eq_false_iff_not, bne_iff_ne, ne_eq]; try dsimp only [Kd.T, Kds.T, AK.T, AKs.T])
    rw [List.take_length]
    rw [hp] at hend
    exact hend.symm
  replace e1 : ¬ idxOf (serveP fl car) ((l.drop 0).take l.length) = -1 := e1
  rw [List.drop_zero, List.take_length, ← hp] at e1
  obtain ⟨i0, hi0⟩ : ∃ n : Nat, idxOf p l = n := ⟨(idxOf p l).toNat, by omega⟩
  have hD0 := DelI.start 0 hi0
  simp only [List.replicate, List.append_nil] at hD0
  refine AM.run2 hG1 100 (by cbv) (by (simp only [sxs, sxb, and_self, and_true, true_and, implies_true, imp_self, bne_eq_false_iff_eq, Nat.zero_add, Nat.le_refl, Int.toNat_natCast, Int.ofNat_lt, Int.natCast_nonneg, decide_eq_true_eq, decide_eq_false_iff_not, bne_iff_ne, ne_eq]; try dsimp only [Kd.T, Kds.T, AK.T, AKs.T])) ?_
  refine AM.loopI (fun y : List Call × Nat × Nat => (frame 42 [(0, .sl 2 4 (.l 0) (.t fun _ => l.length)), (1, .fn (.func 62) [] [.fb [.int .i64 (.t fun _ => fl)] 0, .fb [.int .i64 (.t fun _ => car)] 0]), (5, .int .i64 (.t fun _ => nI y.2.1)), (6, .int .i64 (.t fun _ => nI y.2.2))], [.box 25 [.int .i64 (.t fun _ => cap), .sl 2 4 (.l 0) (.t fun _ => l.length)], .box 25 [.int .i64 (.l 0), .nils], .row 38 CallK (fun _ => y.1)]))
    (fun y => DelI p l 0 y.1 y.2.1 y.2.2) (fun y => l.length - y.2.2) (l, i0, i0 + 1) hD0 ?_ ?_ ?_
  · cbv; (simp only [sxs, sxb, and_self, and_true, true_and, implies_true, imp_self, bne_eq_false_iff_eq, Nat.zero_add, Nat.le_refl, Int.toNat_natCast, Int.ofNat_lt, Int.natCast_nonneg, decide_eq_true_eq, decide_eq_false_iff_not, bne_iff_ne, ne_eq]; try dsimp only [Kd.T, Kds.T, AK.T, AKs.T])
    have e2 : idxOf (serveP fl car) l = i0 := by rw [← hp]; exact hi0
    refine ⟨by simpa using e2, ?_⟩
    refine Eq.trans (congrArg (fun z => IntKind.i64.wrap (z + 1)) (by simpa using e2)) (w64s (by have := idxOf_spec hi0; omega))
  · cbv; (simp only [sxs, sxb, and_self, and_true, true_and, implies_true, imp_self, bne_eq_false_iff_eq, Nat.zero_add, Nat.le_refl, Int.toNat_natCast, Int.ofNat_lt, Int.natCast_nonneg, decide_eq_true_eq, decide_eq_false_iff_not, bne_iff_ne, ne_eq]; try dsimp only [Kd.T, Kds.T, AK.T, AKs.T])
    try all_goals ((repeat' apply And.intro) <;> first | rfl | assumption | exact trivial)
  rintro ⟨R1, i, j⟩ hD ih1
  simp only at hD ih1
  have hRl1 := hD.len
  have hij := hD.ij
  have hjl := hD.jl
  refine AM.run2 hG1 100 (by cbv) (by (simp only [sxs, sxb, and_self, and_true, true_and, implies_true, imp_self, bne_eq_false_iff_eq, Nat.zero_add, Nat.le_refl, Int.toNat_natCast, Int.ofNat_lt, Int.natCast_nonneg, decide_eq_true_eq, decide_eq_false_iff_not, bne_iff_ne, ne_eq]; try dsimp only [Kd.T, Kds.T, AK.T, AKs.T])) ?_
  refine AM.case 19 rfl (fun e2 => ?_) (fun e2 => ?_) <;> (simp only [sxs, sxb, and_self, and_true, true_and, implies_true, imp_self, bne_eq_false_iff_eq, Nat.zero_add, Nat.le_refl, Int.toNat_natCast, Int.ofNat_lt, Int.natCast_nonneg, decide_eq_true_eq, decide_eq_false_iff_not, bne_iff_ne, ne_eq] at e2; try dsimp only [Kd.T, Kds.T, AK.T, AKs.T] at e2)
  · have hat := hD.at e2
    refine AM.run2 hG1 100 (by cbv) ?_ ?_
    · (simp only [sxs, sxb, and_self, and_true, true_and, implies_true, imp_self, bne_eq_false_iff_eq, Nat.zero_add, Nat.le_refl, Int.toNat_natCast, Int.ofNat_lt, Int.natCast_nonneg, decide_eq_true_eq, decide_eq_false_iff_not, bne_iff_ne, ne_eq]; try dsimp only [Kd.T, Kds.T, AK.T, AKs.T])
      omega
    refine AM.case 29 rfl (fun e3 => ?_) (fun e3 => ?_) <;> (simp only [sxs, sxb, and_self, and_true, true_and, implies_true, imp_self, bne_eq_false_iff_eq, Nat.zero_add, Nat.le_refl, Int.toNat_natCast, Int.ofNat_lt, Int.natCast_nonneg, decide_eq_true_eq, decide_eq_false_iff_not, bne_iff_ne, ne_eq] at e3; try dsimp only [Kd.T, Kds.T, AK.T, AKs.T] at e3)
    · replace e3 : (serveP fl car) (R1.getD j zc) = false := by first | exact e3 | (cases hx : (serveP fl car) (R1.getD j zc); rfl; exact absurd e3 (by simp_all))
      rw [hat, ← hp] at e3
      have hD1 := hD.keep e2 e3
      rw [← hat] at hD1
      refine AM.run2 hG1 100 (by cbv) ?_ ?_
      · (simp only [sxs, sxb, and_self, and_true, true_and, implies_true, imp_self, bne_eq_false_iff_eq, Nat.zero_add, Nat.le_refl, Int.toNat_natCast, Int.ofNat_lt, Int.natCast_nonneg, decide_eq_true_eq, decide_eq_false_iff_not, bne_iff_ne, ne_eq]; try dsimp only [Kd.T, Kds.T, AK.T, AKs.T])
        omega
      obtain ⟨R2, hR2⟩ : ∃ R2, R1.set i (R1.getD j zc) = R2 := ⟨_, rfl⟩
      rw [hR2] at hD1
      refine AM.ren hB1 [0, 1, 2] (by cbv) (by cbv) (by cbv) ?_ ?_ (ih1 (R2, i + 1, j + 1) hD1 (by simp only; omega))
      · (simp only [sxs, sxb, and_self, and_true, true_and, implies_true, imp_self, bne_eq_false_iff_eq, Nat.zero_add, Nat.le_refl, Int.toNat_natCast, Int.ofNat_lt, Int.natCast_nonneg, decide_eq_true_eq, decide_eq_false_iff_not, bne_iff_ne, ne_eq]; try dsimp only [Kd.T, Kds.T, AK.T, AKs.T])
        exact ⟨w64s (by omega), w64s (by omega)⟩
      · (simp only [sxs, sxb, and_self, and_true, true_and, implies_true, imp_self, bne_eq_false_iff_eq, Nat.zero_add, Nat.le_refl, Int.toNat_natCast, Int.ofNat_lt, Int.natCast_nonneg, decide_eq_true_eq, decide_eq_false_iff_not, bne_iff_ne, ne_eq]; try dsimp only [Kd.T, Kds.T, AK.T, AKs.T])
        rw [← hR2]
    · replace e3 : (serveP fl car) (R1.getD j zc) = true := by first | exact e3 | (cases hx : (serveP fl car) (R1.getD j zc); exact absurd e3 (by simp_all); rfl)
      rw [hat, ← hp] at e3
      have hD1 := hD.del e2 e3
      refine AM.run2 hG1 100 (by cbv) ?_ ?_
      · (simp only [sxs, sxb, and_self, and_true, true_and, implies_true, imp_self, bne_eq_false_iff_eq, Nat.zero_add, Nat.le_refl, Int.toNat_natCast, Int.ofNat_lt, Int.natCast_nonneg, decide_eq_true_eq, decide_eq_false_iff_not, bne_iff_ne, ne_eq]; try dsimp only [Kd.T, Kds.T, AK.T, AKs.T])
      refine AM.ren hB1 [0, 1, 2] (by cbv) (by cbv) (by cbv) ?_ ?_ (ih1 (R1, i, j + 1) hD1 (by simp only; omega))
      · (simp only [sxs, sxb, and_self, and_true, true_and, implies_true, imp_self, bne_eq_false_iff_eq, Nat.zero_add, Nat.le_refl, Int.toNat_natCast, Int.ofNat_lt, Int.natCast_nonneg, decide_eq_true_eq, decide_eq_false_iff_not, bne_iff_ne, ne_eq]; try dsimp only [Kd.T, Kds.T, AK.T, AKs.T])
        exact w64s (by omega)
      · (simp only [sxs, sxb, and_self, and_true, true_and, implies_true, imp_self, bne_eq_false_iff_eq, Nat.zero_add, Nat.le_refl, Int.toNat_natCast, Int.ofNat_lt, Int.natCast_nonneg, decide_eq_true_eq, decide_eq_false_iff_not, bne_iff_ne, ne_eq]; try dsimp only [Kd.T, Kds.T, AK.T, AKs.T])
  · obtain rfl : j = l.length := by omega
    obtain ⟨hi1, hfin⟩ := hD.fin
    clear ih1
    refine AM.run2 hG1 100 (by cbv) ?_ ?_
    · (simp only [sxs, sxb, and_self, and_true, true_and, implies_true, imp_self, bne_eq_false_iff_eq, Nat.zero_add, Nat.le_refl, Int.toNat_natCast, Int.ofNat_lt, Int.natCast_nonneg, decide_eq_true_eq, decide_eq_false_iff_not, bne_iff_ne, ne_eq]; try dsimp only [Kd.T, Kds.T, AK.T, AKs.T])
      omega
    obtain ⟨l2, hend⟩ : ∃ l2, l.filter (fun x => !p x) = l2 := ⟨_, rfl⟩
    rw [hend] at hi1 hfin
    obtain ⟨R2, hR2⟩ : ∃ R2, R1.take i ++ List.replicate (l.length - i) zc ++ R1.drop (i + (l.length - i)) = R2 := ⟨_, rfl⟩
    rw [hR2] at hfin
    have hv2 : R2.take i = l2 := by rw [hfin, hi1, List.take_left']; rfl
    have hil : l2.length ≤ l.length := by rw [← hend]; exact List.length_filter_le _ _
    refine AM.ret2 hG1 (by cbv) (by (simp only [sxs, sxb, and_self, and_true, true_and, implies_true, imp_self, bne_eq_false_iff_eq, Nat.zero_add, Nat.le_refl, Int.toNat_natCast, Int.ofNat_lt, Int.natCast_nonneg, decide_eq_true_eq, decide_eq_false_iff_not, bne_iff_ne, ne_eq]; try dsimp only [Kd.T, Kds.T, AK.T, AKs.T])) (hQ1 _ _ ?_)
    refine AM.run2 hG 100 (by cbv) ?_ ?_
    · (simp only [sxs, sxb, and_self, and_true, true_and, implies_true, imp_self, bne_eq_false_iff_eq, Nat.zero_add, Nat.le_refl, Int.toNat_natCast, Int.ofNat_lt, Int.natCast_nonneg, decide_eq_true_eq, decide_eq_false_iff_not, bne_iff_ne, ne_eq]; try dsimp only [Kd.T, Kds.T, AK.T, AKs.T])
    refine AM.ret2 hG (by cbv) (by (simp only [sxs, sxb, and_self, and_true, true_and, implies_true, imp_self, bne_eq_false_iff_eq, Nat.zero_add, Nat.le_refl, Int.toNat_natCast, Int.ofNat_lt, Int.natCast_nonneg, decide_eq_true_eq, decide_eq_false_iff_not, bne_iff_ne, ne_eq]; try dsimp only [Kd.T, Kds.T, AK.T, AKs.T])) (hQ _ _ (FinRo.of (by cbv) (by cbv) ?_ ?_))
    · (simp only [sxs, sxb, and_self, and_true, true_and, implies_true, imp_self, bne_eq_false_iff_eq, Nat.zero_add, Nat.le_refl, Int.toNat_natCast, Int.ofNat_lt, Int.natCast_nonneg, decide_eq_true_eq, decide_eq_false_iff_not, bne_iff_ne, ne_eq]; try dsimp only [Kd.T, Kds.T, AK.T, AKs.T])
      simp only [List.length_append, List.length_take, List.length_replicate, List.length_drop]
      omega
    try (simp only [sxs, sxb, and_self, and_true, true_and, implies_true, imp_self, bne_eq_false_iff_eq, Nat.zero_add, Nat.le_refl, Int.toNat_natCast, Int.ofNat_lt, Int.natCast_nonneg, decide_eq_true_eq, decide_eq_false_iff_not, bne_iff_ne, ne_eq]; try dsimp only [Kd.T, Kds.T, AK.T, AKs.T])
    rw [hR2, hv2, ← hend, hp]
end Go.Sx.Ytaijdhocmjnopaa
