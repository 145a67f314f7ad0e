/- The law AssignServes. -/
import Derived.Test.YtaijdhocmjnopaaVD
namespace Go.Sx.Ytaijdhocmjnopaa
open Go Go.Sx Go.Proofs
set_option linter.unusedVariables false
set_option linter.unusedSimpArgs false
set_option maxRecDepth 100000

theorem eqsC (a b : Call) : eqKs [I64, I64, I64, I64] a b = decide (a = b) := by
  obtain ⟨a1, a2, a3, a4, ⟨⟩⟩ := a
  obtain ⟨b1, b2, b3, b4, ⟨⟩⟩ := b
  rw [Bool.eq_iff_iff]
  simp [eqK, eqKs, eqI, Prod.ext_iff]
theorem planGo_dec : ∀ (m : Nat) (t : Table) (l : List Ask) (i : Nat), i + 1 < m → (planGo m t l).getD (i + 1) 0 ≤ (planGo m t l).getD i 0
  | 0, _, _, i, h => by omega
  | 1, _, _, i, h => by omega
  | m + 2, t, l, 0, _ => by
    have := servedR_len (choicesR (servedR t (choicesR t l [])) (bumpL l (choicesR t l [])) []) (servedR t (choicesR t l []))
    simp only [planGo, List.getD_cons_succ, List.getD_cons_zero]
    show ((_ : Nat) : Int) ≤ ((_ : Nat) : Int)
    omega
  | m + 2, t, l, i + 1, h => by
    rw [planGo, List.getD_cons_succ, List.getD_cons_succ]
    exact planGo_dec (m + 1) _ _ i (by omega)
theorem len_step (p : Call → Bool) {l : List Call} {i : Nat} (h : i < l.length) : ((l.take (i + 1)).filter p).length = ((l.take i).filter p).length + (if p (l.getD i zc) = true then 1 else 0) := by
  rw [filt_step p h, List.length_append]
  split <;> rfl
theorem match_yes {p : Call → Bool} {l : List Call} {i : Nat} (h : i < l.length) (hp : p (l.getD i zc) = true) : ((l.take i).filter p).length < (l.filter p).length ∧ (l.filter p).getD ((l.take i).filter p).length zc = l.getD i zc := by
  have e : l = l.take i ++ l.getD i zc :: l.drop (i + 1) := by
    rw [← dropD h zc, List.take_append_drop]
  have e2 : l.filter p = (l.take i).filter p ++ l.getD i zc :: (l.drop (i + 1)).filter p := by
    conv => lhs; rw [e]
    rw [List.filter_append, List.filter_cons_of_pos hp]
  rw [e2]
  refine ⟨by rw [List.length_append, List.length_cons]; omega, ?_⟩
  rw [List.getD_eq_getElem?_getD, List.getElem?_append_right (Nat.le_refl _), Nat.sub_self]
  rfl
theorem in_filter {p : Call → Bool} {l : List Call} {j : Nat} (h : j < (l.filter p).length) : (l.filter p).getD j zc ∈ l ∧ p ((l.filter p).getD j zc) = true := by
  have : (l.filter p).getD j zc ∈ l.filter p := getD_mem h
  exact List.mem_filter.1 this
def ableB (a : Ask) : Bool := if eqI a.2.1 0 = true then leI a.2.2.2.2.2.1 a.2.2.2.2.2.2.1 else false
theorem ableB_t {a : Ask} (h : ableB a = true) : ableA a := by
  rw [ableB] at h
  split at h
  · rename_i q
    rw [eqI_t] at q
    rw [leI_t] at h
    exact ⟨q, h⟩
  · cases h
theorem able_step {l : List Ask} {i : Nat} (h : i < l.length) : (l.take (i + 1)).any ableB = ((l.take i).any ableB || ableB (l.getD i zA)) := by
  rw [List.take_add_one, List.getElem?_eq_getElem h, List.any_append, List.getD_eq_getElem?_getD, List.getElem?_eq_getElem h]
  simp
theorem less_filter {p q : Call → Bool} {l : List Call} {x : Call} (hx : x ∈ l) (hq : q x = true) (hp : p x = false) : (l.filter fun y => p y && q y).length < (l.filter q).length := by
  rw [show (l.filter fun y => p y && q y) = (l.filter q).filter p by rw [List.filter_filter]]
  rw [List.length_filter_lt_length_iff_exists]
  exact ⟨x, List.mem_filter.2 ⟨hx, hq⟩, by rw [hp]; decide⟩
set_option maxHeartbeats 32000000 in
theorem law3 : FnOk Try.prog 3 (sigSpec [IntsK, I64] [.bool] (fun _ => (true, ())) (Kds.wf [IntsK, I64])) := by
  refine fn_ofB (rs := [.tmp 4]) (env [(10, S10), (11, S11), (12, S12), (13, S13), (15, S15), (14, S14)]
    ⟨fn10, fn11, fn12, fn13, fn15, fn14, trivial⟩) Try.func3 (by kernel_rfl) rfl rfl Try.ntmps3 ?_
  rintro ⟨(nums : List Int), (n : Int), u2⟩ _ G hG hB hQ
  have hB := GB.of hB
  have hM := (madeM_ok nums).1
  have hE := tabM_ok nums
  obtain ⟨hT, hl1, hl4⟩ := turnM_ok nums n
  have htm : tabM nums = (32, (madeM nums).2, ()) := rfl
  obtain ⟨cs, hcs⟩ : ∃ x, (madeM nums).2 = x := ⟨_, rfl⟩
  obtain ⟨T, hTT⟩ : ∃ x, (madeM nums).1 = x := ⟨_, rfl⟩
  obtain ⟨l, hl⟩ : ∃ x, turnM nums n = x := ⟨_, rfl⟩
  rw [hcs] at htm hM
  rw [htm] at hE
  rw [hTT] at hM
  rw [hl] at hT hl1 hl4
  have hcsl : cs.length ≤ 20 := hM.len
  have hA := allR_ok hE hT
  have hfit := choices_fit hE l [] hT.range
  have hgone : ∀ i, i < l.length → byC ((choicesR (32, cs, ()) l []).getD i zCh) ≠ zc → goesB (choicesR (32, cs, ()) l []) (byC ((choicesR (32, cs, ()) l []).getD i zCh)) = true := fun i hi hb => chose_gone hi hb
  have hurg : ∀ i, i < l.length → ableA (l.getD i zA) → (l.getD i zA).2.2.1.tmod 2 = 0 → ∀ u us, cs.filter (urgentP (l.getD i zA).2.2.2.1 (l.getD i zA).2.2.2.2.1) = u :: us → goesB (choicesR (32, cs, ()) l []) u = true := fun i hi ha h2 u us hu => serves_urgent hE hT hi ha h2 hu
  have hhal : ∀ i, i < l.length → ableA (l.getD i zA) → (l.getD i zA).2.2.1.tmod 2 = 0 → ∀ x ∈ cs, hallB x = true → ∃ y ∈ cs, hallB y = true ∧ goesB (choicesR (32, cs, ()) l []) y = true := fun i hi ha h2 x hx hxh => serves_hall hE hT hi ha h2 hx hxh
  have hwr : wrongE (32, cs, ()) l = 0 := by rw [wrongE, if_pos hE, hT.check]
  have hP : planR (32, cs, ()) l 12 = (planGo 12 (32, cs, ()) l, 0) := by
    rw [planR, if_neg (by rw [hwr]; decide), if_neg (by decide)]; rfl
  have hP0 : (planGo 12 (32, cs, ()) l).getD 0 0 = nI (servedR (32, cs, ()) (choicesR (32, cs, ()) l [])).2.1.length := rfl
  have hPd := planGo_dec 12 (32, cs, ()) l
  have hPl := planGo_len 12 (32, cs, ()) l
  obtain ⟨pl, hpl⟩ : ∃ x, planGo 12 (32, cs, ()) l = x := ⟨_, rfl⟩
  rw [hpl] at hP hP0 hPd hPl
  obtain ⟨ch, hch⟩ : ∃ x, choicesR (32, cs, ()) l [] = x := ⟨_, rfl⟩
  have hcl : ch.length = l.length := by rw [← hch, choicesR_len]
  rw [hch] at hA hfit hgone hurg hhal hP0
  have hsv := served_eq ch cs hM hfit
  obtain ⟨p, hp⟩ : ∃ p : Call → Bool, (fun y => !goesB ch y) = p := ⟨_, rfl⟩
  have hpx : ∀ y, p y = !goesB ch y := fun y => by rw [← hp]
  rw [hp] at hsv
  rw [hsv] at hP0
  have hSO : serveO (32, cs, ()) l = ((32, cs.filter p, ()), 0) := by
    rw [serveO, hA, if_neg (by simp)]
    simp only
    rw [hsv]
  obtain ⟨lf, hlf⟩ : ∃ x, cs.filter p = x := ⟨_, rfl⟩
  have hlfl : lf.length ≤ 20 := by rw [← hlf]; exact Nat.le_trans (List.length_filter_le _ _) hcsl
  have hlfin : ∀ j, j < lf.length → lf.getD j zc ∈ cs ∧ goesB ch (lf.getD j zc) = false := fun j hj => by
    rw [← hlf] at hj ⊢
    have := in_filter hj
    refine ⟨this.1, ?_⟩
    have h2 := this.2
    rw [hpx, Bool.not_eq_true'] at h2
    exact h2
  rw [hlf] at hsv hP0 hSO
  refine AM.runTo2 hG 12 200 (by cbv) ?_ ?_
  · (simp only [sxs, sxb, and_self, and_true, true_and, implies_true, imp_self, bne_eq_false_iff_eq, Nat.zero_add, Nat.le_refl, Int.toNat_natCast, Int.ofNat_lt, Int.natCast_nonneg, decide_eq_true_eq, decide_eq_false_iff_not, bne_iff_ne, ne_eq]; try dsimp only [Kd.T, Kds.T, AK.T, AKs.T])
    simp only [htm, hl, hA, hSO, hP, hPl]
    exact ⟨by omega, by omega⟩
  refine AM.imp2 (fr' := frame 250 [(5, .ptr 0 0), (6, .ro AskK fun _ => l), (7, .ro ChoiceK fun _ => ch), (8, .int .i64 (.l 0)), (9, .ptr 1 0), (10, .int .i64 (.l 0)), (11, .ro I64 fun _ => pl), (48, .int .i64 (.l 0))])
    (h' := [.box 25 [.int .i64 (.t fun _ => 32), .ro CallK fun _ => cs], .box 25 [.int .i64 (.t fun _ => 32), .ro CallK fun _ => lf]]) (by cbv) (by cbv) ?_ ?_ ?_
  · (simp only [sxs, sxb, and_self, and_true, true_and, implies_true, imp_self, bne_eq_false_iff_eq, Nat.zero_add, Nat.le_refl, Int.toNat_natCast, Int.ofNat_lt, Int.natCast_nonneg, decide_eq_true_eq, decide_eq_false_iff_not, bne_iff_ne, ne_eq]; try dsimp only [Kd.T, Kds.T, AK.T, AKs.T])
    simp only [htm, hl, hA, hSO, hP]
    exact ⟨trivial, trivial, trivial, trivial, trivial, trivial⟩
  · (simp only [sxs, sxb, and_self, and_true, true_and, implies_true, imp_self, bne_eq_false_iff_eq, Nat.zero_add, Nat.le_refl, Int.toNat_natCast, Int.ofNat_lt, Int.natCast_nonneg, decide_eq_true_eq, decide_eq_false_iff_not, bne_iff_ne, ne_eq]; try dsimp only [Kd.T, Kds.T, AK.T, AKs.T])
    simp only [htm, hl, hSO]
    exact ⟨⟨trivial, trivial⟩, trivial, trivial⟩
  refine AM.run2 hG 200 (by cbv) ?_ ?_
  · (simp only [sxs, sxb, and_self, and_true, true_and, implies_true, imp_self, bne_eq_false_iff_eq, Nat.zero_add, Nat.le_refl, Int.toNat_natCast, Int.ofNat_lt, Int.natCast_nonneg, decide_eq_true_eq, decide_eq_false_iff_not, bne_iff_ne, ne_eq]; try dsimp only [Kd.T, Kds.T, AK.T, AKs.T])
    rw [hPl]
    exact ⟨fun _ => by decide, fun _ => by decide⟩
  refine AM.sure 79 false rfl (by (simp only [sxs, sxb, and_self, and_true, true_and, implies_true, imp_self, bne_eq_false_iff_eq, Nat.zero_add, Nat.le_refl, Int.toNat_natCast, Int.ofNat_lt, Int.natCast_nonneg, decide_eq_true_eq, decide_eq_false_iff_not, bne_iff_ne, ne_eq]; try dsimp only [Kd.T, Kds.T, AK.T, AKs.T]); rw [hPl]; exact ⟨fun q => q.elim (fun q => q rfl) (fun q => q trivial), hP0⟩) ?_
  refine AM.run2 hG 200 (by cbv) ?_ ?_
  · (simp only [sxs, sxb, and_self, and_true, true_and, implies_true, imp_self, bne_eq_false_iff_eq, Nat.zero_add, Nat.le_refl, Int.toNat_natCast, Int.ofNat_lt, Int.natCast_nonneg, decide_eq_true_eq, decide_eq_false_iff_not, bne_iff_ne, ne_eq]; try dsimp only [Kd.T, Kds.T, AK.T, AKs.T])
  refine AM.loopI (fun i : Nat => (frame 250 [(5, .ptr 0 0), (6, .ro AskK fun _ => l), (7, .ro ChoiceK fun _ => ch), (9, .ptr 1 0), (11, .ro I64 fun _ => pl), (13, .int .i64 (.t fun _ => nI ((cs.take i).filter p).length)), (14, .int .i64 (.t fun _ => nI ((cs.take i).filter fun y => p y && hallB y).length)), (15, .int .i64 (.t fun _ => nI ((cs.take i).filter hallB).length)), (16, .int .i64 (.t fun _ => nI i))], [.box 25 [.int .i64 (.t fun _ => 32), .ro CallK fun _ => cs], .box 25 [.int .i64 (.t fun _ => 32), .ro CallK fun _ => lf]])) (fun i => i ≤ cs.length) (fun i => cs.length - i) 0 (Nat.zero_le _) ?_ ?_ ?_
  · cbv; (simp only [sxs, sxb, and_self, and_true, true_and, implies_true, imp_self, bne_eq_false_iff_eq, Nat.zero_add, Nat.le_refl, Int.toNat_natCast, Int.ofNat_lt, Int.natCast_nonneg, decide_eq_true_eq, decide_eq_false_iff_not, bne_iff_ne, ne_eq]; try dsimp only [Kd.T, Kds.T, AK.T, AKs.T])
    exact ⟨rfl, rfl, rfl, rfl⟩
  · cbv; (simp only [sxs, sxb, and_self, and_true, true_and, implies_true, imp_self, bne_eq_false_iff_eq, Nat.zero_add, Nat.le_refl, Int.toNat_natCast, Int.ofNat_lt, Int.natCast_nonneg, decide_eq_true_eq, decide_eq_false_iff_not, bne_iff_ne, ne_eq]; try dsimp only [Kd.T, Kds.T, AK.T, AKs.T])
  rintro i hi ih
  refine AM.run2 hG 100 (by cbv) ?_ ?_
  · (simp only [sxs, sxb, and_self, and_true, true_and, implies_true, imp_self, bne_eq_false_iff_eq, Nat.zero_add, Nat.le_refl, Int.toNat_natCast, Int.ofNat_lt, Int.natCast_nonneg, decide_eq_true_eq, decide_eq_false_iff_not, bne_iff_ne, ne_eq]; try dsimp only [Kd.T, Kds.T, AK.T, AKs.T])
  refine AM.case 84 rfl (fun h => ?_) (fun h => ?_) <;> (simp only [sxs, sxb, and_self, and_true, true_and, implies_true, imp_self, bne_eq_false_iff_eq, Nat.zero_add, Nat.le_refl, Int.toNat_natCast, Int.ofNat_lt, Int.natCast_nonneg, decide_eq_true_eq, decide_eq_false_iff_not, bne_iff_ne, ne_eq] at h; try dsimp only [Kd.T, Kds.T, AK.T, AKs.T] at h)
  · have s1 := len_step p h
    have s2 := len_step (fun y => p y && hallB y) h
    have s3 := len_step hallB h
    have b1 : ((cs.take i).filter p).length ≤ i := Nat.le_trans (List.length_filter_le _ _) (by rw [List.length_take]; omega)
    have b2 : ((cs.take i).filter fun y => p y && hallB y).length ≤ i := Nat.le_trans (List.length_filter_le _ _) (by rw [List.length_take]; omega)
    have b3 : ((cs.take i).filter hallB).length ≤ i := Nat.le_trans (List.length_filter_le _ _) (by rw [List.length_take]; omega)
    obtain ⟨x, hx⟩ : ∃ x, cs.getD i zc = x := ⟨_, rfl⟩
    have hmy : p x = true → ((cs.take i).filter p).length < lf.length ∧ lf.getD ((cs.take i).filter p).length zc = x := fun q => by
      have := match_yes (p := p) h (by rw [hx]; exact q)
      rw [hlf, hx] at this
      exact this
    have hmn : p x = false → ∀ j, j < lf.length → lf.getD j zc ≠ x := fun q j hj e => by
      have := (hlfin j hj).2
      rw [e, ← Bool.not_eq_true', ← hpx, q] at this
      cases this
    simp only [hx] at s1 s2 s3
    refine AM.run2 hG 100 (by cbv) ?_ ?_
    · (simp only [sxs, sxb, and_self, and_true, true_and, implies_true, imp_self, bne_eq_false_iff_eq, Nat.zero_add, Nat.le_refl, Int.toNat_natCast, Int.ofNat_lt, Int.natCast_nonneg, decide_eq_true_eq, decide_eq_false_iff_not, bne_iff_ne, ne_eq]; try dsimp only [Kd.T, Kds.T, AK.T, AKs.T])
      exact h
    cases hh : hallB x
    · have hk3 : (cs.getD i zc).1 = 3 := by rw [hx]; exact Decidable.not_not.1 (of_decide_eq_false hh)
      refine AM.sure 94 false rfl (by (simp only [sxs, sxb, and_self, and_true, true_and, implies_true, imp_self, bne_eq_false_iff_eq, Nat.zero_add, Nat.le_refl, Int.toNat_natCast, Int.ofNat_lt, Int.natCast_nonneg, decide_eq_true_eq, decide_eq_false_iff_not, bne_iff_ne, ne_eq]; try dsimp only [Kd.T, Kds.T, AK.T, AKs.T]); exact hk3) ?_
      refine AM.run2 hG 100 (by cbv) ?_ ?_
      · (simp only [sxs, sxb, and_self, and_true, true_and, implies_true, imp_self, bne_eq_false_iff_eq, Nat.zero_add, Nat.le_refl, Int.toNat_natCast, Int.ofNat_lt, Int.natCast_nonneg, decide_eq_true_eq, decide_eq_false_iff_not, bne_iff_ne, ne_eq]; try dsimp only [Kd.T, Kds.T, AK.T, AKs.T])
        exact fun _ => h
      cases hpp : p x
      · refine AM.sure 114 false rfl (by (simp only [sxs, sxb, and_self, and_true, true_and, implies_true, imp_self, bne_eq_false_iff_eq, Nat.zero_add, Nat.le_refl, Int.toNat_natCast, Int.ofNat_lt, Int.natCast_nonneg, decide_eq_true_eq, decide_eq_false_iff_not, bne_iff_ne, ne_eq]; try dsimp only [Kd.T, Kds.T, AK.T, AKs.T]); exact fun q => (eqsC (lf.getD ((cs.take i).filter p).length zc) (cs.getD i zc)).trans (decide_eq_false (fun e => hmn hpp _ q (e.trans hx)))) ?_
        refine AM.run2 hG 100 (by cbv) ?_ ?_
        · (simp only [sxs, sxb, and_self, and_true, true_and, implies_true, imp_self, bne_eq_false_iff_eq, Nat.zero_add, Nat.le_refl, Int.toNat_natCast, Int.ofNat_lt, Int.natCast_nonneg, decide_eq_true_eq, decide_eq_false_iff_not, bne_iff_ne, ne_eq]; try dsimp only [Kd.T, Kds.T, AK.T, AKs.T])
        rw [if_neg (by rw [hpp]; decide), Nat.add_zero] at s1
        rw [if_neg (by rw [hpp]; simp), Nat.add_zero] at s2
        rw [if_neg (by rw [hh]; decide), Nat.add_zero] at s3
        refine AM.imp2 (by cbv) (by cbv) ?_ ?_ (ih (i + 1) (by omega) (by omega))
        · (simp only [sxs, sxb, and_self, and_true, true_and, implies_true, imp_self, bne_eq_false_iff_eq, Nat.zero_add, Nat.le_refl, Int.toNat_natCast, Int.ofNat_lt, Int.natCast_nonneg, decide_eq_true_eq, decide_eq_false_iff_not, bne_iff_ne, ne_eq]; try dsimp only [Kd.T, Kds.T, AK.T, AKs.T])
          rw [s1, s2, s3]
          rw [w64s (i := i) (by omega)]
          exact ⟨by first | rfl | exact w64s (by omega), by first | rfl | exact w64s (Nat.lt_of_le_of_lt b2 (by omega)), by first | rfl | exact w64s (Nat.lt_of_le_of_lt b3 (by omega)), rfl⟩
        · (simp only [sxs, sxb, and_self, and_true, true_and, implies_true, imp_self, bne_eq_false_iff_eq, Nat.zero_add, Nat.le_refl, Int.toNat_natCast, Int.ofNat_lt, Int.natCast_nonneg, decide_eq_true_eq, decide_eq_false_iff_not, bne_iff_ne, ne_eq]; try dsimp only [Kd.T, Kds.T, AK.T, AKs.T])
      · refine AM.sure 114 true rfl (by (simp only [sxs, sxb, and_self, and_true, true_and, implies_true, imp_self, bne_eq_false_iff_eq, Nat.zero_add, Nat.le_refl, Int.toNat_natCast, Int.ofNat_lt, Int.natCast_nonneg, decide_eq_true_eq, decide_eq_false_iff_not, bne_iff_ne, ne_eq]; try dsimp only [Kd.T, Kds.T, AK.T, AKs.T]); exact ⟨(hmy hpp).1, (eqsC (lf.getD ((cs.take i).filter p).length zc) (cs.getD i zc)).trans (decide_eq_true ((hmy hpp).2.trans hx.symm))⟩) ?_
        refine AM.run2 hG 100 (by cbv) ?_ ?_
        · (simp only [sxs, sxb, and_self, and_true, true_and, implies_true, imp_self, bne_eq_false_iff_eq, Nat.zero_add, Nat.le_refl, Int.toNat_natCast, Int.ofNat_lt, Int.natCast_nonneg, decide_eq_true_eq, decide_eq_false_iff_not, bne_iff_ne, ne_eq]; try dsimp only [Kd.T, Kds.T, AK.T, AKs.T])
        refine AM.sure 117 false rfl (by (simp only [sxs, sxb, and_self, and_true, true_and, implies_true, imp_self, bne_eq_false_iff_eq, Nat.zero_add, Nat.le_refl, Int.toNat_natCast, Int.ofNat_lt, Int.natCast_nonneg, decide_eq_true_eq, decide_eq_false_iff_not, bne_iff_ne, ne_eq]; try dsimp only [Kd.T, Kds.T, AK.T, AKs.T]); exact hk3) ?_
        refine AM.run2 hG 100 (by cbv) ?_ ?_
        · (simp only [sxs, sxb, and_self, and_true, true_and, implies_true, imp_self, bne_eq_false_iff_eq, Nat.zero_add, Nat.le_refl, Int.toNat_natCast, Int.ofNat_lt, Int.natCast_nonneg, decide_eq_true_eq, decide_eq_false_iff_not, bne_iff_ne, ne_eq]; try dsimp only [Kd.T, Kds.T, AK.T, AKs.T])
        rw [if_pos hpp] at s1
        rw [if_neg (by rw [hh]; simp), Nat.add_zero] at s2
        rw [if_neg (by rw [hh]; decide), Nat.add_zero] at s3
        refine AM.imp2 (by cbv) (by cbv) ?_ ?_ (ih (i + 1) (by omega) (by omega))
        · (simp only [sxs, sxb, and_self, and_true, true_and, implies_true, imp_self, bne_eq_false_iff_eq, Nat.zero_add, Nat.le_refl, Int.toNat_natCast, Int.ofNat_lt, Int.natCast_nonneg, decide_eq_true_eq, decide_eq_false_iff_not, bne_iff_ne, ne_eq]; try dsimp only [Kd.T, Kds.T, AK.T, AKs.T])
          rw [s1, s2, s3]
          rw [w64s (i := i) (by omega)]
          exact ⟨by first | rfl | exact w64s (by omega), by first | rfl | exact w64s (Nat.lt_of_le_of_lt b2 (by omega)), by first | rfl | exact w64s (Nat.lt_of_le_of_lt b3 (by omega)), rfl⟩
        · (simp only [sxs, sxb, and_self, and_true, true_and, implies_true, imp_self, bne_eq_false_iff_eq, Nat.zero_add, Nat.le_refl, Int.toNat_natCast, Int.ofNat_lt, Int.natCast_nonneg, decide_eq_true_eq, decide_eq_false_iff_not, bne_iff_ne, ne_eq]; try dsimp only [Kd.T, Kds.T, AK.T, AKs.T])
    · have hk3 : ¬ (cs.getD i zc).1 = 3 := by rw [hx]; exact of_decide_eq_true hh
      refine AM.sure 94 true rfl (by (simp only [sxs, sxb, and_self, and_true, true_and, implies_true, imp_self, bne_eq_false_iff_eq, Nat.zero_add, Nat.le_refl, Int.toNat_natCast, Int.ofNat_lt, Int.natCast_nonneg, decide_eq_true_eq, decide_eq_false_iff_not, bne_iff_ne, ne_eq]; try dsimp only [Kd.T, Kds.T, AK.T, AKs.T]); exact hk3) ?_
      refine AM.run2 hG 100 (by cbv) ?_ ?_
      · (simp only [sxs, sxb, and_self, and_true, true_and, implies_true, imp_self, bne_eq_false_iff_eq, Nat.zero_add, Nat.le_refl, Int.toNat_natCast, Int.ofNat_lt, Int.natCast_nonneg, decide_eq_true_eq, decide_eq_false_iff_not, bne_iff_ne, ne_eq]; try dsimp only [Kd.T, Kds.T, AK.T, AKs.T])
        exact fun _ => h
      cases hpp : p x
      · refine AM.sure 114 false rfl (by (simp only [sxs, sxb, and_self, and_true, true_and, implies_true, imp_self, bne_eq_false_iff_eq, Nat.zero_add, Nat.le_refl, Int.toNat_natCast, Int.ofNat_lt, Int.natCast_nonneg, decide_eq_true_eq, decide_eq_false_iff_not, bne_iff_ne, ne_eq]; try dsimp only [Kd.T, Kds.T, AK.T, AKs.T]); exact fun q => (eqsC (lf.getD ((cs.take i).filter p).length zc) (cs.getD i zc)).trans (decide_eq_false (fun e => hmn hpp _ q (e.trans hx)))) ?_
        refine AM.run2 hG 100 (by cbv) ?_ ?_
        · (simp only [sxs, sxb, and_self, and_true, true_and, implies_true, imp_self, bne_eq_false_iff_eq, Nat.zero_add, Nat.le_refl, Int.toNat_natCast, Int.ofNat_lt, Int.natCast_nonneg, decide_eq_true_eq, decide_eq_false_iff_not, bne_iff_ne, ne_eq]; try dsimp only [Kd.T, Kds.T, AK.T, AKs.T])
        rw [if_neg (by rw [hpp]; decide), Nat.add_zero] at s1
        rw [if_neg (by rw [hpp]; simp), Nat.add_zero] at s2
        rw [if_pos hh] at s3
        refine AM.imp2 (by cbv) (by cbv) ?_ ?_ (ih (i + 1) (by omega) (by omega))
        · (simp only [sxs, sxb, and_self, and_true, true_and, implies_true, imp_self, bne_eq_false_iff_eq, Nat.zero_add, Nat.le_refl, Int.toNat_natCast, Int.ofNat_lt, Int.natCast_nonneg, decide_eq_true_eq, decide_eq_false_iff_not, bne_iff_ne, ne_eq]; try dsimp only [Kd.T, Kds.T, AK.T, AKs.T])
          rw [s1, s2, s3]
          rw [w64s (i := i) (by omega)]
          exact ⟨by first | rfl | exact w64s (by omega), by first | rfl | exact w64s (Nat.lt_of_le_of_lt b2 (by omega)), by first | rfl | exact w64s (Nat.lt_of_le_of_lt b3 (by omega)), rfl⟩
        · (simp only [sxs, sxb, and_self, and_true, true_and, implies_true, imp_self, bne_eq_false_iff_eq, Nat.zero_add, Nat.le_refl, Int.toNat_natCast, Int.ofNat_lt, Int.natCast_nonneg, decide_eq_true_eq, decide_eq_false_iff_not, bne_iff_ne, ne_eq]; try dsimp only [Kd.T, Kds.T, AK.T, AKs.T])
      · refine AM.sure 114 true rfl (by (simp only [sxs, sxb, and_self, and_true, true_and, implies_true, imp_self, bne_eq_false_iff_eq, Nat.zero_add, Nat.le_refl, Int.toNat_natCast, Int.ofNat_lt, Int.natCast_nonneg, decide_eq_true_eq, decide_eq_false_iff_not, bne_iff_ne, ne_eq]; try dsimp only [Kd.T, Kds.T, AK.T, AKs.T]); exact ⟨(hmy hpp).1, (eqsC (lf.getD ((cs.take i).filter p).length zc) (cs.getD i zc)).trans (decide_eq_true ((hmy hpp).2.trans hx.symm))⟩) ?_
        refine AM.run2 hG 100 (by cbv) ?_ ?_
        · (simp only [sxs, sxb, and_self, and_true, true_and, implies_true, imp_self, bne_eq_false_iff_eq, Nat.zero_add, Nat.le_refl, Int.toNat_natCast, Int.ofNat_lt, Int.natCast_nonneg, decide_eq_true_eq, decide_eq_false_iff_not, bne_iff_ne, ne_eq]; try dsimp only [Kd.T, Kds.T, AK.T, AKs.T])
        refine AM.sure 117 true rfl (by (simp only [sxs, sxb, and_self, and_true, true_and, implies_true, imp_self, bne_eq_false_iff_eq, Nat.zero_add, Nat.le_refl, Int.toNat_natCast, Int.ofNat_lt, Int.natCast_nonneg, decide_eq_true_eq, decide_eq_false_iff_not, bne_iff_ne, ne_eq]; try dsimp only [Kd.T, Kds.T, AK.T, AKs.T]); exact hk3) ?_
        refine AM.run2 hG 100 (by cbv) ?_ ?_
        · (simp only [sxs, sxb, and_self, and_true, true_and, implies_true, imp_self, bne_eq_false_iff_eq, Nat.zero_add, Nat.le_refl, Int.toNat_natCast, Int.ofNat_lt, Int.natCast_nonneg, decide_eq_true_eq, decide_eq_false_iff_not, bne_iff_ne, ne_eq]; try dsimp only [Kd.T, Kds.T, AK.T, AKs.T])
        rw [if_pos hpp] at s1
        rw [if_pos (by rw [hpp, hh]; rfl)] at s2
        rw [if_pos hh] at s3
        refine AM.imp2 (by cbv) (by cbv) ?_ ?_ (ih (i + 1) (by omega) (by omega))
        · (simp only [sxs, sxb, and_self, and_true, true_and, implies_true, imp_self, bne_eq_false_iff_eq, Nat.zero_add, Nat.le_refl, Int.toNat_natCast, Int.ofNat_lt, Int.natCast_nonneg, decide_eq_true_eq, decide_eq_false_iff_not, bne_iff_ne, ne_eq]; try dsimp only [Kd.T, Kds.T, AK.T, AKs.T])
          rw [s1, s2, s3]
          rw [w64s (i := i) (by omega)]
          exact ⟨by first | rfl | exact w64s (by omega), by first | rfl | exact w64s (Nat.lt_of_le_of_lt b2 (by omega)), by first | rfl | exact w64s (Nat.lt_of_le_of_lt b3 (by omega)), rfl⟩
        · (simp only [sxs, sxb, and_self, and_true, true_and, implies_true, imp_self, bne_eq_false_iff_eq, Nat.zero_add, Nat.le_refl, Int.toNat_natCast, Int.ofNat_lt, Int.natCast_nonneg, decide_eq_true_eq, decide_eq_false_iff_not, bne_iff_ne, ne_eq]; try dsimp only [Kd.T, Kds.T, AK.T, AKs.T])
  clear ih
  have htk : cs.take i = cs := List.take_of_length_le (by omega)
  obtain ⟨hN, hhN⟩ : ∃ a, (cs.filter fun y => p y && hallB y).length = a := ⟨_, rfl⟩
  obtain ⟨bN, hbN⟩ : ∃ a, (cs.filter hallB).length = a := ⟨_, rfl⟩
  refine AM.imp2 (fr' := frame 250 [(5, .ptr 0 0), (6, .ro AskK fun _ => l), (7, .ro ChoiceK fun _ => ch), (9, .ptr 1 0), (11, .ro I64 fun _ => pl), (13, .int .i64 (.t fun _ => nI lf.length)), (14, .int .i64 (.t fun _ => nI hN)), (15, .int .i64 (.t fun _ => nI bN)), (84, .bool (.l false))]) (h' := [.box 25 [.int .i64 (.t fun _ => 32), .ro CallK fun _ => cs], .box 25 [.int .i64 (.t fun _ => 32), .ro CallK fun _ => lf]]) (by cbv) (by cbv) ?_ ?_ ?_
  · (simp only [sxs, sxb, and_self, and_true, true_and, implies_true, imp_self, bne_eq_false_iff_eq, Nat.zero_add, Nat.le_refl, Int.toNat_natCast, Int.ofNat_lt, Int.natCast_nonneg, decide_eq_true_eq, decide_eq_false_iff_not, bne_iff_ne, ne_eq]; try dsimp only [Kd.T, Kds.T, AK.T, AKs.T])
    rw [htk, hlf, hhN, hbN]
    exact ⟨rfl, rfl, rfl⟩
  · (simp only [sxs, sxb, and_self, and_true, true_and, implies_true, imp_self, bne_eq_false_iff_eq, Nat.zero_add, Nat.le_refl, Int.toNat_natCast, Int.ofNat_lt, Int.natCast_nonneg, decide_eq_true_eq, decide_eq_false_iff_not, bne_iff_ne, ne_eq]; try dsimp only [Kd.T, Kds.T, AK.T, AKs.T])
  refine AM.run2 hG 100 (by cbv) ?_ ?_
  · (simp only [sxs, sxb, and_self, and_true, true_and, implies_true, imp_self, bne_eq_false_iff_eq, Nat.zero_add, Nat.le_refl, Int.toNat_natCast, Int.ofNat_lt, Int.natCast_nonneg, decide_eq_true_eq, decide_eq_false_iff_not, bne_iff_ne, ne_eq]; try dsimp only [Kd.T, Kds.T, AK.T, AKs.T])
  refine AM.sure 124 false rfl (by (simp only [sxs, sxb, and_self, and_true, true_and, implies_true, imp_self, bne_eq_false_iff_eq, Nat.zero_add, Nat.le_refl, Int.toNat_natCast, Int.ofNat_lt, Int.natCast_nonneg, decide_eq_true_eq, decide_eq_false_iff_not, bne_iff_ne, ne_eq]; try dsimp only [Kd.T, Kds.T, AK.T, AKs.T])) ?_
  refine AM.run2 hG 100 (by cbv) ?_ ?_
  · (simp only [sxs, sxb, and_self, and_true, true_and, implies_true, imp_self, bne_eq_false_iff_eq, Nat.zero_add, Nat.le_refl, Int.toNat_natCast, Int.ofNat_lt, Int.natCast_nonneg, decide_eq_true_eq, decide_eq_false_iff_not, bne_iff_ne, ne_eq]; try dsimp only [Kd.T, Kds.T, AK.T, AKs.T])
  refine AM.loopI (fun i : Nat => (frame 250 [(5, .ptr 0 0), (6, .ro AskK fun _ => l), (7, .ro ChoiceK fun _ => ch), (9, .ptr 1 0), (11, .ro I64 fun _ => pl), (14, .int .i64 (.t fun _ => nI hN)), (15, .int .i64 (.t fun _ => nI bN)), (18, .int .i64 (.t fun _ => nI i))], [.box 25 [.int .i64 (.t fun _ => 32), .ro CallK fun _ => cs], .box 25 [.int .i64 (.t fun _ => 32), .ro CallK fun _ => lf]])) (fun i => i ≤ l.length) (fun i => l.length - i) 0 (Nat.zero_le _) ?_ ?_ ?_
  · cbv; (simp only [sxs, sxb, and_self, and_true, true_and, implies_true, imp_self, bne_eq_false_iff_eq, Nat.zero_add, Nat.le_refl, Int.toNat_natCast, Int.ofNat_lt, Int.natCast_nonneg, decide_eq_true_eq, decide_eq_false_iff_not, bne_iff_ne, ne_eq]; try dsimp only [Kd.T, Kds.T, AK.T, AKs.T]); all_goals ((repeat' apply And.intro) <;> first | rfl | assumption | exact trivial)
  · cbv; (simp only [sxs, sxb, and_self, and_true, true_and, implies_true, imp_self, bne_eq_false_iff_eq, Nat.zero_add, Nat.le_refl, Int.toNat_natCast, Int.ofNat_lt, Int.natCast_nonneg, decide_eq_true_eq, decide_eq_false_iff_not, bne_iff_ne, ne_eq]; try dsimp only [Kd.T, Kds.T, AK.T, AKs.T]); all_goals ((repeat' apply And.intro) <;> first | rfl | assumption | exact trivial)
  · rintro i hi ih
    refine AM.run2 hG 100 (by cbv) ?_ ?_
    · (simp only [sxs, sxb, and_self, and_true, true_and, implies_true, imp_self, bne_eq_false_iff_eq, Nat.zero_add, Nat.le_refl, Int.toNat_natCast, Int.ofNat_lt, Int.natCast_nonneg, decide_eq_true_eq, decide_eq_false_iff_not, bne_iff_ne, ne_eq]; try dsimp only [Kd.T, Kds.T, AK.T, AKs.T])
    refine AM.case 128 rfl (fun h => ?_) (fun h => ?_) <;> (simp only [sxs, sxb, and_self, and_true, true_and, implies_true, imp_self, bne_eq_false_iff_eq, Nat.zero_add, Nat.le_refl, Int.toNat_natCast, Int.ofNat_lt, Int.natCast_nonneg, decide_eq_true_eq, decide_eq_false_iff_not, bne_iff_ne, ne_eq] at h; try dsimp only [Kd.T, Kds.T, AK.T, AKs.T] at h)
    · replace h : i < ch.length := h
      refine AM.run2 hG 100 (by cbv) ?_ ?_
      · (simp only [sxs, sxb, and_self, and_true, true_and, implies_true, imp_self, bne_eq_false_iff_eq, Nat.zero_add, Nat.le_refl, Int.toNat_natCast, Int.ofNat_lt, Int.natCast_nonneg, decide_eq_true_eq, decide_eq_false_iff_not, bne_iff_ne, ne_eq]; try dsimp only [Kd.T, Kds.T, AK.T, AKs.T])
      refine AM.loopI (fun j : Nat => (frame 250 [(5, .ptr 0 0), (6, .ro AskK fun _ => l), (7, .ro ChoiceK fun _ => ch), (9, .ptr 1 0), (11, .ro I64 fun _ => pl), (14, .int .i64 (.t fun _ => nI hN)), (15, .int .i64 (.t fun _ => nI bN)), (18, .int .i64 (.t fun _ => nI i)), (19, .int .i64 (.t fun _ => nI j))], [.box 25 [.int .i64 (.t fun _ => 32), .ro CallK fun _ => cs], .box 25 [.int .i64 (.t fun _ => 32), .ro CallK fun _ => lf]])) (fun j => j ≤ lf.length) (fun j => lf.length - j) 0 (Nat.zero_le _) ?_ ?_ ?_
      · cbv; (simp only [sxs, sxb, and_self, and_true, true_and, implies_true, imp_self, bne_eq_false_iff_eq, Nat.zero_add, Nat.le_refl, Int.toNat_natCast, Int.ofNat_lt, Int.natCast_nonneg, decide_eq_true_eq, decide_eq_false_iff_not, bne_iff_ne, ne_eq]; try dsimp only [Kd.T, Kds.T, AK.T, AKs.T]); all_goals ((repeat' apply And.intro) <;> first | rfl | assumption | exact trivial)
      · cbv; (simp only [sxs, sxb, and_self, and_true, true_and, implies_true, imp_self, bne_eq_false_iff_eq, Nat.zero_add, Nat.le_refl, Int.toNat_natCast, Int.ofNat_lt, Int.natCast_nonneg, decide_eq_true_eq, decide_eq_false_iff_not, bne_iff_ne, ne_eq]; try dsimp only [Kd.T, Kds.T, AK.T, AKs.T]); all_goals ((repeat' apply And.intro) <;> first | rfl | assumption | exact trivial)
      rintro j hj ih2
      refine AM.run2 hG 100 (by cbv) ?_ ?_
      · (simp only [sxs, sxb, and_self, and_true, true_and, implies_true, imp_self, bne_eq_false_iff_eq, Nat.zero_add, Nat.le_refl, Int.toNat_natCast, Int.ofNat_lt, Int.natCast_nonneg, decide_eq_true_eq, decide_eq_false_iff_not, bne_iff_ne, ne_eq]; try dsimp only [Kd.T, Kds.T, AK.T, AKs.T])
      refine AM.case 135 rfl (fun h2 => ?_) (fun h2 => ?_) <;> (simp only [sxs, sxb, and_self, and_true, true_and, implies_true, imp_self, bne_eq_false_iff_eq, Nat.zero_add, Nat.le_refl, Int.toNat_natCast, Int.ofNat_lt, Int.natCast_nonneg, decide_eq_true_eq, decide_eq_false_iff_not, bne_iff_ne, ne_eq] at h2; try dsimp only [Kd.T, Kds.T, AK.T, AKs.T] at h2)
      · have hne : byC (ch.getD i zCh) ≠ lf.getD j zc := by
          intro e
          by_cases q : byC (ch.getD i zCh) = zc
          · have := (hlfin j h2).1
            rw [← e, q] at this
            exact tab_zc hE this
          · have := hgone i (by omega) q
            rw [e, (hlfin j h2).2] at this
            cases this
        refine AM.run2 hG 100 (by cbv) ?_ ?_
        · (simp only [sxs, sxb, and_self, and_true, true_and, implies_true, imp_self, bne_eq_false_iff_eq, Nat.zero_add, Nat.le_refl, Int.toNat_natCast, Int.ofNat_lt, Int.natCast_nonneg, decide_eq_true_eq, decide_eq_false_iff_not, bne_iff_ne, ne_eq]; try dsimp only [Kd.T, Kds.T, AK.T, AKs.T])
          exact ⟨h, h, h2⟩
        refine AM.sure 148 false rfl (by (simp only [sxs, sxb, and_self, and_true, true_and, implies_true, imp_self, bne_eq_false_iff_eq, Nat.zero_add, Nat.le_refl, Int.toNat_natCast, Int.ofNat_lt, Int.natCast_nonneg, decide_eq_true_eq, decide_eq_false_iff_not, bne_iff_ne, ne_eq]; try dsimp only [Kd.T, Kds.T, AK.T, AKs.T]); exact (eqsC (byC (ch.getD i zCh)) (lf.getD j zc)).trans (decide_eq_false hne)) ?_
        refine AM.run2 hG 100 (by cbv) ?_ ?_
        · (simp only [sxs, sxb, and_self, and_true, true_and, implies_true, imp_self, bne_eq_false_iff_eq, Nat.zero_add, Nat.le_refl, Int.toNat_natCast, Int.ofNat_lt, Int.natCast_nonneg, decide_eq_true_eq, decide_eq_false_iff_not, bne_iff_ne, ne_eq]; try dsimp only [Kd.T, Kds.T, AK.T, AKs.T])
        refine AM.imp2 (by cbv) (by cbv) ?_ ?_ (ih2 (j + 1) (by omega) (by omega))
        · (simp only [sxs, sxb, and_self, and_true, true_and, implies_true, imp_self, bne_eq_false_iff_eq, Nat.zero_add, Nat.le_refl, Int.toNat_natCast, Int.ofNat_lt, Int.natCast_nonneg, decide_eq_true_eq, decide_eq_false_iff_not, bne_iff_ne, ne_eq]; try dsimp only [Kd.T, Kds.T, AK.T, AKs.T])
          rw [w64s (by omega)]
        · (simp only [sxs, sxb, and_self, and_true, true_and, implies_true, imp_self, bne_eq_false_iff_eq, Nat.zero_add, Nat.le_refl, Int.toNat_natCast, Int.ofNat_lt, Int.natCast_nonneg, decide_eq_true_eq, decide_eq_false_iff_not, bne_iff_ne, ne_eq]; try dsimp only [Kd.T, Kds.T, AK.T, AKs.T])
      clear ih2
      refine AM.run2 hG 100 (by cbv) ?_ ?_
      · (simp only [sxs, sxb, and_self, and_true, true_and, implies_true, imp_self, bne_eq_false_iff_eq, Nat.zero_add, Nat.le_refl, Int.toNat_natCast, Int.ofNat_lt, Int.natCast_nonneg, decide_eq_true_eq, decide_eq_false_iff_not, bne_iff_ne, ne_eq]; try dsimp only [Kd.T, Kds.T, AK.T, AKs.T])
      refine AM.imp2 (by cbv) (by cbv) ?_ ?_ (ih (i + 1) (by omega) (by omega))
      · (simp only [sxs, sxb, and_self, and_true, true_and, implies_true, imp_self, bne_eq_false_iff_eq, Nat.zero_add, Nat.le_refl, Int.toNat_natCast, Int.ofNat_lt, Int.natCast_nonneg, decide_eq_true_eq, decide_eq_false_iff_not, bne_iff_ne, ne_eq]; try dsimp only [Kd.T, Kds.T, AK.T, AKs.T])
        rw [w64s (by omega)]
      · (simp only [sxs, sxb, and_self, and_true, true_and, implies_true, imp_self, bne_eq_false_iff_eq, Nat.zero_add, Nat.le_refl, Int.toNat_natCast, Int.ofNat_lt, Int.natCast_nonneg, decide_eq_true_eq, decide_eq_false_iff_not, bne_iff_ne, ne_eq]; try dsimp only [Kd.T, Kds.T, AK.T, AKs.T])
    clear ih
    refine AM.run2 hG 100 (by cbv) ?_ ?_
    · (simp only [sxs, sxb, and_self, and_true, true_and, implies_true, imp_self, bne_eq_false_iff_eq, Nat.zero_add, Nat.le_refl, Int.toNat_natCast, Int.ofNat_lt, Int.natCast_nonneg, decide_eq_true_eq, decide_eq_false_iff_not, bne_iff_ne, ne_eq]; try dsimp only [Kd.T, Kds.T, AK.T, AKs.T])
    refine AM.loopI (fun k : Nat => (frame 250 [(5, .ptr 0 0), (6, .ro AskK fun _ => l), (7, .ro ChoiceK fun _ => ch), (9, .ptr 1 0), (11, .ro I64 fun _ => pl), (14, .int .i64 (.t fun _ => nI hN)), (15, .int .i64 (.t fun _ => nI bN)), (20, .int .i64 (.t fun _ => nI k))], [.box 25 [.int .i64 (.t fun _ => 32), .ro CallK fun _ => cs], .box 25 [.int .i64 (.t fun _ => 32), .ro CallK fun _ => lf]])) (fun k => 1 ≤ k ∧ k ≤ 12) (fun k => 12 - k) 1 ⟨by decide, by decide⟩ ?_ ?_ ?_
    · cbv; (simp only [sxs, sxb, and_self, and_true, true_and, implies_true, imp_self, bne_eq_false_iff_eq, Nat.zero_add, Nat.le_refl, Int.toNat_natCast, Int.ofNat_lt, Int.natCast_nonneg, decide_eq_true_eq, decide_eq_false_iff_not, bne_iff_ne, ne_eq]; try dsimp only [Kd.T, Kds.T, AK.T, AKs.T]); all_goals ((repeat' apply And.intro) <;> first | rfl | assumption | exact trivial)
    · cbv; (simp only [sxs, sxb, and_self, and_true, true_and, implies_true, imp_self, bne_eq_false_iff_eq, Nat.zero_add, Nat.le_refl, Int.toNat_natCast, Int.ofNat_lt, Int.natCast_nonneg, decide_eq_true_eq, decide_eq_false_iff_not, bne_iff_ne, ne_eq]; try dsimp only [Kd.T, Kds.T, AK.T, AKs.T]); all_goals ((repeat' apply And.intro) <;> first | rfl | assumption | exact trivial)
    rintro k ⟨hk1, hk⟩ ih
    refine AM.run2 hG 100 (by cbv) ?_ ?_
    · (simp only [sxs, sxb, and_self, and_true, true_and, implies_true, imp_self, bne_eq_false_iff_eq, Nat.zero_add, Nat.le_refl, Int.toNat_natCast, Int.ofNat_lt, Int.natCast_nonneg, decide_eq_true_eq, decide_eq_false_iff_not, bne_iff_ne, ne_eq]; try dsimp only [Kd.T, Kds.T, AK.T, AKs.T])
    refine AM.case 152 rfl (fun h3 => ?_) (fun h3 => ?_) <;> (simp only [sxs, sxb, and_self, and_true, true_and, implies_true, imp_self, bne_eq_false_iff_eq, Nat.zero_add, Nat.le_refl, Int.toNat_natCast, Int.ofNat_lt, Int.natCast_nonneg, decide_eq_true_eq, decide_eq_false_iff_not, bne_iff_ne, ne_eq] at h3; try dsimp only [Kd.T, Kds.T, AK.T, AKs.T] at h3)
    · have hw : IntKind.i64.wrap ((k : Int) - 1) = ((k - 1 : Nat) : Int) := by rw [w64 (by omega) (by omega)]; omega
      have hdk := hPd (k - 1) (by omega)
      rw [show k - 1 + 1 = k by omega] at hdk
      refine AM.run2 hG 100 (by cbv) ?_ ?_
      · (simp only [sxs, sxb, and_self, and_true, true_and, implies_true, imp_self, bne_eq_false_iff_eq, Nat.zero_add, Nat.le_refl, Int.toNat_natCast, Int.ofNat_lt, Int.natCast_nonneg, decide_eq_true_eq, decide_eq_false_iff_not, bne_iff_ne, ne_eq]; try dsimp only [Kd.T, Kds.T, AK.T, AKs.T])
        rw [hw, Int.toNat_natCast]
        exact ⟨by omega, by omega, ⟨by omega, by omega⟩, by omega⟩
      refine AM.sure 164 false rfl (by (simp only [sxs, sxb, and_self, and_true, true_and, implies_true, imp_self, bne_eq_false_iff_eq, Nat.zero_add, Nat.le_refl, Int.toNat_natCast, Int.ofNat_lt, Int.natCast_nonneg, decide_eq_true_eq, decide_eq_false_iff_not, bne_iff_ne, ne_eq]; try dsimp only [Kd.T, Kds.T, AK.T, AKs.T]); rw [hw, Int.toNat_natCast]; omega) ?_
      refine AM.run2 hG 100 (by cbv) ?_ ?_
      · (simp only [sxs, sxb, and_self, and_true, true_and, implies_true, imp_self, bne_eq_false_iff_eq, Nat.zero_add, Nat.le_refl, Int.toNat_natCast, Int.ofNat_lt, Int.natCast_nonneg, decide_eq_true_eq, decide_eq_false_iff_not, bne_iff_ne, ne_eq]; try dsimp only [Kd.T, Kds.T, AK.T, AKs.T])
      refine AM.imp2 (by cbv) (by cbv) ?_ ?_ (ih (k + 1) ⟨by omega, by omega⟩ (by omega))
      · (simp only [sxs, sxb, and_self, and_true, true_and, implies_true, imp_self, bne_eq_false_iff_eq, Nat.zero_add, Nat.le_refl, Int.toNat_natCast, Int.ofNat_lt, Int.natCast_nonneg, decide_eq_true_eq, decide_eq_false_iff_not, bne_iff_ne, ne_eq]; try dsimp only [Kd.T, Kds.T, AK.T, AKs.T])
        rw [w64s (by omega)]
      · (simp only [sxs, sxb, and_self, and_true, true_and, implies_true, imp_self, bne_eq_false_iff_eq, Nat.zero_add, Nat.le_refl, Int.toNat_natCast, Int.ofNat_lt, Int.natCast_nonneg, decide_eq_true_eq, decide_eq_false_iff_not, bne_iff_ne, ne_eq]; try dsimp only [Kd.T, Kds.T, AK.T, AKs.T])
    clear ih
    refine AM.run2 hG 100 (by cbv) ?_ ?_
    · (simp only [sxs, sxb, and_self, and_true, true_and, implies_true, imp_self, bne_eq_false_iff_eq, Nat.zero_add, Nat.le_refl, Int.toNat_natCast, Int.ofNat_lt, Int.natCast_nonneg, decide_eq_true_eq, decide_eq_false_iff_not, bne_iff_ne, ne_eq]; try dsimp only [Kd.T, Kds.T, AK.T, AKs.T])
    refine AM.loopI (fun z : Nat × Bool => (frame 250 [(5, .ptr 0 0), (6, .ro AskK fun _ => l), (7, .ro ChoiceK fun _ => ch), (9, .ptr 1 0), (11, .ro I64 fun _ => pl), (14, .int .i64 (.t fun _ => nI hN)), (15, .int .i64 (.t fun _ => nI bN)), (21, .bool (.t fun _ => z.2)), (22, .int .i64 (.t fun _ => nI z.1))], [.box 25 [.int .i64 (.t fun _ => 32), .ro CallK fun _ => cs], .box 25 [.int .i64 (.t fun _ => 32), .ro CallK fun _ => lf]])) (fun z => z.1 ≤ l.length ∧ z.2 = (l.take z.1).any ableB) (fun z => l.length - z.1) (0, false) ⟨Nat.zero_le _, rfl⟩ ?_ ?_ ?_
    · cbv; (simp only [sxs, sxb, and_self, and_true, true_and, implies_true, imp_self, bne_eq_false_iff_eq, Nat.zero_add, Nat.le_refl, Int.toNat_natCast, Int.ofNat_lt, Int.natCast_nonneg, decide_eq_true_eq, decide_eq_false_iff_not, bne_iff_ne, ne_eq]; try dsimp only [Kd.T, Kds.T, AK.T, AKs.T]); all_goals ((repeat' apply And.intro) <;> first | rfl | assumption | exact trivial)
    · cbv; (simp only [sxs, sxb, and_self, and_true, true_and, implies_true, imp_self, bne_eq_false_iff_eq, Nat.zero_add, Nat.le_refl, Int.toNat_natCast, Int.ofNat_lt, Int.natCast_nonneg, decide_eq_true_eq, decide_eq_false_iff_not, bne_iff_ne, ne_eq]; try dsimp only [Kd.T, Kds.T, AK.T, AKs.T]); all_goals ((repeat' apply And.intro) <;> first | rfl | assumption | exact trivial)
    rintro ⟨k, b⟩ ⟨hk, hb⟩ ih
    simp only at hk hb
    refine AM.run2 hG 100 (by cbv) ?_ ?_
    · (simp only [sxs, sxb, and_self, and_true, true_and, implies_true, imp_self, bne_eq_false_iff_eq, Nat.zero_add, Nat.le_refl, Int.toNat_natCast, Int.ofNat_lt, Int.natCast_nonneg, decide_eq_true_eq, decide_eq_false_iff_not, bne_iff_ne, ne_eq]; try dsimp only [Kd.T, Kds.T, AK.T, AKs.T])
    refine AM.case 168 rfl (fun h4 => ?_) (fun h4 => ?_) <;> (simp only [sxs, sxb, and_self, and_true, true_and, implies_true, imp_self, bne_eq_false_iff_eq, Nat.zero_add, Nat.le_refl, Int.toNat_natCast, Int.ofNat_lt, Int.natCast_nonneg, decide_eq_true_eq, decide_eq_false_iff_not, bne_iff_ne, ne_eq] at h4; try dsimp only [Kd.T, Kds.T, AK.T, AKs.T] at h4)
    · refine AM.run2 hG 100 (by cbv) ?_ ?_
      · (simp only [sxs, sxb, and_self, and_true, true_and, implies_true, imp_self, bne_eq_false_iff_eq, Nat.zero_add, Nat.le_refl, Int.toNat_natCast, Int.ofNat_lt, Int.natCast_nonneg, decide_eq_true_eq, decide_eq_false_iff_not, bne_iff_ne, ne_eq]; try dsimp only [Kd.T, Kds.T, AK.T, AKs.T])
        (repeat' first | apply And.intro | intro _) <;> exact h4
      refine AM.imp2 (by cbv) (by cbv) ?_ ?_ (ih (k + 1, b || ableB (l.getD k zA)) ⟨by simp only; omega, by simp only; rw [able_step h4, hb]⟩ (by simp only; omega))
      · have e1 : IntKind.i64.wrap ((k : Int) + 1) = ((k + 1 : Nat) : Int) := w64s (by omega)
        (simp only [sxs, sxb, and_self, and_true, true_and, implies_true, imp_self, bne_eq_false_iff_eq, Nat.zero_add, Nat.le_refl, Int.toNat_natCast, Int.ofNat_lt, Int.natCast_nonneg, decide_eq_true_eq, decide_eq_false_iff_not, bne_iff_ne, ne_eq]; try dsimp only [Kd.T, Kds.T, AK.T, AKs.T])
        refine ⟨?_, e1⟩
        show (decide (b = true) || (decide ((l.getD k zA).2.1 = 0) && leI (l.getD k zA).2.2.2.2.2.1 (l.getD k zA).2.2.2.2.2.2.1)) = (b || ableB (l.getD k zA))
        generalize l.getD k zA = a
        rw [ableB]
        cases b <;> by_cases q : a.2.1 = 0 <;> simp [eqI, q]
      · (simp only [sxs, sxb, and_self, and_true, true_and, implies_true, imp_self, bne_eq_false_iff_eq, Nat.zero_add, Nat.le_refl, Int.toNat_natCast, Int.ofNat_lt, Int.natCast_nonneg, decide_eq_true_eq, decide_eq_false_iff_not, bne_iff_ne, ne_eq]; try dsimp only [Kd.T, Kds.T, AK.T, AKs.T])
    clear ih
    rw [List.take_of_length_le (by omega)] at hb
    refine AM.run2 hG 100 (by cbv) ?_ ?_
    · (simp only [sxs, sxb, and_self, and_true, true_and, implies_true, imp_self, bne_eq_false_iff_eq, Nat.zero_add, Nat.le_refl, Int.toNat_natCast, Int.ofNat_lt, Int.natCast_nonneg, decide_eq_true_eq, decide_eq_false_iff_not, bne_iff_ne, ne_eq]; try dsimp only [Kd.T, Kds.T, AK.T, AKs.T])
      exact ⟨fun _ => by decide, fun _ => by omega, fun _ => ⟨by decide, by omega⟩⟩
    refine AM.case 206 rfl (fun h5 => ?_) (fun h5 => ?_) <;> (simp only [sxs, sxb, and_self, and_true, true_and, implies_true, imp_self, bne_eq_false_iff_eq, Nat.zero_add, Nat.le_refl, Int.toNat_natCast, Int.ofNat_lt, Int.natCast_nonneg, decide_eq_true_eq, decide_eq_false_iff_not, bne_iff_ne, ne_eq] at h5; try dsimp only [Kd.T, Kds.T, AK.T, AKs.T] at h5)
    · refine AM.run2 hG 100 (by cbv) ?_ ?_
      · (simp only [sxs, sxb, and_self, and_true, true_and, implies_true, imp_self, bne_eq_false_iff_eq, Nat.zero_add, Nat.le_refl, Int.toNat_natCast, Int.ofNat_lt, Int.natCast_nonneg, decide_eq_true_eq, decide_eq_false_iff_not, bne_iff_ne, ne_eq]; try dsimp only [Kd.T, Kds.T, AK.T, AKs.T])
      refine AM.ret2 hG (by cbv) (by (simp only [sxs, sxb, and_self, and_true, true_and, implies_true, imp_self, bne_eq_false_iff_eq, Nat.zero_add, Nat.le_refl, Int.toNat_natCast, Int.ofNat_lt, Int.natCast_nonneg, decide_eq_true_eq, decide_eq_false_iff_not, bne_iff_ne, ne_eq]; try dsimp only [Kd.T, Kds.T, AK.T, AKs.T])) (hQ _ _ (FinRo.of (by cbv) (by cbv) ?_ ?_))
      · (simp only [sxs, sxb, and_self, and_true, true_and, implies_true, imp_self, bne_eq_false_iff_eq, Nat.zero_add, Nat.le_refl, Int.toNat_natCast, Int.ofNat_lt, Int.natCast_nonneg, decide_eq_true_eq, decide_eq_false_iff_not, bne_iff_ne, ne_eq]; try dsimp only [Kd.T, Kds.T, AK.T, AKs.T])
      exact ⟨rfl⟩
    have h6 : b = true ∧ (l.getD 0 zA).2.2.1.tmod 2 ≠ 1 ∧ bN ≠ 0 := by
      refine ⟨?_, fun q => h5.1 (.inr q), fun q => h5.2 (by rw [q]; rfl)⟩
      cases b
      · exact absurd (.inl rfl) h5.1
      · rfl
    obtain ⟨q1, q2, q3⟩ := h6
    rw [hb, List.any_eq_true] at q1
    obtain ⟨a, ha, hab⟩ := q1
    obtain ⟨m, hm, hma⟩ := List.getElem_of_mem ha
    have hmd : l.getD m zA = a := by rw [List.getD_eq_getElem?_getD, List.getElem?_eq_getElem hm, hma]; rfl
    rw [← hmd] at hab
    have hable := ableB_t hab
    have hsm := hT.same m hm
    have htr : (l.getD m zA).2.2.1.tmod 2 = 0 := by
      have hr := (hT.range _ (getA_mem hm)).2.2.1
      rw [← hsm.1] at q2
      rw [Int.tmod_eq_emod_of_nonneg hr.1] at q2 ⊢
      omega
    have hrng := hT.range _ (getA_mem (show 0 < l.length by omega))
    have hU := uR_ok (now := (l.getD 0 zA).2.2.2.1) (cy := (l.getD 0 zA).2.2.2.2.1) hE (by have := hrng.2.2.2.1; omega) (by have := hrng.2.2.2.1; omega) hrng.2.2.2.2.1
    simp only at hU
    obtain ⟨U, hUU⟩ : ∃ U, cs.filter (urgentP (l.getD 0 zA).2.2.2.1 (l.getD 0 zA).2.2.2.2.1) = U := ⟨_, rfl⟩
    rw [hUU] at hU
    have hUg : ∀ u us, U = u :: us → goesB ch u = true := fun u us hu => hurg m hm hable htr u us (by rw [hsm.2.1, hsm.2.2, hUU, hu])
    have hbp : 0 < (cs.filter hallB).length := by omega
    obtain ⟨x0, hx0⟩ : ∃ x, x ∈ cs.filter hallB := ⟨_, List.getElem_mem hbp⟩
    rw [List.mem_filter] at hx0
    obtain ⟨y, hy1, hy2, hy3⟩ := hhal m hm hable htr x0 hx0.1 hx0.2
    have hlt : hN < bN := by
      rw [← hhN, ← hbN]
      exact less_filter hy1 hy2 (by rw [hpx, hy3]; rfl)
    refine AM.runTo2 hG 221 200 (by cbv) ?_ ?_
    · (simp only [sxs, sxb, and_self, and_true, true_and, implies_true, imp_self, bne_eq_false_iff_eq, Nat.zero_add, Nat.le_refl, Int.toNat_natCast, Int.ofNat_lt, Int.natCast_nonneg, decide_eq_true_eq, decide_eq_false_iff_not, bne_iff_ne, ne_eq]; try dsimp only [Kd.T, Kds.T, AK.T, AKs.T])
      exact ⟨⟨by decide, by omega⟩, by omega, ⟨by decide, by omega⟩, by omega, by omega⟩
    refine AM.imp2 (fr' := frame 250 [(5, .ptr 0 0), (6, .ro AskK fun _ => l), (7, .ro ChoiceK fun _ => ch), (9, .ptr 1 0), (11, .ro I64 fun _ => pl), (14, .int .i64 (.t fun _ => nI hN)), (15, .int .i64 (.t fun _ => nI bN)), (23, .ro CallK fun _ => U), (8, .int .i64 (.l 0))]) (h' := [.box 25 [.int .i64 (.t fun _ => 32), .ro CallK fun _ => cs], .box 25 [.int .i64 (.t fun _ => 32), .ro CallK fun _ => lf]]) (by cbv) (by cbv) ?_ ?_ ?_
    · (simp only [sxs, sxb, and_self, and_true, true_and, implies_true, imp_self, bne_eq_false_iff_eq, Nat.zero_add, Nat.le_refl, Int.toNat_natCast, Int.ofNat_lt, Int.natCast_nonneg, decide_eq_true_eq, decide_eq_false_iff_not, bne_iff_ne, ne_eq]; try dsimp only [Kd.T, Kds.T, AK.T, AKs.T])
      exact ⟨congrArg (fun z : List Call × Int => z.2) hU, congrArg (fun z : List Call × Int => z.1) hU⟩
    · (simp only [sxs, sxb, and_self, and_true, true_and, implies_true, imp_self, bne_eq_false_iff_eq, Nat.zero_add, Nat.le_refl, Int.toNat_natCast, Int.ofNat_lt, Int.natCast_nonneg, decide_eq_true_eq, decide_eq_false_iff_not, bne_iff_ne, ne_eq]; try dsimp only [Kd.T, Kds.T, AK.T, AKs.T])
    refine AM.run2 hG 200 (by cbv) ?_ ?_
    · (simp only [sxs, sxb, and_self, and_true, true_and, implies_true, imp_self, bne_eq_false_iff_eq, Nat.zero_add, Nat.le_refl, Int.toNat_natCast, Int.ofNat_lt, Int.natCast_nonneg, decide_eq_true_eq, decide_eq_false_iff_not, bne_iff_ne, ne_eq]; try dsimp only [Kd.T, Kds.T, AK.T, AKs.T])
    refine AM.loopI (fun j : Nat => (frame 250 [(5, .ptr 0 0), (6, .ro AskK fun _ => l), (7, .ro ChoiceK fun _ => ch), (9, .ptr 1 0), (11, .ro I64 fun _ => pl), (14, .int .i64 (.t fun _ => nI hN)), (15, .int .i64 (.t fun _ => nI bN)), (23, .ro CallK fun _ => U), (24, .int .i64 (.t fun _ => nI j))], [.box 25 [.int .i64 (.t fun _ => 32), .ro CallK fun _ => cs], .box 25 [.int .i64 (.t fun _ => 32), .ro CallK fun _ => lf]])) (fun j => j ≤ lf.length) (fun j => lf.length - j) 0 (Nat.zero_le _) ?_ ?_ ?_
    · cbv; (simp only [sxs, sxb, and_self, and_true, true_and, implies_true, imp_self, bne_eq_false_iff_eq, Nat.zero_add, Nat.le_refl, Int.toNat_natCast, Int.ofNat_lt, Int.natCast_nonneg, decide_eq_true_eq, decide_eq_false_iff_not, bne_iff_ne, ne_eq]; try dsimp only [Kd.T, Kds.T, AK.T, AKs.T]); all_goals ((repeat' apply And.intro) <;> first | rfl | assumption | exact trivial)
    · cbv; (simp only [sxs, sxb, and_self, and_true, true_and, implies_true, imp_self, bne_eq_false_iff_eq, Nat.zero_add, Nat.le_refl, Int.toNat_natCast, Int.ofNat_lt, Int.natCast_nonneg, decide_eq_true_eq, decide_eq_false_iff_not, bne_iff_ne, ne_eq]; try dsimp only [Kd.T, Kds.T, AK.T, AKs.T]); all_goals ((repeat' apply And.intro) <;> first | rfl | assumption | exact trivial)
    rintro j hj ih
    refine AM.run2 hG 100 (by cbv) ?_ ?_
    · (simp only [sxs, sxb, and_self, and_true, true_and, implies_true, imp_self, bne_eq_false_iff_eq, Nat.zero_add, Nat.le_refl, Int.toNat_natCast, Int.ofNat_lt, Int.natCast_nonneg, decide_eq_true_eq, decide_eq_false_iff_not, bne_iff_ne, ne_eq]; try dsimp only [Kd.T, Kds.T, AK.T, AKs.T])
    refine AM.case 232 rfl (fun h7 => ?_) (fun h7 => ?_) <;> (simp only [sxs, sxb, and_self, and_true, true_and, implies_true, imp_self, bne_eq_false_iff_eq, Nat.zero_add, Nat.le_refl, Int.toNat_natCast, Int.ofNat_lt, Int.natCast_nonneg, decide_eq_true_eq, decide_eq_false_iff_not, bne_iff_ne, ne_eq] at h7; try dsimp only [Kd.T, Kds.T, AK.T, AKs.T] at h7)
    · obtain ⟨h7, h8⟩ := h7
      have hne : lf.getD j zc ≠ U.getD 0 zc := by
        cases hUc : U with
        | nil => rw [hUc] at h8; simp at h8
        | cons u us =>
          intro e
          have := hUg u us hUc
          rw [List.getD_cons_zero] at e
          rw [← e, (hlfin j h7).2] at this
          cases this
      refine AM.run2 hG 100 (by cbv) ?_ ?_
      · (simp only [sxs, sxb, and_self, and_true, true_and, implies_true, imp_self, bne_eq_false_iff_eq, Nat.zero_add, Nat.le_refl, Int.toNat_natCast, Int.ofNat_lt, Int.natCast_nonneg, decide_eq_true_eq, decide_eq_false_iff_not, bne_iff_ne, ne_eq]; try dsimp only [Kd.T, Kds.T, AK.T, AKs.T])
        exact ⟨h7, h7, ⟨by decide, h8⟩, by omega⟩
      refine AM.sure 243 false rfl (by (simp only [sxs, sxb, and_self, and_true, true_and, implies_true, imp_self, bne_eq_false_iff_eq, Nat.zero_add, Nat.le_refl, Int.toNat_natCast, Int.ofNat_lt, Int.natCast_nonneg, decide_eq_true_eq, decide_eq_false_iff_not, bne_iff_ne, ne_eq]; try dsimp only [Kd.T, Kds.T, AK.T, AKs.T]); exact (eqsC (lf.getD j zc) (U.getD 0 zc)).trans (decide_eq_false hne)) ?_
      refine AM.run2 hG 100 (by cbv) ?_ ?_
      · (simp only [sxs, sxb, and_self, and_true, true_and, implies_true, imp_self, bne_eq_false_iff_eq, Nat.zero_add, Nat.le_refl, Int.toNat_natCast, Int.ofNat_lt, Int.natCast_nonneg, decide_eq_true_eq, decide_eq_false_iff_not, bne_iff_ne, ne_eq]; try dsimp only [Kd.T, Kds.T, AK.T, AKs.T])
      refine AM.imp2 (by cbv) (by cbv) ?_ ?_ (ih (j + 1) (by omega) (by omega))
      · (simp only [sxs, sxb, and_self, and_true, true_and, implies_true, imp_self, bne_eq_false_iff_eq, Nat.zero_add, Nat.le_refl, Int.toNat_natCast, Int.ofNat_lt, Int.natCast_nonneg, decide_eq_true_eq, decide_eq_false_iff_not, bne_iff_ne, ne_eq]; try dsimp only [Kd.T, Kds.T, AK.T, AKs.T])
        rw [w64s (by omega)]
      · (simp only [sxs, sxb, and_self, and_true, true_and, implies_true, imp_self, bne_eq_false_iff_eq, Nat.zero_add, Nat.le_refl, Int.toNat_natCast, Int.ofNat_lt, Int.natCast_nonneg, decide_eq_true_eq, decide_eq_false_iff_not, bne_iff_ne, ne_eq]; try dsimp only [Kd.T, Kds.T, AK.T, AKs.T])
    clear ih
    refine AM.run2 hG 100 (by cbv) ?_ ?_
    · (simp only [sxs, sxb, and_self, and_true, true_and, implies_true, imp_self, bne_eq_false_iff_eq, Nat.zero_add, Nat.le_refl, Int.toNat_natCast, Int.ofNat_lt, Int.natCast_nonneg, decide_eq_true_eq, decide_eq_false_iff_not, bne_iff_ne, ne_eq]; try dsimp only [Kd.T, Kds.T, AK.T, AKs.T])
    refine AM.ret2 hG (by cbv) (by (simp only [sxs, sxb, and_self, and_true, true_and, implies_true, imp_self, bne_eq_false_iff_eq, Nat.zero_add, Nat.le_refl, Int.toNat_natCast, Int.ofNat_lt, Int.natCast_nonneg, decide_eq_true_eq, decide_eq_false_iff_not, bne_iff_ne, ne_eq]; try dsimp only [Kd.T, Kds.T, AK.T, AKs.T])) (hQ _ _ (FinRo.of (by cbv) (by cbv) ?_ ?_))
    · (simp only [sxs, sxb, and_self, and_true, true_and, implies_true, imp_self, bne_eq_false_iff_eq, Nat.zero_add, Nat.le_refl, Int.toNat_natCast, Int.ofNat_lt, Int.natCast_nonneg, decide_eq_true_eq, decide_eq_false_iff_not, bne_iff_ne, ne_eq]; try dsimp only [Kd.T, Kds.T, AK.T, AKs.T])
    refine ⟨?_⟩
    (simp only [sxs, sxb, and_self, and_true, true_and, implies_true, imp_self, bne_eq_false_iff_eq, Nat.zero_add, Nat.le_refl, Int.toNat_natCast, Int.ofNat_lt, Int.natCast_nonneg, decide_eq_true_eq, decide_eq_false_iff_not, bne_iff_ne, ne_eq]; try dsimp only [Kd.T, Kds.T, AK.T, AKs.T])
    exact hlt
end Go.Sx.Ytaijdhocmjnopaa
