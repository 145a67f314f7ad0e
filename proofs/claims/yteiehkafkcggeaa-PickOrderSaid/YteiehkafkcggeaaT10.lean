/- Choices: Order of the reference. -/
import Derived.Test.YteiehkafkcggeaaT9
namespace Go.Sx.Yteiehkafkcggeaa
open Go Go.Sx Go.Proofs
set_option linter.unusedVariables false
set_option linter.unusedSimpArgs false
set_option maxRecDepth 100000

def keysOk (l : List Call) : Prop := l.Pairwise fun a b => sameB a b = false
theorem tabFrom_zero {l : List Call} : ∀ {n i : Nat}, (tabFrom l n i).1 = 0 → ∀ j, i ≤ j → j < i + n → checkAt l j = 0
  | 0, i, h, j, h1, h2 => by omega
  | n + 1, i, h, j, h1, h2 => by
    rw [tabFrom] at h
    split at h
    · rename_i hc; exact absurd h hc
    · rename_i hc
      by_cases e : j = i
      · subst e; simpa using hc
      · exact tabFrom_zero h j (by omega) (by omega)
theorem checkAt_zero {l : List Call} {i : Nat} (h : checkAt l i = 0) : callErr (l.getD i zc) = 0 ∧ ¬ (0 < i ∧ (l.getD i zc).2.2.2.1 < (l.getD (i - 1) zc).2.2.2.1) ∧ hasB (l.take i) (l.getD i zc) = false := by
  rw [checkAt] at h
  split at h
  · rename_i hc; exact absurd h hc
  · rename_i hc
    split at h
    · cases h
    · rename_i h2
      split at h
      · cases h
      · rename_i h3
        exact ⟨by simpa using hc, h2, by simpa using h3⟩
theorem tab_ok {t : Table} (h : (tabCheck t).1 = 0) : 1 ≤ t.1 ∧ t.1 ≤ 32 ∧ (t.2.1.length : Int) ≤ t.1 ∧ ∀ j, j < t.2.1.length → checkAt t.2.1 j = 0 := by
  rw [tabCheck] at h
  split at h
  · cases h
  · split at h
    · cases h
    · exact ⟨by omega, by omega, by omega, fun j hj => tabFrom_zero h j (by omega) (by omega)⟩
theorem tab_keys {t : Table} (h : (tabCheck t).1 = 0) : keysOk t.2.1 := by
  obtain ⟨_, _, _, h4⟩ := tab_ok h
  rw [keysOk, List.pairwise_iff_getElem]
  intro i j hi hj hij
  have := (checkAt_zero (h4 j hj)).2.2
  rw [hasB, List.any_eq_false] at this
  have := this (t.2.1.getD i zc) (by
    rw [List.getD_eq_getElem?_getD, List.getElem?_eq_getElem hi, Option.getD_some, List.mem_iff_getElem]
    exact ⟨i, by rw [List.length_take]; omega, by rw [List.getElem_take]⟩)
  rw [List.getD_eq_getElem?_getD, List.getElem?_eq_getElem hi, List.getD_eq_getElem?_getD, List.getElem?_eq_getElem hj] at this
  simpa using this
theorem sameB_refl (c : Call) : sameB c c = true := by simp [sameB]
theorem filter_keys {l : List Call} {c : Call} (hk : keysOk l) (hc : c ∈ l) : (l.filter fun x => !decide (x = c)) = l.filter fun x => !sameB x c := by
  refine List.filter_congr fun x hx => ?_
  by_cases e : x = c
  · subst e; simp [sameB_refl]
  · have : sameB x c = false := by
      obtain ⟨i, hi, rfl⟩ := List.mem_iff_getElem.1 hx
      obtain ⟨j, hj, rfl⟩ := List.mem_iff_getElem.1 hc
      rw [keysOk, List.pairwise_iff_getElem] at hk
      rcases Nat.lt_trichotomy i j with h | h | h
      · exact hk i j hi hj h
      · subst h; exact absurd rfl e
      · rw [sameB_comm]; exact hk j i hj hi h
    simp [e, this]
def S44 : List AV → Option FOut := sigSpec [TableK, AskK] [CallsK, I64] (fun x : Table × Ask × Unit => ((orderR x.1 x.2.1).1, (orderR x.1 x.2.1).2, ())) (fun x : Table × Ask × Unit => x.1.2.1.length ≤ 1000000 ∧ (askL x.2.1).length ≤ 1000000)
theorem fn44 : FnOk Try.prog 44 S44 := by
  refine fn_ofB (rs := [.tmp 4, .tmp 5]) (env [(94, S94), (95, S95)] ⟨fn94, fn95, trivial⟩) Try.func44 (by kernel_rfl) rfl rfl Try.ntmps44 ?_
  rintro ⟨⟨(cap : Int), (l0 : List Call), u⟩, ⟨(a1 : Int), (a2 : Int), (a3 : Int), (a4 : Int), (a5 : Int), (a6 : Int), (a7 : Int), (a8 : Int), (a9 : Int), (gone : List Call), u1⟩, u3⟩ ⟨hl, hg⟩ G hG hB hQ
  obtain ⟨av, hav⟩ : ∃ av : Ask, av = (a1, a2, a3, a4, a5, a6, a7, a8, a9, gone, u1) := ⟨_, rfl⟩
  have hB := GB.of hB
  simp only at hl hg
  refine AM.run2 hG 100 (by cbv) ?_ ?_
  · (simp only [sxs, sxb, and_self, and_true, true_and, implies_true, imp_self, bne_eq_false_iff_eq, Nat.zero_add, Nat.le_refl, Int.toNat_natCast, Int.ofNat_lt, Int.natCast_nonneg, decide_eq_true_eq, decide_eq_false_iff_not, bne_iff_ne, ne_eq]; try dsimp only [Kd.T, Kds.T, AK.T, AKs.T])
  refine AM.case 17 rfl (fun h => ?_) (fun h => ?_) <;> (simp only [sxs, sxb, and_self, and_true, true_and, implies_true, imp_self, bne_eq_false_iff_eq, Nat.zero_add, Nat.le_refl, Int.toNat_natCast, Int.ofNat_lt, Int.natCast_nonneg, decide_eq_true_eq, decide_eq_false_iff_not, bne_iff_ne, ne_eq] at h; try dsimp only [Kd.T, Kds.T, AK.T, AKs.T] at h)
  · replace h : ¬ asksE (cap, l0, u) (a1, a2, a3, a4, a5, a6, a7, a8, a9, gone, u1) = 0 := h
    refine AM.run2 hG 100 (by cbv) (by (simp only [sxs, sxb, and_self, and_true, true_and, implies_true, imp_self, bne_eq_false_iff_eq, Nat.zero_add, Nat.le_refl, Int.toNat_natCast, Int.ofNat_lt, Int.natCast_nonneg, decide_eq_true_eq, decide_eq_false_iff_not, bne_iff_ne, ne_eq]; try dsimp only [Kd.T, Kds.T, AK.T, AKs.T])) ?_
    refine AM.ret2 hG (by cbv) (by (simp only [sxs, sxb, and_self, and_true, true_and, implies_true, imp_self, bne_eq_false_iff_eq, Nat.zero_add, Nat.le_refl, Int.toNat_natCast, Int.ofNat_lt, Int.natCast_nonneg, decide_eq_true_eq, decide_eq_false_iff_not, bne_iff_ne, ne_eq]; try dsimp only [Kd.T, Kds.T, AK.T, AKs.T])) (hQ _ _ (FinRo.of (by cbv) (by cbv) ?_ ?_))
    · (simp only [sxs, sxb, and_self, and_true, true_and, implies_true, imp_self, bne_eq_false_iff_eq, Nat.zero_add, Nat.le_refl, Int.toNat_natCast, Int.ofNat_lt, Int.natCast_nonneg, decide_eq_true_eq, decide_eq_false_iff_not, bne_iff_ne, ne_eq]; try dsimp only [Kd.T, Kds.T, AK.T, AKs.T])
    try (simp only [sxs, sxb, and_self, and_true, true_and, implies_true, imp_self, bne_eq_false_iff_eq, Nat.zero_add, Nat.le_refl, Int.toNat_natCast, Int.ofNat_lt, Int.natCast_nonneg, decide_eq_true_eq, decide_eq_false_iff_not, bne_iff_ne, ne_eq]; try dsimp only [Kd.T, Kds.T, AK.T, AKs.T])
    rw [orderR, if_pos h]
    all_goals ((repeat' apply And.intro) <;> first | rfl | assumption | exact trivial)
  replace h : asksE (cap, l0, u) (a1, a2, a3, a4, a5, a6, a7, a8, a9, gone, u1) = 0 := h
  have hk0 := tab_keys (asks_ok h).1
  simp only at hk0
  have hs : orderR (cap, l0, u) av = (orderGo av l0.length l0, 0) := by rw [orderR, hav, if_neg (by simpa using h)]
  refine AM.run2 hG 100 (by cbv) ?_ ?_
  · (simp only [sxs, sxb, and_self, and_true, true_and, implies_true, imp_self, bne_eq_false_iff_eq, Nat.zero_add, Nat.le_refl, Int.toNat_natCast, Int.ofNat_lt, Int.natCast_nonneg, decide_eq_true_eq, decide_eq_false_iff_not, bne_iff_ne, ne_eq]; try dsimp only [Kd.T, Kds.T, AK.T, AKs.T])
    simp only [maxLen]; omega
  refine AM.emptySlot 8 31 CallK rfl ?_
  refine AM.loopI (fun x : List Call × List Call × Nat => (frame 56 [(2, .ptr 0 0), (3, .ptr 1 0), (7, .sl 3 4 (.l 0) (.t fun _ => x.1.length)), (8, .sl 4 4 (.l 0) (.t fun _ => x.2.1.length))],
    [.box 25 [.int .i64 (.t fun _ => cap), .ro CallK fun _ => l0], .box 27 [.int .i64 (.t fun _ => a1), .int .i64 (.t fun _ => a2), .int .i64 (.t fun _ => a3), .int .i64 (.t fun _ => a4), .int .i64 (.t fun _ => a5), .int .i64 (.t fun _ => a6), .int .i64 (.t fun _ => a7), .int .i64 (.t fun _ => a8), .int .i64 (.t fun _ => a9), .ro CallK fun _ => gone],
     .dead, .row 31 CallK (fun _ => x.1), .row 31 CallK (fun _ => x.2.1)]))
    (fun x => keysOk x.1 ∧ x.1.length ≤ x.2.2 ∧ x.2.1.length + x.1.length ≤ l0.length ∧ x.2.1 ++ orderGo av x.2.2 x.1 = orderGo av l0.length l0) (fun x => x.1.length) (l0, [], l0.length) ⟨hk0, by simp, by simp, rfl⟩ ?_ ?_ ?_
  · cbv; (simp only [sxs, sxb, and_self, and_true, true_and, implies_true, imp_self, bne_eq_false_iff_eq, Nat.zero_add, Nat.le_refl, Int.toNat_natCast, Int.ofNat_lt, Int.natCast_nonneg, decide_eq_true_eq, decide_eq_false_iff_not, bne_iff_ne, ne_eq]; try dsimp only [Kd.T, Kds.T, AK.T, AKs.T])
    try rw [List.take_length]
    try all_goals ((repeat' apply And.intro) <;> first | rfl | assumption | exact trivial)
  · cbv; (simp only [sxs, sxb, and_self, and_true, true_and, implies_true, imp_self, bne_eq_false_iff_eq, Nat.zero_add, Nat.le_refl, Int.toNat_natCast, Int.ofNat_lt, Int.natCast_nonneg, decide_eq_true_eq, decide_eq_false_iff_not, bne_iff_ne, ne_eq]; try dsimp only [Kd.T, Kds.T, AK.T, AKs.T])
    try rw [List.take_length]
    try all_goals ((repeat' apply And.intro) <;> first | rfl | assumption | exact trivial)
  rintro ⟨l, out, n⟩ ⟨hk, hn, hol, hout⟩ ih
  simp only at hk hn hol hout ih
  obtain ⟨c, hc⟩ : ∃ c, (byS l av).1 = c := ⟨_, rfl⟩
  refine AM.run2 hG 100 (by cbv) ?_ ?_
  · (simp only [sxs, sxb, and_self, and_true, true_and, implies_true, imp_self, bne_eq_false_iff_eq, Nat.zero_add, Nat.le_refl, Int.toNat_natCast, Int.ofNat_lt, Int.natCast_nonneg, decide_eq_true_eq, decide_eq_false_iff_not, bne_iff_ne, ne_eq]; try dsimp only [Kd.T, Kds.T, AK.T, AKs.T])
    rw [List.take_length]
    exact ⟨by omega, hg⟩
  refine AM.case 30 rfl (fun h1 => ?_) (fun h1 => ?_) <;> (simp only [sxs, sxb, and_self, and_true, true_and, implies_true, imp_self, bne_eq_false_iff_eq, Nat.zero_add, Nat.le_refl, Int.toNat_natCast, Int.ofNat_lt, Int.natCast_nonneg, decide_eq_true_eq, decide_eq_false_iff_not, bne_iff_ne, ne_eq] at h1; try dsimp only [Kd.T, Kds.T, AK.T, AKs.T] at h1)
  · replace h1 : (byS (l.take l.length) (a1, a2, a3, a4, a5, a6, a7, a8, a9, gone, u1)).2 = false := h1
    rw [List.take_length, ← hav] at h1
    refine AM.run2 hG 100 (by cbv) ?_ ?_
    · (simp only [sxs, sxb, and_self, and_true, true_and, implies_true, imp_self, bne_eq_false_iff_eq, Nat.zero_add, Nat.le_refl, Int.toNat_natCast, Int.ofNat_lt, Int.natCast_nonneg, decide_eq_true_eq, decide_eq_false_iff_not, bne_iff_ne, ne_eq]; try dsimp only [Kd.T, Kds.T, AK.T, AKs.T])
    refine AM.ret2 hG (by cbv) (by (simp only [sxs, sxb, and_self, and_true, true_and, implies_true, imp_self, bne_eq_false_iff_eq, Nat.zero_add, Nat.le_refl, Int.toNat_natCast, Int.ofNat_lt, Int.natCast_nonneg, decide_eq_true_eq, decide_eq_false_iff_not, bne_iff_ne, ne_eq]; try dsimp only [Kd.T, Kds.T, AK.T, AKs.T])) (hQ _ _ (FinRo.of (by cbv) (by cbv) ?_ ?_))
    · (simp only [sxs, sxb, and_self, and_true, true_and, implies_true, imp_self, bne_eq_false_iff_eq, Nat.zero_add, Nat.le_refl, Int.toNat_natCast, Int.ofNat_lt, Int.natCast_nonneg, decide_eq_true_eq, decide_eq_false_iff_not, bne_iff_ne, ne_eq]; try dsimp only [Kd.T, Kds.T, AK.T, AKs.T])
    try (simp only [sxs, sxb, and_self, and_true, true_and, implies_true, imp_self, bne_eq_false_iff_eq, Nat.zero_add, Nat.le_refl, Int.toNat_natCast, Int.ofNat_lt, Int.natCast_nonneg, decide_eq_true_eq, decide_eq_false_iff_not, bne_iff_ne, ne_eq]; try dsimp only [Kd.T, Kds.T, AK.T, AKs.T])
    rw [← hav, hs, ← hout, orderGo_nil av n h1]
    simp
  replace h1 : (byS (l.take l.length) (a1, a2, a3, a4, a5, a6, a7, a8, a9, gone, u1)).2 = true := h1
  rw [List.take_length, ← hav] at h1
  have hstep := orderGo_step av hn h1
  have hmem := byS_mem h1
  have hless := filter_less hmem
  have hfk := filter_keys hk hmem
  rw [hc] at hstep hmem hless hfk
  rw [hstep] at hout
  refine AM.run2 hG 100 (by cbv) ?_ ?_
  · (simp only [sxs, sxb, and_self, and_true, true_and, implies_true, imp_self, bne_eq_false_iff_eq, Nat.zero_add, Nat.le_refl, Int.toNat_natCast, Int.ofNat_lt, Int.natCast_nonneg, decide_eq_true_eq, decide_eq_false_iff_not, bne_iff_ne, ne_eq]; try dsimp only [Kd.T, Kds.T, AK.T, AKs.T])
    simp only [maxLen, List.length_take, List.length_cons, List.length_nil]
    omega
  refine AM.emptySlot 11 31 CallK rfl ?_
  refine AM.loopI (fun y : List Call × Nat => (frame 56 [(2, .ptr 0 0), (3, .ptr 1 0), (7, .sl 3 4 (.l 0) (.t fun _ => l.length)), (8, .sl 7 4 (.l 0) (.t fun _ => out.length + 1)), (9, .ptr 5 0), (11, .sl 8 4 (.l 0) (.t fun _ => y.1.length)), (12, .int .i64 (.t fun _ => nI y.2))],
    [.box 25 [.int .i64 (.t fun _ => cap), .ro CallK fun _ => l0], .box 27 [.int .i64 (.t fun _ => a1), .int .i64 (.t fun _ => a2), .int .i64 (.t fun _ => a3), .int .i64 (.t fun _ => a4), .int .i64 (.t fun _ => a5), .int .i64 (.t fun _ => a6), .int .i64 (.t fun _ => a7), .int .i64 (.t fun _ => a8), .int .i64 (.t fun _ => a9), .ro CallK fun _ => gone],
     .dead, .row 31 CallK (fun _ => l), .dead, .box 31 (cAtF fun _ => c), .dead, .row 31 CallK (fun _ => out ++ [c]), .row 31 CallK (fun _ => y.1)]))
    (fun y => y.2 ≤ l.length ∧ y.1 = (l.take y.2).filter fun x => !decide (x = c)) (fun y => l.length - y.2) ([], 0) ⟨by simp, by simp⟩ ?_ ?_ ?_
  · cbv; (simp only [sxs, sxb, and_self, and_true, true_and, implies_true, imp_self, bne_eq_false_iff_eq, Nat.zero_add, Nat.le_refl, Int.toNat_natCast, Int.ofNat_lt, Int.natCast_nonneg, decide_eq_true_eq, decide_eq_false_iff_not, bne_iff_ne, ne_eq]; try dsimp only [Kd.T, Kds.T, AK.T, AKs.T])
    simp
  · cbv; (simp only [sxs, sxb, and_self, and_true, true_and, implies_true, imp_self, bne_eq_false_iff_eq, Nat.zero_add, Nat.le_refl, Int.toNat_natCast, Int.ofNat_lt, Int.natCast_nonneg, decide_eq_true_eq, decide_eq_false_iff_not, bne_iff_ne, ne_eq]; try dsimp only [Kd.T, Kds.T, AK.T, AKs.T])
    rw [List.take_length, ← hc]
    subst hav
    all_goals ((repeat' apply And.intro) <;> first | rfl | assumption | exact trivial)
  rintro ⟨rest, i⟩ ⟨hi, hrest⟩ ih1
  simp only at hi hrest ih1
  have hrl : rest.length ≤ i := by rw [hrest]; exact Nat.le_trans (List.length_filter_le _ _) (by rw [List.length_take]; omega)
  refine AM.run2 hG 100 (by cbv) (by (simp only [sxs, sxb, and_self, and_true, true_and, implies_true, imp_self, bne_eq_false_iff_eq, Nat.zero_add, Nat.le_refl, Int.toNat_natCast, Int.ofNat_lt, Int.natCast_nonneg, decide_eq_true_eq, decide_eq_false_iff_not, bne_iff_ne, ne_eq]; try dsimp only [Kd.T, Kds.T, AK.T, AKs.T])) ?_
  refine AM.case 39 rfl (fun e1 => ?_) (fun e1 => ?_) <;> (simp only [sxs, sxb, and_self, and_true, true_and, implies_true, imp_self, bne_eq_false_iff_eq, Nat.zero_add, Nat.le_refl, Int.toNat_natCast, Int.ofNat_lt, Int.natCast_nonneg, decide_eq_true_eq, decide_eq_false_iff_not, bne_iff_ne, ne_eq] at e1; try dsimp only [Kd.T, Kds.T, AK.T, AKs.T] at e1)
  · refine AM.run2 hG 100 (by cbv) ?_ ?_
    · (simp only [sxs, sxb, and_self, and_true, true_and, implies_true, imp_self, bne_eq_false_iff_eq, Nat.zero_add, Nat.le_refl, Int.toNat_natCast, Int.ofNat_lt, Int.natCast_nonneg, decide_eq_true_eq, decide_eq_false_iff_not, bne_iff_ne, ne_eq]; try dsimp only [Kd.T, Kds.T, AK.T, AKs.T])
      omega
    refine AM.case 47 rfl (fun e2 => ?_) (fun e2 => ?_)
    · replace e2 : (!eqK CallK (l.getD i zc) c) = true := e2
      rw [eqK_call, Bool.not_eq_true', decide_eq_false_iff_not] at e2
      refine AM.run2 hG 100 (by cbv) ?_ ?_
      · (simp only [sxs, sxb, and_self, and_true, true_and, implies_true, imp_self, bne_eq_false_iff_eq, Nat.zero_add, Nat.le_refl, Int.toNat_natCast, Int.ofNat_lt, Int.natCast_nonneg, decide_eq_true_eq, decide_eq_false_iff_not, bne_iff_ne, ne_eq]; try dsimp only [Kd.T, Kds.T, AK.T, AKs.T])
        simp only [maxLen, List.length_take, List.length_cons, List.length_nil]
        omega
      obtain ⟨r2, hr2⟩ : ∃ r2, rest ++ [l.getD i zc] = r2 := ⟨_, rfl⟩
      have hr3 : r2 = (l.take (i + 1)).filter fun x => !decide (x = c) := by
        rw [take_succD e1, List.filter_append, ← hrest, ← hr2, List.filter_cons_of_pos (by simp only [decide_eq_false e2, Bool.not_false]), List.filter_nil]
      have hr2l : r2.length = rest.length + 1 := by rw [← hr2]; simp
      refine AM.ren hB [0, 1, 2, 3, 4, 5, 6, 7, 10] (by cbv) (by cbv) (by cbv) ?_ ?_ (ih1 (r2, i + 1) ⟨by simp only; omega, hr3⟩ (by simp only; omega))
      · (simp only [sxs, sxb, and_self, and_true, true_and, implies_true, imp_self, bne_eq_false_iff_eq, Nat.zero_add, Nat.le_refl, Int.toNat_natCast, Int.ofNat_lt, Int.natCast_nonneg, decide_eq_true_eq, decide_eq_false_iff_not, bne_iff_ne, ne_eq]; try dsimp only [Kd.T, Kds.T, AK.T, AKs.T])
        exact ⟨by rw [hr2l]; rfl, w64s (by omega)⟩
      · (simp only [sxs, sxb, and_self, and_true, true_and, implies_true, imp_self, bne_eq_false_iff_eq, Nat.zero_add, Nat.le_refl, Int.toNat_natCast, Int.ofNat_lt, Int.natCast_nonneg, decide_eq_true_eq, decide_eq_false_iff_not, bne_iff_ne, ne_eq]; try dsimp only [Kd.T, Kds.T, AK.T, AKs.T])
        rw [← hr2]
        all_goals ((repeat' apply And.intro) <;> first | rfl | assumption | exact trivial)
    · replace e2 : (!eqK CallK (l.getD i zc) c) = false := e2
      rw [eqK_call, Bool.not_eq_false', decide_eq_true_eq] at e2
      have hr3 : rest = (l.take (i + 1)).filter fun x => !decide (x = c) := by
        rw [take_succD e1, List.filter_append, ← hrest, List.filter_cons_of_neg (by simp only [decide_eq_true e2]; decide), List.filter_nil, List.append_nil]
      refine AM.run2 hG 100 (by cbv) ?_ ?_
      · (simp only [sxs, sxb, and_self, and_true, true_and, implies_true, imp_self, bne_eq_false_iff_eq, Nat.zero_add, Nat.le_refl, Int.toNat_natCast, Int.ofNat_lt, Int.natCast_nonneg, decide_eq_true_eq, decide_eq_false_iff_not, bne_iff_ne, ne_eq]; try dsimp only [Kd.T, Kds.T, AK.T, AKs.T])
      refine AM.imp2 (by cbv) (by cbv) ?_ (by (simp only [sxs, sxb, and_self, and_true, true_and, implies_true, imp_self, bne_eq_false_iff_eq, Nat.zero_add, Nat.le_refl, Int.toNat_natCast, Int.ofNat_lt, Int.natCast_nonneg, decide_eq_true_eq, decide_eq_false_iff_not, bne_iff_ne, ne_eq]; try dsimp only [Kd.T, Kds.T, AK.T, AKs.T])) (ih1 (rest, i + 1) ⟨by simp only; omega, hr3⟩ (by simp only; omega))
      (simp only [sxs, sxb, and_self, and_true, true_and, implies_true, imp_self, bne_eq_false_iff_eq, Nat.zero_add, Nat.le_refl, Int.toNat_natCast, Int.ofNat_lt, Int.natCast_nonneg, decide_eq_true_eq, decide_eq_false_iff_not, bne_iff_ne, ne_eq]; try dsimp only [Kd.T, Kds.T, AK.T, AKs.T])
      exact w64s (by omega)
  rw [List.take_of_length_le (by omega), hfk] at hrest
  have hr1 : rest.length < l.length := by rw [hrest]; exact hless
  rw [← hrest] at hout
  have hout' : (out ++ [c]) ++ orderGo av (n - 1) rest = orderGo av l0.length l0 := by rw [List.append_assoc]; exact hout
  have hk' : keysOk rest := by rw [hrest]; exact hk.filter _
  obtain ⟨out2, ho2⟩ : ∃ out2, out ++ [c] = out2 := ⟨_, rfl⟩
  obtain ⟨n2, hn2⟩ : ∃ n2, n - 1 = n2 := ⟨_, rfl⟩
  have hol2 : out2.length = out.length + 1 := by rw [← ho2]; simp
  rw [ho2, hn2] at hout'
  clear ih1
  refine AM.run2 hG 100 (by cbv) (by (simp only [sxs, sxb, and_self, and_true, true_and, implies_true, imp_self, bne_eq_false_iff_eq, Nat.zero_add, Nat.le_refl, Int.toNat_natCast, Int.ofNat_lt, Int.natCast_nonneg, decide_eq_true_eq, decide_eq_false_iff_not, bne_iff_ne, ne_eq]; try dsimp only [Kd.T, Kds.T, AK.T, AKs.T])) ?_
  refine AM.ren hB [0, 1, 2, 8, 7] (by cbv) (by cbv) (by cbv) ?_ ?_ (ih (rest, out2, n2) ⟨hk', by simp only; omega, by simp only; omega, hout'⟩ hr1)
  · (simp only [sxs, sxb, and_self, and_true, true_and, implies_true, imp_self, bne_eq_false_iff_eq, Nat.zero_add, Nat.le_refl, Int.toNat_natCast, Int.ofNat_lt, Int.natCast_nonneg, decide_eq_true_eq, decide_eq_false_iff_not, bne_iff_ne, ne_eq]; try dsimp only [Kd.T, Kds.T, AK.T, AKs.T])
    exact hol2.symm
  · (simp only [sxs, sxb, and_self, and_true, true_and, implies_true, imp_self, bne_eq_false_iff_eq, Nat.zero_add, Nat.le_refl, Int.toNat_natCast, Int.ofNat_lt, Int.natCast_nonneg, decide_eq_true_eq, decide_eq_false_iff_not, bne_iff_ne, ne_eq]; try dsimp only [Kd.T, Kds.T, AK.T, AKs.T])
    all_goals ((repeat' apply And.intro) <;> first | rfl | assumption | exact trivial)
end Go.Sx.Yteiehkafkcggeaa
