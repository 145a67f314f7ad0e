/- Modes: the reference's Parse. -/
import Derived.Test.YtengkdmlnnehgaaM17
namespace Go.Sx.Ytengkdmlnnehgaa
open Go Go.Sx Go.Proofs
set_option linter.unusedVariables false
set_option linter.unusedSimpArgs false
set_option maxRecDepth 100000

def hR (a b c : List Int) : List Blk :=
  [.box 34 [.int .i64 (.l 0), .nils, .nils, .nils], .box 34 [.int .i64 (.l 0), .sl 2 1 (.l 0) (.t fun _ => a.length), .sl 3 1 (.l 0) (.t fun _ => b.length), .sl 4 1 (.l 0) (.t fun _ => c.length)], .row 3 I64 (fun _ => a), .row 3 I64 (fun _ => b), .row 3 I64 (fun _ => c)]
/-- The last of the first k letters that is x; -1: none. -/
def lastK (x : Int) : Nat → Int
  | 0 => -1
  | k + 1 => if byteAt nosr k = x then (k : Int) else lastK x k
theorem lastK_four (x : Int) : lastK x 4 = idxR x := by
  have h0 : byteAt nosr ((0 : Nat) : Int) = 110 := rfl
  have h1 : byteAt nosr ((1 : Nat) : Int) = 111 := rfl
  have h2 : byteAt nosr ((2 : Nat) : Int) = 115 := rfl
  have h3 : byteAt nosr ((3 : Nat) : Int) = 114 := rfl
  simp only [lastK, h0, h1, h2, h3, idxR]
  by_cases e0 : x = 110
  · subst e0; decide
  by_cases e1 : x = 111
  · subst e1; decide
  by_cases e2 : x = 115
  · subst e2; decide
  by_cases e3 : x = 114
  · subst e3; decide
  rw [if_neg (fun h => e3 h.symm), if_neg (fun h => e2 h.symm), if_neg (fun h => e1 h.symm), if_neg (fun h => e0 h.symm), if_neg e0, if_neg e1, if_neg e2, if_neg e3]
theorem parseL_two {l : List Int} : ∀ {d : Nat} {a b c : List Int} {d' : Nat} {a' b' c' : List Int}, d ≤ 2 → (d < 2 → c = []) → parseL l d a b c = some (d', a', b', c') → d' ≤ 2 ∧ (d' < 2 → c' = []) := by
  induction l with
  | nil =>
    intro d a b c d' a' b' c' h1 h2 h
    simp only [parseL, Option.some.injEq, Prod.mk.injEq] at h
    obtain ⟨rfl, rfl, rfl, rfl⟩ := h
    exact ⟨h1, h2⟩
  | cons x l ih =>
    intro d a b c d' a' b' c' h1 h2 h
    rw [parseL] at h
    split at h
    · split at h
      · rename_i hd
        exact ih (by omega) (fun _ => h2 hd) h
      · cases h
    · split at h
      · cases h
      · split at h
        · exact ih h1 h2 h
        · split at h
          · exact ih h1 h2 h
          · exact ih h1 (fun hd => by omega) h
def S33 : List AV → Option FOut := sigSpec [.str] [ModesK, I64] (fun x : ByteArray × Unit => ((parseS x.1).1, (parseS x.1).2, ())) (fun x : ByteArray × Unit => x.1.size ≤ 1000000)
theorem fn33 : FnOk Try.prog 33 S33 := by
  refine fn_ofB (rs := [.cell 2 34, .tmp 3]) (env [(23, S23)] ⟨fn23, trivial⟩) Try.func33 (by kernel_rfl) rfl rfl Try.ntmps33 ?_
  rintro ⟨(s : ByteArray), u⟩ hs G hG hB hQ
  have hB := GB.of hB
  simp only at hs
  refine AM.run2 hG 100 (by cbv) (by (simp only [sxs, sxb, and_self, and_true, true_and, implies_true, imp_self, bne_eq_false_iff_eq, Nat.zero_add, Nat.le_refl, Int.toNat_natCast, Int.ofNat_lt, Int.natCast_nonneg, decide_eq_true_eq, decide_eq_false_iff_not, bne_iff_ne, ne_eq]; try dsimp only [Kd.T, Kds.T])) ?_
  refine AM.emptyRow 1 1 3 I64 rfl (by show 1 < 2; omega) rfl ?_
  refine AM.emptyRow 1 2 3 I64 rfl (by show 1 < 3; omega) rfl ?_
  refine AM.emptyRow 1 3 3 I64 rfl (by show 1 < 4; omega) rfl ?_
  refine AM.loopI (fun i : Nat × Nat × List Int × List Int × List Int => (frame 62 [(0, .str fun _ => s), (2, .ptr 0 0), (3, .int .i64 (.l 0)), (4, .ptr 1 0), (5, .int .i64 (.t fun _ => nI i.2.1)), (6, .int .i64 (.t fun _ => nI i.1))], hR i.2.2.1 i.2.2.2.1 i.2.2.2.2))
    (fun i => i.1 ≤ s.size ∧ i.2.1 ≤ 2 ∧ i.2.2.1.length ≤ i.1 ∧ i.2.2.2.1.length ≤ i.1 ∧ i.2.2.2.2.length ≤ i.1 ∧ (i.2.1 < 2 → i.2.2.2.2 = []) ∧ parseE (parseL ((bytesI s).drop i.1) i.2.1 i.2.2.1 i.2.2.2.1 i.2.2.2.2) = parseS s) (fun i => s.size - i.1) (0, 0, [], [], []) ⟨by simp, by simp, by simp, by simp, by simp, fun _ => rfl, rfl⟩ ?_ ?_ ?_
  · cbv; (simp only [sxs, sxb, and_self, and_true, true_and, implies_true, imp_self, bne_eq_false_iff_eq, Nat.zero_add, Nat.le_refl, Int.toNat_natCast, Int.ofNat_lt, Int.natCast_nonneg, decide_eq_true_eq, decide_eq_false_iff_not, bne_iff_ne, ne_eq]; try dsimp only [Kd.T, Kds.T]); first | rfl | exact ⟨rfl, rfl⟩
  · cbv; (simp only [sxs, sxb, and_self, and_true, true_and, implies_true, imp_self, bne_eq_false_iff_eq, Nat.zero_add, Nat.le_refl, Int.toNat_natCast, Int.ofNat_lt, Int.natCast_nonneg, decide_eq_true_eq, decide_eq_false_iff_not, bne_iff_ne, ne_eq]; try dsimp only [Kd.T, Kds.T])
  rintro ⟨p, d, a, b, c⟩ ⟨hp, hd, ha, hb, hc, hcn, he⟩ ih
  simp only at hp hd ha hb hc hcn he
  refine AM.run2 hG 100 (by cbv) (by (simp only [sxs, sxb, and_self, and_true, true_and, implies_true, imp_self, bne_eq_false_iff_eq, Nat.zero_add, Nat.le_refl, Int.toNat_natCast, Int.ofNat_lt, Int.natCast_nonneg, decide_eq_true_eq, decide_eq_false_iff_not, bne_iff_ne, ne_eq]; try dsimp only [Kd.T, Kds.T])) ?_
  refine AM.case 12 rfl (fun hlt => ?_) (fun hge => ?_)
  · (simp only [sxs, sxb, and_self, and_true, true_and, implies_true, imp_self, bne_eq_false_iff_eq, Nat.zero_add, Nat.le_refl, Int.toNat_natCast, Int.ofNat_lt, Int.natCast_nonneg, decide_eq_true_eq, decide_eq_false_iff_not, bne_iff_ne, ne_eq] at hlt; try dsimp only [Kd.T, Kds.T] at hlt)
    have hlt : p < s.size := by omega
    rw [bytesI_get hlt] at he
    obtain ⟨x, hx⟩ : ∃ x, byteAt s p = x := ⟨_, rfl⟩
    rw [hx] at he
    refine AM.run2 hG 100 (by cbv) ?_ ?_
    · (simp only [sxs, sxb, and_self, and_true, true_and, implies_true, imp_self, bne_eq_false_iff_eq, Nat.zero_add, Nat.le_refl, Int.toNat_natCast, Int.ofNat_lt, Int.natCast_nonneg, decide_eq_true_eq, decide_eq_false_iff_not, bne_iff_ne, ne_eq]; try dsimp only [Kd.T, Kds.T])
      omega
    refine AM.case 18 rfl (fun h1 => ?_) (fun h1 => ?_) <;> (simp only [sxs, sxb, and_self, and_true, true_and, implies_true, imp_self, bne_eq_false_iff_eq, Nat.zero_add, Nat.le_refl, Int.toNat_natCast, Int.ofNat_lt, Int.natCast_nonneg, decide_eq_true_eq, decide_eq_false_iff_not, bne_iff_ne, ne_eq, hx] at h1; try dsimp only [Kd.T, Kds.T] at h1)
    · rw [parseL, if_pos h1] at he
      refine AM.run2 hG 100 (by cbv) (by (simp only [sxs, sxb, and_self, and_true, true_and, implies_true, imp_self, bne_eq_false_iff_eq, Nat.zero_add, Nat.le_refl, Int.toNat_natCast, Int.ofNat_lt, Int.natCast_nonneg, decide_eq_true_eq, decide_eq_false_iff_not, bne_iff_ne, ne_eq]; try dsimp only [Kd.T, Kds.T])) ?_
      refine AM.case 22 rfl (fun h2 => ?_) (fun h2 => ?_) <;> ((simp only [sxs, sxb, and_self, and_true, true_and, implies_true, imp_self, bne_eq_false_iff_eq, Nat.zero_add, Nat.le_refl, Int.toNat_natCast, Int.ofNat_lt, Int.natCast_nonneg, decide_eq_true_eq, decide_eq_false_iff_not, bne_iff_ne, ne_eq] at h2; try dsimp only [Kd.T, Kds.T] at h2); rw [w64s (by omega)] at h2)
      · rw [if_neg (by omega)] at he
        refine AM.run2 hG 100 (by cbv) (by (simp only [sxs, sxb, and_self, and_true, true_and, implies_true, imp_self, bne_eq_false_iff_eq, Nat.zero_add, Nat.le_refl, Int.toNat_natCast, Int.ofNat_lt, Int.natCast_nonneg, decide_eq_true_eq, decide_eq_false_iff_not, bne_iff_ne, ne_eq]; try dsimp only [Kd.T, Kds.T])) ?_
        refine AM.ret2 hG (by cbv) (by (simp only [sxs, sxb, and_self, and_true, true_and, implies_true, imp_self, bne_eq_false_iff_eq, Nat.zero_add, Nat.le_refl, Int.toNat_natCast, Int.ofNat_lt, Int.natCast_nonneg, decide_eq_true_eq, decide_eq_false_iff_not, bne_iff_ne, ne_eq]; try dsimp only [Kd.T, Kds.T])) (hQ _ _ (FinRo.of (by cbv) (by cbv) ?_ ?_))
        · (simp only [sxs, sxb, and_self, and_true, true_and, implies_true, imp_self, bne_eq_false_iff_eq, Nat.zero_add, Nat.le_refl, Int.toNat_natCast, Int.ofNat_lt, Int.natCast_nonneg, decide_eq_true_eq, decide_eq_false_iff_not, bne_iff_ne, ne_eq]; try dsimp only [Kd.T, Kds.T])
        try (simp only [sxs, sxb, and_self, and_true, true_and, implies_true, imp_self, bne_eq_false_iff_eq, Nat.zero_add, Nat.le_refl, Int.toNat_natCast, Int.ofNat_lt, Int.natCast_nonneg, decide_eq_true_eq, decide_eq_false_iff_not, bne_iff_ne, ne_eq]; try dsimp only [Kd.T, Kds.T])
        rw [← he]
        simp only [parseE, zeroM, and_self]
      · rw [if_pos (by omega)] at he
        refine AM.run2 hG 100 (by cbv) (by (simp only [sxs, sxb, and_self, and_true, true_and, implies_true, imp_self, bne_eq_false_iff_eq, Nat.zero_add, Nat.le_refl, Int.toNat_natCast, Int.ofNat_lt, Int.natCast_nonneg, decide_eq_true_eq, decide_eq_false_iff_not, bne_iff_ne, ne_eq]; try dsimp only [Kd.T, Kds.T])) ?_
        refine AM.imp2 (by cbv) (by cbv) ?_ (by (simp only [sxs, sxb, and_self, and_true, true_and, implies_true, imp_self, bne_eq_false_iff_eq, Nat.zero_add, Nat.le_refl, Int.toNat_natCast, Int.ofNat_lt, Int.natCast_nonneg, decide_eq_true_eq, decide_eq_false_iff_not, bne_iff_ne, ne_eq]; try dsimp only [Kd.T, Kds.T])) (ih (p + 1, d + 1, a, b, c) ⟨by simp only; omega, by simp only; omega, by simp only; omega, by simp only; omega, by simp only; omega, fun h3 => hcn (by simp only at h3; omega), he⟩ (by simp only; omega))
        (simp only [sxs, sxb, and_self, and_true, true_and, implies_true, imp_self, bne_eq_false_iff_eq, Nat.zero_add, Nat.le_refl, Int.toNat_natCast, Int.ofNat_lt, Int.natCast_nonneg, decide_eq_true_eq, decide_eq_false_iff_not, bne_iff_ne, ne_eq]; try dsimp only [Kd.T, Kds.T])
        rw [w64s (by omega), w64s (by omega)]
        try trivial
    rw [parseL, if_neg h1] at he
    refine AM.run2 hG 100 (by cbv) (by (simp only [sxs, sxb, and_self, and_true, true_and, implies_true, imp_self, bne_eq_false_iff_eq, Nat.zero_add, Nat.le_refl, Int.toNat_natCast, Int.ofNat_lt, Int.natCast_nonneg, decide_eq_true_eq, decide_eq_false_iff_not, bne_iff_ne, ne_eq]; try dsimp only [Kd.T, Kds.T])) ?_
    refine AM.loopI (fun k : Nat => (frame 62 [(0, .str fun _ => s), (2, .ptr 0 0), (3, .int .i64 (.l 0)), (4, .ptr 1 0), (5, .int .i64 (.t fun _ => nI d)), (6, .int .i64 (.t fun _ => nI p)), (7, .int .i64 (.t fun _ => lastK x k)), (8, .int .i64 (.t fun _ => nI k))], hR a b c))
      (fun k => k ≤ 4) (fun k => 4 - k) 0 (by omega) ?_ ?_ ?_
    · cbv; (simp only [sxs, sxb, and_self, and_true, true_and, implies_true, imp_self, bne_eq_false_iff_eq, Nat.zero_add, Nat.le_refl, Int.toNat_natCast, Int.ofNat_lt, Int.natCast_nonneg, decide_eq_true_eq, decide_eq_false_iff_not, bne_iff_ne, ne_eq]; try dsimp only [Kd.T, Kds.T]); first | rfl | exact ⟨rfl, rfl⟩
    · cbv; (simp only [sxs, sxb, and_self, and_true, true_and, implies_true, imp_self, bne_eq_false_iff_eq, Nat.zero_add, Nat.le_refl, Int.toNat_natCast, Int.ofNat_lt, Int.natCast_nonneg, decide_eq_true_eq, decide_eq_false_iff_not, bne_iff_ne, ne_eq]; try dsimp only [Kd.T, Kds.T])
    rintro k hk ih2
    refine AM.run2 hG 100 (by cbv) (by (simp only [sxs, sxb, and_self, and_true, true_and, implies_true, imp_self, bne_eq_false_iff_eq, Nat.zero_add, Nat.le_refl, Int.toNat_natCast, Int.ofNat_lt, Int.natCast_nonneg, decide_eq_true_eq, decide_eq_false_iff_not, bne_iff_ne, ne_eq]; try dsimp only [Kd.T, Kds.T])) ?_
    refine AM.case 25 rfl (fun hk4 => ?_) (fun hk4 => ?_) <;> (simp only [sxs, sxb, and_self, and_true, true_and, implies_true, imp_self, bne_eq_false_iff_eq, Nat.zero_add, Nat.le_refl, Int.toNat_natCast, Int.ofNat_lt, Int.natCast_nonneg, decide_eq_true_eq, decide_eq_false_iff_not, bne_iff_ne, ne_eq] at hk4; try dsimp only [Kd.T, Kds.T] at hk4)
    · have hk4 : k < 4 := by omega
      refine AM.run2 hG 100 (by cbv) ?_ ?_
      · (simp only [sxs, sxb, and_self, and_true, true_and, implies_true, imp_self, bne_eq_false_iff_eq, Nat.zero_add, Nat.le_refl, Int.toNat_natCast, Int.ofNat_lt, Int.natCast_nonneg, decide_eq_true_eq, decide_eq_false_iff_not, bne_iff_ne, ne_eq, nosr_size]; try dsimp only [Kd.T, Kds.T])
        omega
      refine AM.case 33 rfl (fun h2 => ?_) (fun h2 => ?_) <;> (simp only [sxs, sxb, and_self, and_true, true_and, implies_true, imp_self, bne_eq_false_iff_eq, Nat.zero_add, Nat.le_refl, Int.toNat_natCast, Int.ofNat_lt, Int.natCast_nonneg, decide_eq_true_eq, decide_eq_false_iff_not, bne_iff_ne, ne_eq, hx] at h2; try dsimp only [Kd.T, Kds.T] at h2)
      · refine AM.run2 hG 100 (by cbv) (by (simp only [sxs, sxb, and_self, and_true, true_and, implies_true, imp_self, bne_eq_false_iff_eq, Nat.zero_add, Nat.le_refl, Int.toNat_natCast, Int.ofNat_lt, Int.natCast_nonneg, decide_eq_true_eq, decide_eq_false_iff_not, bne_iff_ne, ne_eq]; try dsimp only [Kd.T, Kds.T])) ?_
        refine AM.imp2 (by cbv) (by cbv) ?_ (by (simp only [sxs, sxb, and_self, and_true, true_and, implies_true, imp_self, bne_eq_false_iff_eq, Nat.zero_add, Nat.le_refl, Int.toNat_natCast, Int.ofNat_lt, Int.natCast_nonneg, decide_eq_true_eq, decide_eq_false_iff_not, bne_iff_ne, ne_eq]; try dsimp only [Kd.T, Kds.T])) (ih2 (k + 1) (by omega) (by omega))
        (simp only [sxs, sxb, and_self, and_true, true_and, implies_true, imp_self, bne_eq_false_iff_eq, Nat.zero_add, Nat.le_refl, Int.toNat_natCast, Int.ofNat_lt, Int.natCast_nonneg, decide_eq_true_eq, decide_eq_false_iff_not, bne_iff_ne, ne_eq]; try dsimp only [Kd.T, Kds.T])
        rw [w64s (by omega), lastK, if_pos (show byteAt nosr (k : Int) = x from h2)]
        try trivial
      · refine AM.run2 hG 100 (by cbv) (by (simp only [sxs, sxb, and_self, and_true, true_and, implies_true, imp_self, bne_eq_false_iff_eq, Nat.zero_add, Nat.le_refl, Int.toNat_natCast, Int.ofNat_lt, Int.natCast_nonneg, decide_eq_true_eq, decide_eq_false_iff_not, bne_iff_ne, ne_eq]; try dsimp only [Kd.T, Kds.T])) ?_
        refine AM.imp2 (by cbv) (by cbv) ?_ (by (simp only [sxs, sxb, and_self, and_true, true_and, implies_true, imp_self, bne_eq_false_iff_eq, Nat.zero_add, Nat.le_refl, Int.toNat_natCast, Int.ofNat_lt, Int.natCast_nonneg, decide_eq_true_eq, decide_eq_false_iff_not, bne_iff_ne, ne_eq]; try dsimp only [Kd.T, Kds.T])) (ih2 (k + 1) (by omega) (by omega))
        (simp only [sxs, sxb, and_self, and_true, true_and, implies_true, imp_self, bne_eq_false_iff_eq, Nat.zero_add, Nat.le_refl, Int.toNat_natCast, Int.ofNat_lt, Int.natCast_nonneg, decide_eq_true_eq, decide_eq_false_iff_not, bne_iff_ne, ne_eq]; try dsimp only [Kd.T, Kds.T])
        rw [w64s (by omega), lastK, if_neg (show ¬ byteAt nosr (k : Int) = x from h2)]
        try trivial
    obtain rfl : k = 4 := by omega
    clear ih2
    have hl4 := lastK_four x
    refine AM.run2 hG 100 (by cbv) (by (simp only [sxs, sxb, and_self, and_true, true_and, implies_true, imp_self, bne_eq_false_iff_eq, Nat.zero_add, Nat.le_refl, Int.toNat_natCast, Int.ofNat_lt, Int.natCast_nonneg, decide_eq_true_eq, decide_eq_false_iff_not, bne_iff_ne, ne_eq]; try dsimp only [Kd.T, Kds.T])) ?_
    refine AM.case 36 rfl (fun h2 => ?_) (fun h2 => ?_) <;> ((simp only [sxs, sxb, and_self, and_true, true_and, implies_true, imp_self, bne_eq_false_iff_eq, Nat.zero_add, Nat.le_refl, Int.toNat_natCast, Int.ofNat_lt, Int.natCast_nonneg, decide_eq_true_eq, decide_eq_false_iff_not, bne_iff_ne, ne_eq] at h2; try dsimp only [Kd.T, Kds.T] at h2); rw [hl4] at h2)
    · rw [if_pos h2] at he
      refine AM.run2 hG 100 (by cbv) (by (simp only [sxs, sxb, and_self, and_true, true_and, implies_true, imp_self, bne_eq_false_iff_eq, Nat.zero_add, Nat.le_refl, Int.toNat_natCast, Int.ofNat_lt, Int.natCast_nonneg, decide_eq_true_eq, decide_eq_false_iff_not, bne_iff_ne, ne_eq]; try dsimp only [Kd.T, Kds.T])) ?_
      refine AM.ret2 hG (by cbv) (by (simp only [sxs, sxb, and_self, and_true, true_and, implies_true, imp_self, bne_eq_false_iff_eq, Nat.zero_add, Nat.le_refl, Int.toNat_natCast, Int.ofNat_lt, Int.natCast_nonneg, decide_eq_true_eq, decide_eq_false_iff_not, bne_iff_ne, ne_eq]; try dsimp only [Kd.T, Kds.T])) (hQ _ _ (FinRo.of (by cbv) (by cbv) ?_ ?_))
      · (simp only [sxs, sxb, and_self, and_true, true_and, implies_true, imp_self, bne_eq_false_iff_eq, Nat.zero_add, Nat.le_refl, Int.toNat_natCast, Int.ofNat_lt, Int.natCast_nonneg, decide_eq_true_eq, decide_eq_false_iff_not, bne_iff_ne, ne_eq]; try dsimp only [Kd.T, Kds.T])
      try (simp only [sxs, sxb, and_self, and_true, true_and, implies_true, imp_self, bne_eq_false_iff_eq, Nat.zero_add, Nat.le_refl, Int.toNat_natCast, Int.ofNat_lt, Int.natCast_nonneg, decide_eq_true_eq, decide_eq_false_iff_not, bne_iff_ne, ne_eq]; try dsimp only [Kd.T, Kds.T])
      rw [← he]
      simp only [parseE, zeroM, and_self]
    rw [if_neg h2] at he
    rcases (show d = 0 ∨ d = 1 ∨ d = 2 by omega) with rfl | rfl | rfl
    · refine AM.pin 5 0 rfl rfl ?_
      obtain ⟨nl, hnl⟩ : ∃ nl, nl = a ++ [idxR x] := ⟨_, rfl⟩
      rw [if_pos rfl] at he
      rw [← hnl] at he
      have hnll : nl.length = a.length + 1 := by rw [hnl, List.length_append]; rfl
      refine AM.run2 hG 100 (by cbv) ?_ ?_
      · (simp only [sxs, sxb, and_self, and_true, true_and, implies_true, imp_self, bne_eq_false_iff_eq, Nat.zero_add, Nat.le_refl, Int.toNat_natCast, Int.ofNat_lt, Int.natCast_nonneg, decide_eq_true_eq, decide_eq_false_iff_not, bne_iff_ne, ne_eq, maxLen, List.take_succ_cons, List.take_zero]; try dsimp only [Kd.T, Kds.T])
        omega
      refine AM.ren hB [0,1,6,3,4] (by cbv) (by cbv) (by cbv) ?_ ?_ (ih (p + 1, 0, nl, b, c) ⟨by simp only; omega, by simp only; omega, by simp only; omega, by simp only; omega, by simp only; omega, by simp only; omega, he⟩ (by simp only; omega))
      · (simp only [sxs, sxb, and_self, and_true, true_and, implies_true, imp_self, bne_eq_false_iff_eq, Nat.zero_add, Nat.le_refl, Int.toNat_natCast, Int.ofNat_lt, Int.natCast_nonneg, decide_eq_true_eq, decide_eq_false_iff_not, bne_iff_ne, ne_eq]; try dsimp only [Kd.T, Kds.T])
        try rw [w64s (by omega)]
        first | rfl | exact ⟨rfl, rfl⟩
      · (simp only [sxs, sxb, and_self, and_true, true_and, implies_true, imp_self, bne_eq_false_iff_eq, Nat.zero_add, Nat.le_refl, Int.toNat_natCast, Int.ofNat_lt, Int.natCast_nonneg, decide_eq_true_eq, decide_eq_false_iff_not, bne_iff_ne, ne_eq, List.length_append, List.length_singleton, List.take_succ_cons, List.take_zero, hl4]; try dsimp only [Kd.T, Kds.T])
        rw [hnll]
        first | exact ⟨rfl, hnl.symm⟩ | exact ⟨rfl, hnl.symm, trivial⟩
    · refine AM.pin 5 1 rfl rfl ?_
      obtain ⟨nl, hnl⟩ : ∃ nl, nl = b ++ [idxR x] := ⟨_, rfl⟩
      rw [if_neg (by decide)] at he; rw [if_pos rfl] at he
      rw [← hnl] at he
      have hnll : nl.length = b.length + 1 := by rw [hnl, List.length_append]; rfl
      refine AM.run2 hG 100 (by cbv) ?_ ?_
      · (simp only [sxs, sxb, and_self, and_true, true_and, implies_true, imp_self, bne_eq_false_iff_eq, Nat.zero_add, Nat.le_refl, Int.toNat_natCast, Int.ofNat_lt, Int.natCast_nonneg, decide_eq_true_eq, decide_eq_false_iff_not, bne_iff_ne, ne_eq, maxLen, List.take_succ_cons, List.take_zero]; try dsimp only [Kd.T, Kds.T])
        omega
      refine AM.ren hB [0,1,2,6,4] (by cbv) (by cbv) (by cbv) ?_ ?_ (ih (p + 1, 1, a, nl, c) ⟨by simp only; omega, by simp only; omega, by simp only; omega, by simp only; omega, by simp only; omega, by simp only; omega, he⟩ (by simp only; omega))
      · (simp only [sxs, sxb, and_self, and_true, true_and, implies_true, imp_self, bne_eq_false_iff_eq, Nat.zero_add, Nat.le_refl, Int.toNat_natCast, Int.ofNat_lt, Int.natCast_nonneg, decide_eq_true_eq, decide_eq_false_iff_not, bne_iff_ne, ne_eq]; try dsimp only [Kd.T, Kds.T])
        try rw [w64s (by omega)]
        first | rfl | exact ⟨rfl, rfl⟩
      · (simp only [sxs, sxb, and_self, and_true, true_and, implies_true, imp_self, bne_eq_false_iff_eq, Nat.zero_add, Nat.le_refl, Int.toNat_natCast, Int.ofNat_lt, Int.natCast_nonneg, decide_eq_true_eq, decide_eq_false_iff_not, bne_iff_ne, ne_eq, List.length_append, List.length_singleton, List.take_succ_cons, List.take_zero, hl4]; try dsimp only [Kd.T, Kds.T])
        rw [hnll]
        first | exact ⟨rfl, hnl.symm⟩ | exact ⟨rfl, hnl.symm, trivial⟩
    · refine AM.pin 5 2 rfl rfl ?_
      obtain ⟨nl, hnl⟩ : ∃ nl, nl = c ++ [idxR x] := ⟨_, rfl⟩
      rw [if_neg (by decide)] at he; rw [if_neg (by decide)] at he
      rw [← hnl] at he
      have hnll : nl.length = c.length + 1 := by rw [hnl, List.length_append]; rfl
      refine AM.run2 hG 100 (by cbv) ?_ ?_
      · (simp only [sxs, sxb, and_self, and_true, true_and, implies_true, imp_self, bne_eq_false_iff_eq, Nat.zero_add, Nat.le_refl, Int.toNat_natCast, Int.ofNat_lt, Int.natCast_nonneg, decide_eq_true_eq, decide_eq_false_iff_not, bne_iff_ne, ne_eq, maxLen, List.take_succ_cons, List.take_zero]; try dsimp only [Kd.T, Kds.T])
        omega
      refine AM.ren hB [0,1,2,3,6] (by cbv) (by cbv) (by cbv) ?_ ?_ (ih (p + 1, 2, a, b, nl) ⟨by simp only; omega, by simp only; omega, by simp only; omega, by simp only; omega, by simp only; omega, by simp only; omega, he⟩ (by simp only; omega))
      · (simp only [sxs, sxb, and_self, and_true, true_and, implies_true, imp_self, bne_eq_false_iff_eq, Nat.zero_add, Nat.le_refl, Int.toNat_natCast, Int.ofNat_lt, Int.natCast_nonneg, decide_eq_true_eq, decide_eq_false_iff_not, bne_iff_ne, ne_eq]; try dsimp only [Kd.T, Kds.T])
        try rw [w64s (by omega)]
        first | rfl | exact ⟨rfl, rfl⟩
      · (simp only [sxs, sxb, and_self, and_true, true_and, implies_true, imp_self, bne_eq_false_iff_eq, Nat.zero_add, Nat.le_refl, Int.toNat_natCast, Int.ofNat_lt, Int.natCast_nonneg, decide_eq_true_eq, decide_eq_false_iff_not, bne_iff_ne, ne_eq, List.length_append, List.length_singleton, List.take_succ_cons, List.take_zero, hl4]; try dsimp only [Kd.T, Kds.T])
        rw [hnll]
        first | exact ⟨rfl, hnl.symm⟩ | exact ⟨rfl, hnl.symm, trivial⟩
  · (simp only [sxs, sxb, and_self, and_true, true_and, implies_true, imp_self, bne_eq_false_iff_eq, Nat.zero_add, Nat.le_refl, Int.toNat_natCast, Int.ofNat_lt, Int.natCast_nonneg, decide_eq_true_eq, decide_eq_false_iff_not, bne_iff_ne, ne_eq] at hge; try dsimp only [Kd.T, Kds.T] at hge)
    have hn : parseS s = parseE (some (d, a, b, c)) := by
      rw [← he, List.drop_of_length_le (by rw [bytesI_length]; omega)]; rfl
    refine AM.frz [2, 3, 4] (by cbv) (by (simp only [sxs, sxb, and_self, and_true, true_and, implies_true, imp_self, bne_eq_false_iff_eq, Nat.zero_add, Nat.le_refl, Int.toNat_natCast, Int.ofNat_lt, Int.natCast_nonneg, decide_eq_true_eq, decide_eq_false_iff_not, bne_iff_ne, ne_eq]; try dsimp only [Kd.T, Kds.T])) ?_
    refine AM.run2 hG 100 (by cbv) ?_ ?_
    · (simp only [sxs, sxb, and_self, and_true, true_and, implies_true, imp_self, bne_eq_false_iff_eq, Nat.zero_add, Nat.le_refl, Int.toNat_natCast, Int.ofNat_lt, Int.natCast_nonneg, decide_eq_true_eq, decide_eq_false_iff_not, bne_iff_ne, ne_eq]; try dsimp only [Kd.T, Kds.T])
    refine AM.case 59 rfl (fun h1 => ?_) (fun h1 => ?_) <;> (simp only [sxs, sxb, and_self, and_true, true_and, implies_true, imp_self, bne_eq_false_iff_eq, Nat.zero_add, Nat.le_refl, Int.toNat_natCast, Int.ofNat_lt, Int.natCast_nonneg, decide_eq_true_eq, decide_eq_false_iff_not, bne_iff_ne, ne_eq, List.take_length] at h1; try dsimp only [Kd.T, Kds.T] at h1)
    · refine AM.run2 hG 100 (by cbv) (by (simp only [sxs, sxb, and_self, and_true, true_and, implies_true, imp_self, bne_eq_false_iff_eq, Nat.zero_add, Nat.le_refl, Int.toNat_natCast, Int.ofNat_lt, Int.natCast_nonneg, decide_eq_true_eq, decide_eq_false_iff_not, bne_iff_ne, ne_eq]; try dsimp only [Kd.T, Kds.T])) ?_
      refine AM.ret2 hG (by cbv) (by (simp only [sxs, sxb, and_self, and_true, true_and, implies_true, imp_self, bne_eq_false_iff_eq, Nat.zero_add, Nat.le_refl, Int.toNat_natCast, Int.ofNat_lt, Int.natCast_nonneg, decide_eq_true_eq, decide_eq_false_iff_not, bne_iff_ne, ne_eq]; try dsimp only [Kd.T, Kds.T])) (hQ _ _ (FinRo.of (by cbv) (by cbv) ?_ ?_))
      · (simp only [sxs, sxb, and_self, and_true, true_and, implies_true, imp_self, bne_eq_false_iff_eq, Nat.zero_add, Nat.le_refl, Int.toNat_natCast, Int.ofNat_lt, Int.natCast_nonneg, decide_eq_true_eq, decide_eq_false_iff_not, bne_iff_ne, ne_eq]; try dsimp only [Kd.T, Kds.T])
      try (simp only [sxs, sxb, and_self, and_true, true_and, implies_true, imp_self, bne_eq_false_iff_eq, Nat.zero_add, Nat.le_refl, Int.toNat_natCast, Int.ofNat_lt, Int.natCast_nonneg, decide_eq_true_eq, decide_eq_false_iff_not, bne_iff_ne, ne_eq]; try dsimp only [Kd.T, Kds.T])
      have h2 : ¬ checkS (madeM a b c) = 0 := by
        intro h3
        rcases h1 with h1 | h1
        · obtain ⟨h6, h7, ⟨h8, h9, h10⟩, _⟩ := check0 h3
          have hc0 := hcn (by omega)
          subst hc0
          simp only [madeM, List.length_nil] at h6 h10
          omega
        · exact h1 h3
      rw [hn, parseE, if_neg h2]
      simp only [zeroM, and_self]
    · refine AM.run2 hG 100 (by cbv) (by (simp only [sxs, sxb, and_self, and_true, true_and, implies_true, imp_self, bne_eq_false_iff_eq, Nat.zero_add, Nat.le_refl, Int.toNat_natCast, Int.ofNat_lt, Int.natCast_nonneg, decide_eq_true_eq, decide_eq_false_iff_not, bne_iff_ne, ne_eq]; try dsimp only [Kd.T, Kds.T])) ?_
      refine AM.ret2 hG (by cbv) (by (simp only [sxs, sxb, and_self, and_true, true_and, implies_true, imp_self, bne_eq_false_iff_eq, Nat.zero_add, Nat.le_refl, Int.toNat_natCast, Int.ofNat_lt, Int.natCast_nonneg, decide_eq_true_eq, decide_eq_false_iff_not, bne_iff_ne, ne_eq]; try dsimp only [Kd.T, Kds.T])) (hQ _ _ (FinRo.of (by cbv) (by cbv) ?_ ?_))
      · (simp only [sxs, sxb, and_self, and_true, true_and, implies_true, imp_self, bne_eq_false_iff_eq, Nat.zero_add, Nat.le_refl, Int.toNat_natCast, Int.ofNat_lt, Int.natCast_nonneg, decide_eq_true_eq, decide_eq_false_iff_not, bne_iff_ne, ne_eq, List.take_length]; try dsimp only [Kd.T, Kds.T])
      try (simp only [sxs, sxb, and_self, and_true, true_and, implies_true, imp_self, bne_eq_false_iff_eq, Nat.zero_add, Nat.le_refl, Int.toNat_natCast, Int.ofNat_lt, Int.natCast_nonneg, decide_eq_true_eq, decide_eq_false_iff_not, bne_iff_ne, ne_eq, List.take_length]; try dsimp only [Kd.T, Kds.T])
      rw [hn, parseE, if_pos (show checkS (madeM a b c) = 0 from h1.2)]
      simp only [madeM, and_self]
end Go.Sx.Ytengkdmlnnehgaa
