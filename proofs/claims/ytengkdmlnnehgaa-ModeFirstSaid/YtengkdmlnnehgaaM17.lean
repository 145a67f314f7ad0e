/- Modes: Parse. -/
import Derived.Test.YtengkdmlnnehgaaM16
namespace Go.Sx.Ytengkdmlnnehgaa
open Go Go.Sx Go.Proofs
set_option linter.unusedVariables false
set_option linter.unusedSimpArgs false
set_option maxRecDepth 100000

def parseL : List Int → Nat → List Int → List Int → List Int → Option (Nat × List Int × List Int × List Int)
  | [], d, a, b, c => some (d, a, b, c)
  | x :: xs, d, a, b, c =>
    if x = 47 then (if d < 2 then parseL xs (d + 1) a b c else none)
    else if idxR x < 0 then none
    else if d = 0 then parseL xs d (a ++ [idxR x]) b c
    else if d = 1 then parseL xs d a (b ++ [idxR x]) c
    else parseL xs d a b (c ++ [idxR x])
def madeM (a b c : List Int) : Modes := ((a.length : Int), (a, b, c, ()), ())
def parseE (o : Option (Nat × List Int × List Int × List Int)) : Modes × Int :=
  match o with
  | none => (zeroM, 3)
  | some (_, a, b, c) => if checkS (madeM a b c) = 0 then (madeM a b c, 0) else (zeroM, 3)
def parseS (s : ByteArray) : Modes × Int := parseE (parseL (bytesI s) 0 [] [] [])

theorem bytesI_get {s : ByteArray} {p : Nat} (h : p < s.size) : (bytesI s).drop p = byteAt s p :: (bytesI s).drop (p + 1) := by
  have hl : p < (bytesI s).length := by rw [bytesI_length]; exact h
  rw [List.drop_eq_getElem_cons hl]
  congr 1
  have h' : p < s.data.size := h
  simp only [bytesI, byteAt, List.getElem_map, Array.getElem_toList, Int.toNat_natCast]
  rw [Array.getD_eq_getD_getElem?, Array.getElem?_eq_getElem h']
  rfl
theorem byteAt_eq {s : ByteArray} {p : Nat} (h : p < s.size) : byteAt s p = ((s[p]'h).toNat : Int) := by
  have h' : p < s.data.size := h
  simp only [byteAt, Int.toNat_natCast]
  rw [Array.getD_eq_getD_getElem?, Array.getElem?_eq_getElem h']
  rfl
theorem decode_step {s : ByteArray} {p : Nat} (h : p < s.size) : (((Utf8.decode s p).1 : Int) = byteAt s p ∧ (Utf8.decode s p).2 = 1 ∧ byteAt s p < 128) ∨ (128 ≤ byteAt s p ∧ 128 ≤ ((Utf8.decode s p).1 : Int)) := by
  rw [byteAt_eq h]
  by_cases ha : (s[p]'h).toNat < 128
  · rw [decode_ascii s p h ha]
    exact .inl ⟨rfl, rfl, by omega⟩
  · have := decode_high s p h (by omega)
    exact .inr ⟨by omega, by omega⟩
theorem idx_high {r : Int} (h : 128 ≤ r) : idxR r = -1 := by
  simp only [idxR]
  rw [if_neg (by omega), if_neg (by omega), if_neg (by omega), if_neg (by omega)]
theorem idx_cases (r : Int) : idxR r = -1 ∨ (0 ≤ idxR r ∧ idxR r ≤ 3) := by
  unfold idxR
  repeat' split
  all_goals omega

def hP (s : ByteArray) (p : Nat) (a b c : List Int) : List Blk :=
  [.box 34 [.int .i64 (.l 0), .nils, .nils, .nils], .box 34 [.int .i64 (.l 0), .sl 3 1 (.l 0) (.t fun _ => a.length), .sl 4 1 (.l 0) (.t fun _ => b.length), .sl 5 1 (.l 0) (.t fun _ => c.length)], .iter (fun _ => s) (fun _ => p), .row 3 I64 (fun _ => a), .row 3 I64 (fun _ => b), .row 3 I64 (fun _ => c)]
def S32 : List AV → Option FOut := sigSpec [.str] [ModesK, I64] (fun x : ByteArray × Unit => ((parseS x.1).1, (parseS x.1).2, ())) (fun x : ByteArray × Unit => x.1.size ≤ 1000000)
theorem fn32 : FnOk Try.prog 32 S32 := by
  refine fn_ofB (rs := [.cell 2 34, .tmp 3]) (env [(46, S46), (22, S22)] ⟨fn46, fn22, trivial⟩) Try.func32 (by kernel_rfl) rfl rfl Try.ntmps32 ?_
  rintro ⟨(s : ByteArray), u⟩ hs G hG hB hQ
  have hB := GB.of hB
  simp only at hs
  refine AM.run2 hG 100 (by cbv) (by (simp only [sxs, sxb, and_self, and_true, true_and, implies_true, imp_self, bne_eq_false_iff_eq, Nat.zero_add, Nat.le_refl, Int.toNat_natCast, Int.ofNat_lt, Int.natCast_nonneg, decide_eq_true_eq, decide_eq_false_iff_not, bne_iff_ne, ne_eq]; try dsimp only [Kd.T, Kds.T])) ?_
  refine AM.emptyRow 1 1 3 I64 rfl (by show 1 < 3; omega) rfl ?_
  refine AM.emptyRow 1 2 3 I64 rfl (by show 1 < 4; omega) rfl ?_
  refine AM.emptyRow 1 3 3 I64 rfl (by show 1 < 5; omega) rfl ?_
  refine AM.loopI (fun i : Nat × Nat × List Int × List Int × List Int => (frame 49 [(0, .str fun _ => s), (2, .ptr 0 0), (3, .int .i64 (.l 0)), (4, .ptr 1 0), (5, .int .i64 (.t fun _ => nI i.2.1)), (10, .ptr 2 0)], hP s i.1 i.2.2.1 i.2.2.2.1 i.2.2.2.2))
    (fun i => i.1 ≤ s.size ∧ i.2.1 ≤ 2 ∧ i.2.2.1.length ≤ i.1 ∧ i.2.2.2.1.length ≤ i.1 ∧ i.2.2.2.2.length ≤ i.1 ∧ parseE (parseL ((bytesI s).drop i.1) i.2.1 i.2.2.1 i.2.2.2.1 i.2.2.2.2) = parseS s) (fun i => s.size - i.1) (0, 0, [], [], []) ⟨by simp, by simp, by simp, by simp, by simp, rfl⟩ ?_ ?_ ?_
  · cbv; (simp only [sxs, sxb, and_self, and_true, true_and, implies_true, imp_self, bne_eq_false_iff_eq, Nat.zero_add, Nat.le_refl, Int.toNat_natCast, Int.ofNat_lt, Int.natCast_nonneg, decide_eq_true_eq, decide_eq_false_iff_not, bne_iff_ne, ne_eq]; try dsimp only [Kd.T, Kds.T]); first | rfl | exact ⟨rfl, rfl⟩
  · cbv; (simp only [sxs, sxb, and_self, and_true, true_and, implies_true, imp_self, bne_eq_false_iff_eq, Nat.zero_add, Nat.le_refl, Int.toNat_natCast, Int.ofNat_lt, Int.natCast_nonneg, decide_eq_true_eq, decide_eq_false_iff_not, bne_iff_ne, ne_eq]; try dsimp only [Kd.T, Kds.T])
  rintro ⟨p, d, a, b, c⟩ ⟨hp, hd, ha, hb, hc, he⟩ ih
  simp only at hp hd ha hb hc he
  refine AM.run2 hG 100 (by cbv) (by (simp only [sxs, sxb, and_self, and_true, true_and, implies_true, imp_self, bne_eq_false_iff_eq, Nat.zero_add, Nat.le_refl, Int.toNat_natCast, Int.ofNat_lt, Int.natCast_nonneg, decide_eq_true_eq, decide_eq_false_iff_not, bne_iff_ne, ne_eq]; try dsimp only [Kd.T, Kds.T])) ?_
  refine AM.next hG (ty := 0) (by cbv) rfl rfl rfl (by show 2 < 6; omega) (fun hlt => ?_) (fun hge => ?_)
  · rw [bytesI_get hlt] at he
    obtain ⟨r, hr⟩ : ∃ r : Nat, (Utf8.decode s p).1 = r := ⟨_, rfl⟩
    obtain ⟨w, hw⟩ : ∃ w : Nat, (Utf8.decode s p).2 = w := ⟨_, rfl⟩
    have hx := decode_step hlt
    simp only
    rw [hr, hw] at hx ⊢
    generalize byteAt s p = x at he hx
    refine AM.run2 hG 100 (by cbv) ?_ ?_
    · (simp only [sxs, sxb, and_self, and_true, true_and, implies_true, imp_self, bne_eq_false_iff_eq, Nat.zero_add, Nat.le_refl, Int.toNat_natCast, Int.ofNat_lt, Int.natCast_nonneg, decide_eq_true_eq, decide_eq_false_iff_not, bne_iff_ne, ne_eq]; try dsimp only [Kd.T, Kds.T]); rfl
    refine AM.case 26 rfl (fun h1 => ?_) (fun h1 => ?_) <;> (simp only [sxs, sxb, and_self, and_true, true_and, implies_true, imp_self, bne_eq_false_iff_eq, Nat.zero_add, Nat.le_refl, Int.toNat_natCast, Int.ofNat_lt, Int.natCast_nonneg, decide_eq_true_eq, decide_eq_false_iff_not, bne_iff_ne, ne_eq] at h1; try dsimp only [Kd.T, Kds.T] at h1)
    · obtain ⟨h1, h2⟩ := h1
      obtain ⟨rfl, rfl, _⟩ : (r : Int) = x ∧ w = 1 ∧ x < 128 := by omega
      rw [parseL, if_pos h1, if_pos (by omega)] at he
      refine AM.run2 hG 100 (by cbv) (by (simp only [sxs, sxb, and_self, and_true, true_and, implies_true, imp_self, bne_eq_false_iff_eq, Nat.zero_add, Nat.le_refl, Int.toNat_natCast, Int.ofNat_lt, Int.natCast_nonneg, decide_eq_true_eq, decide_eq_false_iff_not, bne_iff_ne, ne_eq]; try dsimp only [Kd.T, Kds.T])) ?_
      refine AM.imp2 (by cbv) (by cbv) ?_ (by (simp only [sxs, sxb, and_self, and_true, true_and, implies_true, imp_self, bne_eq_false_iff_eq, Nat.zero_add, Nat.le_refl, Int.toNat_natCast, Int.ofNat_lt, Int.natCast_nonneg, decide_eq_true_eq, decide_eq_false_iff_not, bne_iff_ne, ne_eq]; try dsimp only [Kd.T, Kds.T])) (ih (p + 1, d + 1, a, b, c) ⟨by simp only; omega, by simp only; omega, by simp only; omega, by simp only; omega, by simp only; omega, he⟩ (by simp only; omega))
      (simp only [sxs, sxb, and_self, and_true, true_and, implies_true, imp_self, bne_eq_false_iff_eq, Nat.zero_add, Nat.le_refl, Int.toNat_natCast, Int.ofNat_lt, Int.natCast_nonneg, decide_eq_true_eq, decide_eq_false_iff_not, bne_iff_ne, ne_eq]; try dsimp only [Kd.T, Kds.T])
      rw [w64s (by omega)]
    refine AM.run2 hG 100 (by cbv) (by (simp only [sxs, sxb, and_self, and_true, true_and, implies_true, imp_self, bne_eq_false_iff_eq, Nat.zero_add, Nat.le_refl, Int.toNat_natCast, Int.ofNat_lt, Int.natCast_nonneg, decide_eq_true_eq, decide_eq_false_iff_not, bne_iff_ne, ne_eq]; try dsimp only [Kd.T, Kds.T])) ?_
    refine AM.case 35 rfl (fun h2 => ?_) (fun h2 => ?_) <;> (simp only [sxs, sxb, and_self, and_true, true_and, implies_true, imp_self, bne_eq_false_iff_eq, Nat.zero_add, Nat.le_refl, Int.toNat_natCast, Int.ofNat_lt, Int.natCast_nonneg, decide_eq_true_eq, decide_eq_false_iff_not, bne_iff_ne, ne_eq] at h2; try dsimp only [Kd.T, Kds.T] at h2)
    · have hn : parseS s = (zeroM, 3) := by
        rw [← he, parseL]
        rcases hx with ⟨rfl, _⟩ | ⟨hx, _⟩
        · by_cases h3 : (r : Int) = 47
          · rw [if_pos h3, if_neg (by have := h1 h3; omega)]; rfl
          · rw [if_neg h3, if_pos h2]; rfl
        · rw [if_neg (by omega), if_pos (by rw [idx_high hx]; omega)]; rfl
      refine AM.run2 hG 100 (by cbv) (by (simp only [sxs, sxb, and_self, and_true, true_and, implies_true, imp_self, bne_eq_false_iff_eq, Nat.zero_add, Nat.le_refl, Int.toNat_natCast, Int.ofNat_lt, Int.natCast_nonneg, decide_eq_true_eq, decide_eq_false_iff_not, bne_iff_ne, ne_eq]; try dsimp only [Kd.T, Kds.T])) ?_
      refine AM.ret2 hG (by cbv) (by (simp only [sxs, sxb, and_self, and_true, true_and, implies_true, imp_self, bne_eq_false_iff_eq, Nat.zero_add, Nat.le_refl, Int.toNat_natCast, Int.ofNat_lt, Int.natCast_nonneg, decide_eq_true_eq, decide_eq_false_iff_not, bne_iff_ne, ne_eq]; try dsimp only [Kd.T, Kds.T])) (hQ _ _ (FinRo.of (by cbv) (by cbv) ?_ ?_))
      · (simp only [sxs, sxb, and_self, and_true, true_and, implies_true, imp_self, bne_eq_false_iff_eq, Nat.zero_add, Nat.le_refl, Int.toNat_natCast, Int.ofNat_lt, Int.natCast_nonneg, decide_eq_true_eq, decide_eq_false_iff_not, bne_iff_ne, ne_eq]; try dsimp only [Kd.T, Kds.T])
      try (simp only [sxs, sxb, and_self, and_true, true_and, implies_true, imp_self, bne_eq_false_iff_eq, Nat.zero_add, Nat.le_refl, Int.toNat_natCast, Int.ofNat_lt, Int.natCast_nonneg, decide_eq_true_eq, decide_eq_false_iff_not, bne_iff_ne, ne_eq]; try dsimp only [Kd.T, Kds.T])
      rw [hn]
      simp only [zeroM, and_self]
    have hr128 : ¬ (128 : Int) ≤ r := fun h3 => by rw [idx_high h3] at h2; omega
    obtain ⟨rfl, rfl, _⟩ : (r : Int) = x ∧ w = 1 ∧ x < 128 := by omega
    have h47 : (r : Int) ≠ 47 := by
      intro h3
      rw [h3] at h2
      exact h2 (by decide)
    rw [parseL, if_neg h47, if_neg h2] at he
    rcases (show d = 0 ∨ d = 1 ∨ d = 2 by omega) with rfl | rfl | rfl
    · refine AM.pin 5 0 rfl rfl ?_
      obtain ⟨nl, hnl⟩ : ∃ nl, nl = a ++ [idxR r] := ⟨_, rfl⟩
      rw [if_pos rfl] at he
      rw [← hnl] at he
      have hnll : nl.length = a.length + 1 := by rw [hnl, List.length_append]; rfl
      refine AM.run2 hG 100 (by cbv) ?_ ?_
      · (simp only [sxs, sxb, and_self, and_true, true_and, implies_true, imp_self, bne_eq_false_iff_eq, Nat.zero_add, Nat.le_refl, Int.toNat_natCast, Int.ofNat_lt, Int.natCast_nonneg, decide_eq_true_eq, decide_eq_false_iff_not, bne_iff_ne, ne_eq, maxLen, List.take_succ_cons, List.take_zero]; try dsimp only [Kd.T, Kds.T])
        omega
      refine AM.ren hB [0,1,2,7,4,5] (by cbv) (by cbv) (by cbv) ?_ ?_ (ih (p + 1, 0, nl, b, c) ⟨by simp only; omega, by simp only; omega, by simp only; omega, by simp only; omega, by simp only; omega, he⟩ (by simp only; omega))
      · (simp only [sxs, sxb, and_self, and_true, true_and, implies_true, imp_self, bne_eq_false_iff_eq, Nat.zero_add, Nat.le_refl, Int.toNat_natCast, Int.ofNat_lt, Int.natCast_nonneg, decide_eq_true_eq, decide_eq_false_iff_not, bne_iff_ne, ne_eq]; try dsimp only [Kd.T, Kds.T])
        try rfl
      · (simp only [sxs, sxb, and_self, and_true, true_and, implies_true, imp_self, bne_eq_false_iff_eq, Nat.zero_add, Nat.le_refl, Int.toNat_natCast, Int.ofNat_lt, Int.natCast_nonneg, decide_eq_true_eq, decide_eq_false_iff_not, bne_iff_ne, ne_eq, List.length_append, List.length_singleton, List.take_succ_cons, List.take_zero]; try dsimp only [Kd.T, Kds.T])
        rw [hnll]
        first | exact ⟨rfl, hnl.symm⟩ | exact ⟨rfl, hnl.symm, trivial⟩
    · refine AM.pin 5 1 rfl rfl ?_
      obtain ⟨nl, hnl⟩ : ∃ nl, nl = b ++ [idxR r] := ⟨_, rfl⟩
      rw [if_neg (by decide)] at he; rw [if_pos rfl] at he
      rw [← hnl] at he
      have hnll : nl.length = b.length + 1 := by rw [hnl, List.length_append]; rfl
      refine AM.run2 hG 100 (by cbv) ?_ ?_
      · (simp only [sxs, sxb, and_self, and_true, true_and, implies_true, imp_self, bne_eq_false_iff_eq, Nat.zero_add, Nat.le_refl, Int.toNat_natCast, Int.ofNat_lt, Int.natCast_nonneg, decide_eq_true_eq, decide_eq_false_iff_not, bne_iff_ne, ne_eq, maxLen, List.take_succ_cons, List.take_zero]; try dsimp only [Kd.T, Kds.T])
        omega
      refine AM.ren hB [0,1,2,3,7,5] (by cbv) (by cbv) (by cbv) ?_ ?_ (ih (p + 1, 1, a, nl, c) ⟨by simp only; omega, by simp only; omega, by simp only; omega, by simp only; omega, by simp only; omega, he⟩ (by simp only; omega))
      · (simp only [sxs, sxb, and_self, and_true, true_and, implies_true, imp_self, bne_eq_false_iff_eq, Nat.zero_add, Nat.le_refl, Int.toNat_natCast, Int.ofNat_lt, Int.natCast_nonneg, decide_eq_true_eq, decide_eq_false_iff_not, bne_iff_ne, ne_eq]; try dsimp only [Kd.T, Kds.T])
        try rfl
      · (simp only [sxs, sxb, and_self, and_true, true_and, implies_true, imp_self, bne_eq_false_iff_eq, Nat.zero_add, Nat.le_refl, Int.toNat_natCast, Int.ofNat_lt, Int.natCast_nonneg, decide_eq_true_eq, decide_eq_false_iff_not, bne_iff_ne, ne_eq, List.length_append, List.length_singleton, List.take_succ_cons, List.take_zero]; try dsimp only [Kd.T, Kds.T])
        rw [hnll]
        first | exact ⟨rfl, hnl.symm⟩ | exact ⟨rfl, hnl.symm, trivial⟩
    · refine AM.pin 5 2 rfl rfl ?_
      obtain ⟨nl, hnl⟩ : ∃ nl, nl = c ++ [idxR r] := ⟨_, rfl⟩
      rw [if_neg (by decide)] at he; rw [if_neg (by decide)] at he
      rw [← hnl] at he
      have hnll : nl.length = c.length + 1 := by rw [hnl, List.length_append]; rfl
      refine AM.run2 hG 100 (by cbv) ?_ ?_
      · (simp only [sxs, sxb, and_self, and_true, true_and, implies_true, imp_self, bne_eq_false_iff_eq, Nat.zero_add, Nat.le_refl, Int.toNat_natCast, Int.ofNat_lt, Int.natCast_nonneg, decide_eq_true_eq, decide_eq_false_iff_not, bne_iff_ne, ne_eq, maxLen, List.take_succ_cons, List.take_zero]; try dsimp only [Kd.T, Kds.T])
        omega
      refine AM.ren hB [0,1,2,3,4,7] (by cbv) (by cbv) (by cbv) ?_ ?_ (ih (p + 1, 2, a, b, nl) ⟨by simp only; omega, by simp only; omega, by simp only; omega, by simp only; omega, by simp only; omega, he⟩ (by simp only; omega))
      · (simp only [sxs, sxb, and_self, and_true, true_and, implies_true, imp_self, bne_eq_false_iff_eq, Nat.zero_add, Nat.le_refl, Int.toNat_natCast, Int.ofNat_lt, Int.natCast_nonneg, decide_eq_true_eq, decide_eq_false_iff_not, bne_iff_ne, ne_eq]; try dsimp only [Kd.T, Kds.T])
        try rfl
      · (simp only [sxs, sxb, and_self, and_true, true_and, implies_true, imp_self, bne_eq_false_iff_eq, Nat.zero_add, Nat.le_refl, Int.toNat_natCast, Int.ofNat_lt, Int.natCast_nonneg, decide_eq_true_eq, decide_eq_false_iff_not, bne_iff_ne, ne_eq, List.length_append, List.length_singleton, List.take_succ_cons, List.take_zero]; try dsimp only [Kd.T, Kds.T])
        rw [hnll]
        first | exact ⟨rfl, hnl.symm⟩ | exact ⟨rfl, hnl.symm, trivial⟩
  · have hn : parseS s = parseE (some (d, a, b, c)) := by
      rw [← he, List.drop_of_length_le (by rw [bytesI_length]; omega)]; rfl
    refine AM.frz [3, 4, 5] (by cbv) (by (simp only [sxs, sxb, and_self, and_true, true_and, implies_true, imp_self, bne_eq_false_iff_eq, Nat.zero_add, Nat.le_refl, Int.toNat_natCast, Int.ofNat_lt, Int.natCast_nonneg, decide_eq_true_eq, decide_eq_false_iff_not, bne_iff_ne, ne_eq]; try dsimp only [Kd.T, Kds.T])) ?_
    refine AM.run2 hG 100 (by cbv) ?_ ?_
    · (simp only [sxs, sxb, and_self, and_true, true_and, implies_true, imp_self, bne_eq_false_iff_eq, Nat.zero_add, Nat.le_refl, Int.toNat_natCast, Int.ofNat_lt, Int.natCast_nonneg, decide_eq_true_eq, decide_eq_false_iff_not, bne_iff_ne, ne_eq]; try dsimp only [Kd.T, Kds.T])
    refine AM.case 46 rfl (fun h1 => ?_) (fun h1 => ?_) <;> (simp only [sxs, sxb, and_self, and_true, true_and, implies_true, imp_self, bne_eq_false_iff_eq, Nat.zero_add, Nat.le_refl, Int.toNat_natCast, Int.ofNat_lt, Int.natCast_nonneg, decide_eq_true_eq, decide_eq_false_iff_not, bne_iff_ne, ne_eq, List.take_length] at h1; try dsimp only [Kd.T, Kds.T] at h1)
    · refine AM.run2 hG 100 (by cbv) (by (simp only [sxs, sxb, and_self, and_true, true_and, implies_true, imp_self, bne_eq_false_iff_eq, Nat.zero_add, Nat.le_refl, Int.toNat_natCast, Int.ofNat_lt, Int.natCast_nonneg, decide_eq_true_eq, decide_eq_false_iff_not, bne_iff_ne, ne_eq]; try dsimp only [Kd.T, Kds.T])) ?_
      refine AM.ret2 hG (by cbv) (by (simp only [sxs, sxb, and_self, and_true, true_and, implies_true, imp_self, bne_eq_false_iff_eq, Nat.zero_add, Nat.le_refl, Int.toNat_natCast, Int.ofNat_lt, Int.natCast_nonneg, decide_eq_true_eq, decide_eq_false_iff_not, bne_iff_ne, ne_eq]; try dsimp only [Kd.T, Kds.T])) (hQ _ _ (FinRo.of (by cbv) (by cbv) ?_ ?_))
      · (simp only [sxs, sxb, and_self, and_true, true_and, implies_true, imp_self, bne_eq_false_iff_eq, Nat.zero_add, Nat.le_refl, Int.toNat_natCast, Int.ofNat_lt, Int.natCast_nonneg, decide_eq_true_eq, decide_eq_false_iff_not, bne_iff_ne, ne_eq]; try dsimp only [Kd.T, Kds.T])
      try (simp only [sxs, sxb, and_self, and_true, true_and, implies_true, imp_self, bne_eq_false_iff_eq, Nat.zero_add, Nat.le_refl, Int.toNat_natCast, Int.ofNat_lt, Int.natCast_nonneg, decide_eq_true_eq, decide_eq_false_iff_not, bne_iff_ne, ne_eq]; try dsimp only [Kd.T, Kds.T])
      rw [hn, parseE, if_neg (show ¬ checkS (madeM a b c) = 0 from h1)]
      simp only [zeroM, and_self]
    · refine AM.run2 hG 100 (by cbv) (by (simp only [sxs, sxb, and_self, and_true, true_and, implies_true, imp_self, bne_eq_false_iff_eq, Nat.zero_add, Nat.le_refl, Int.toNat_natCast, Int.ofNat_lt, Int.natCast_nonneg, decide_eq_true_eq, decide_eq_false_iff_not, bne_iff_ne, ne_eq]; try dsimp only [Kd.T, Kds.T])) ?_
      refine AM.ret2 hG (by cbv) (by (simp only [sxs, sxb, and_self, and_true, true_and, implies_true, imp_self, bne_eq_false_iff_eq, Nat.zero_add, Nat.le_refl, Int.toNat_natCast, Int.ofNat_lt, Int.natCast_nonneg, decide_eq_true_eq, decide_eq_false_iff_not, bne_iff_ne, ne_eq]; try dsimp only [Kd.T, Kds.T])) (hQ _ _ (FinRo.of (by cbv) (by cbv) ?_ ?_))
      · (simp only [sxs, sxb, and_self, and_true, true_and, implies_true, imp_self, bne_eq_false_iff_eq, Nat.zero_add, Nat.le_refl, Int.toNat_natCast, Int.ofNat_lt, Int.natCast_nonneg, decide_eq_true_eq, decide_eq_false_iff_not, bne_iff_ne, ne_eq, List.take_length]; try dsimp only [Kd.T, Kds.T])
      try (simp only [sxs, sxb, and_self, and_true, true_and, implies_true, imp_self, bne_eq_false_iff_eq, Nat.zero_add, Nat.le_refl, Int.toNat_natCast, Int.ofNat_lt, Int.natCast_nonneg, decide_eq_true_eq, decide_eq_false_iff_not, bne_iff_ne, ne_eq, List.take_length]; try dsimp only [Kd.T, Kds.T])
      rw [hn, parseE, if_pos (show checkS (madeM a b c) = 0 from h1)]
      simp only [madeM, and_self]
end Go.Sx.Ytengkdmlnnehgaa
