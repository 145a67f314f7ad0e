/- Modes: counts and texts. -/
import Derived.Test.YtengkdmlnnehgaaM22
namespace Go.Sx.Ytengkdmlnnehgaa
open Go Go.Sx Go.Proofs
set_option linter.unusedVariables false
set_option linter.unusedSimpArgs false
set_option maxRecDepth 100000

/-- The byte of a mode. -/
def byteM (x : Int) : Int := if x = 0 then 110 else if x = 1 then 111 else if x = 2 then 115 else 114
theorem letter_byte {x : Int} (h : validS x = true) : bytesI (letter x) = [byteM x] := by
  have hx : 0 ≤ x ∧ x ≤ 3 := by simpa [validS] using h
  rcases (show x = 0 ∨ x = 1 ∨ x = 2 ∨ x = 3 by omega) with rfl | rfl | rfl | rfl <;> rfl
theorem idx_byte {x : Int} (h : validS x = true) : idxR (byteM x) = x ∧ byteM x ≠ 47 := by
  have hx : 0 ≤ x ∧ x ≤ 3 := by simpa [validS] using h
  rcases (show x = 0 ∨ x = 1 ∨ x = 2 ∨ x = 3 by omega) with rfl | rfl | rfl | rfl <;> exact ⟨rfl, by decide⟩
theorem txt_bytes : ∀ (l : List Int) (acc : ByteArray), l.all validS = true → bytesI (txt acc l) = bytesI acc ++ l.map byteM
  | [], acc, _ => by simp [txt]
  | x :: l, acc, h => by
    simp only [List.all_cons, Bool.and_eq_true] at h
    have := txt_bytes l (acc ++ letter x) h.2
    simp only [txt, List.foldl_cons] at this ⊢
    rw [this, bytesI_app, letter_byte h.1]
    simp
theorem parse_letters : ∀ (l r : List Int) (d : Nat) (a b c : List Int), l.all validS = true →
    parseL (l.map byteM ++ r) d a b c = if d = 0 then parseL r d (a ++ l) b c else if d = 1 then parseL r d a (b ++ l) c else parseL r d a b (c ++ l)
  | [], r, d, a, b, c, _ => by simp
  | x :: l, r, d, a, b, c, h => by
    simp only [List.all_cons, Bool.and_eq_true] at h
    obtain ⟨h1, h2⟩ := idx_byte h.1
    have hx : 0 ≤ x ∧ x ≤ 3 := by simpa [validS] using h.1
    simp only [List.map_cons, List.cons_append]
    rw [parseL, if_neg h2, if_neg (by rw [h1]; omega), h1]
    by_cases e0 : d = 0
    · rw [if_pos e0, if_pos e0, parse_letters l r d _ b c h.2, if_pos e0]
      simp
    · rw [if_neg e0, if_neg e0]
      by_cases e1 : d = 1
      · rw [if_pos e1, if_pos e1, parse_letters l r d a _ c h.2, if_neg e0, if_pos e1]
        simp
      · rw [if_neg e1, if_neg e1, parse_letters l r d a b _ h.2, if_neg e0, if_neg e1]
        simp
theorem text_parse {m : Modes} (h : checkS m = 0) : (textS m).2 = 0 ∧ parseS (textS m).1 = (m, 0) ∧ ((textS m).1.size : Int) = 3 * m.1 + 2 := by
  obtain ⟨h6, h7, ⟨h8, h9, h10⟩, hk⟩ := check0 h
  have hk' := hk
  simp only [kindsOk, Bool.and_eq_true] at hk'
  obtain ⟨⟨k0, k1⟩, k2⟩ := hk'
  obtain ⟨c0, ⟨a, b, e, u⟩, u1⟩ := m
  simp only at h6 h7 h8 h9 h10 k0 k1 k2
  have ht : textS (c0, (a, b, e, u), u1) = (txt (txt (txt ByteArray.empty a ++ slash) b ++ slash) e, 0) := by
    unfold textS
    rw [if_pos h]
  have hb : bytesI (textS (c0, (a, b, e, u), u1)).1 = a.map byteM ++ (47 :: (b.map byteM ++ (47 :: (e.map byteM ++ [])))) := by
    rw [ht, txt_bytes _ _ k2, bytesI_app, txt_bytes _ _ k1, bytesI_app, txt_bytes _ _ k0]
    have e1 : bytesI slash = [47] := rfl
    have e2 : bytesI ByteArray.empty = [] := rfl
    rw [e1, e2]
    simp
  refine ⟨by rw [ht], ?_, ?_⟩
  · unfold parseS
    rw [hb, parse_letters _ _ _ _ _ _ k0, if_pos rfl, parseL, if_pos rfl, if_pos (by decide), parse_letters _ _ _ _ _ _ k1, if_neg (by decide), if_pos rfl, parseL, if_pos rfl, if_pos (by decide), parse_letters _ _ _ _ _ _ k2, if_neg (by decide), if_neg (by decide), parseL]
    simp only [List.nil_append]
    have hm : madeM a b e = (c0, (a, b, e, u), u1) := by
      simp only [madeM, h8]
    rw [parseE, hm, if_pos h]
  · have := congrArg List.length hb
    rw [bytesI_length] at this
    simp only [List.length_append, List.length_map, List.length_cons, List.length_nil] at this
    omega

/-- How many of the first n modes there are. -/
def sumC (l : List Int) : Nat → Int
  | 0 => 0
  | n + 1 => sumC l n + cI n l
theorem cI_bd (n : Int) (l : List Int) : 0 ≤ cI n l ∧ cI n l ≤ l.length := by
  have := cI_bound n l l.length
  rwa [List.take_length] at this
theorem sumC_bd (l : List Int) (h : (l.length : Int) ≤ 8) : ∀ n : Nat, 0 ≤ sumC l n ∧ sumC l n ≤ 8 * n
  | 0 => ⟨Int.le_refl _, by simp [sumC]⟩
  | n + 1 => by
    have := sumC_bd l h n
    have := cI_bd n l
    simp only [sumC]
    omega
theorem sumC_all : ∀ (l : List Int), l.all validS = true → sumC l 4 = l.length
  | [], _ => rfl
  | x :: l, h => by
    simp only [List.all_cons, Bool.and_eq_true] at h
    have hx : 0 ≤ x ∧ x ≤ 3 := by simpa [validS] using h.1
    have ih := sumC_all l h.2
    simp only [sumC, cI, List.count_cons, List.length_cons] at ih ⊢
    rcases (show x = 0 ∨ x = 1 ∨ x = 2 ∨ x = 3 by omega) with rfl | rfl | rfl | rfl <;> simp <;> simp at ih <;> omega
theorem count_ok {m : Modes} {n : Int} (h : checkS m = 0) (hn : 0 ≤ n ∧ n ≤ 3) : countS m n = ([cI n m.2.1.1, cI n m.2.1.2.1, cI n m.2.1.2.2.1], 0) := by
  unfold countS
  rw [if_pos h, if_pos (valid_of hn)]

theorem law8 : FnOk Try.prog 8 (sigSpec [I64, IntsK] [.bool] (fun _ => (true, ())) (Kds.wf [I64, IntsK])) := by
  refine fn_of (rs := [.tmp 4]) (env [(6, S6), (37, S37), (28, S28), (30, S30), (32, S32), (21, S21), (16, S16)] ⟨fn6, fn37, fn28, fn30, fn32, fn21, fn16, trivial⟩) Try.func8 (by kernel_rfl) rfl rfl Try.ntmps8 ?_
  rintro ⟨(cs : Int), (l : List Int), u⟩ hp G hG hQ
  clear hp
  obtain ⟨hm1, hm2⟩ := made_ok cs l
  have hcb := cars_bd cs
  obtain ⟨k, hk⟩ : ∃ k, carsS cs = k := ⟨_, rfl⟩
  rw [hk] at hm2 hcb
  obtain ⟨m, hm⟩ : ∃ m, madeN cs l = m := ⟨_, rfl⟩
  rw [hm] at hm1 hm2
  obtain ⟨h6, h7, ⟨h8, h9, h10⟩, hkk⟩ := check0 hm1
  refine AM.runTo2 hG 24 100 (by cbv) (by (simp only [sxs, sxb, and_self, and_true, true_and, implies_true, imp_self, bne_eq_false_iff_eq, Nat.zero_add, Nat.le_refl, Int.toNat_natCast, Int.ofNat_lt, Int.natCast_nonneg, decide_eq_true_eq, decide_eq_false_iff_not, bne_iff_ne, ne_eq]; try dsimp only [Kd.T, Kds.T])) ?_
  refine AM.sure 5 true rfl rfl ?_
  refine AM.sure 7 true rfl rfl ?_
  refine AM.run2 hG 100 (by cbv) (by (simp only [sxs, sxb, and_self, and_true, true_and, implies_true, imp_self, bne_eq_false_iff_eq, Nat.zero_add, Nat.le_refl, Int.toNat_natCast, Int.ofNat_lt, Int.natCast_nonneg, decide_eq_true_eq, decide_eq_false_iff_not, bne_iff_ne, ne_eq]; try dsimp only [Kd.T, Kds.T])) ?_
  refine AM.loopI (fun i : Nat => (frame 104 [(4, .bool (.l false)), (5, .bool (.l true)), (6, .ptr 0 0), (8, .sl 1 1 (.l 0) (.l 3)), (9, .int .i64 (.t fun _ => nI i))], [boxM m, .row 3 I64 fun _ => [sumC m.2.1.1 i, sumC m.2.1.2.1 i, sumC m.2.1.2.2.1 i]]))
    (fun i => i ≤ 4) (fun i => 4 - i) 0 (by omega) ?_ ?_ ?_
  · cbv; (simp only [sxs, sxb, and_self, and_true, true_and, implies_true, imp_self, bne_eq_false_iff_eq, Nat.zero_add, Nat.le_refl, Int.toNat_natCast, Int.ofNat_lt, Int.natCast_nonneg, decide_eq_true_eq, decide_eq_false_iff_not, bne_iff_ne, ne_eq]; try dsimp only [Kd.T, Kds.T]); first | rfl | trivial
  · cbv; (simp only [sxs, sxb, and_self, and_true, true_and, implies_true, imp_self, bne_eq_false_iff_eq, Nat.zero_add, Nat.le_refl, Int.toNat_natCast, Int.ofNat_lt, Int.natCast_nonneg, decide_eq_true_eq, decide_eq_false_iff_not, bne_iff_ne, ne_eq, hm]; try dsimp only [Kd.T, Kds.T]); try trivial
  rintro i hi ih
  refine AM.run2 hG 100 (by cbv) (by (simp only [sxs, sxb, and_self, and_true, true_and, implies_true, imp_self, bne_eq_false_iff_eq, Nat.zero_add, Nat.le_refl, Int.toNat_natCast, Int.ofNat_lt, Int.natCast_nonneg, decide_eq_true_eq, decide_eq_false_iff_not, bne_iff_ne, ne_eq]; try dsimp only [Kd.T, Kds.T])) ?_
  refine AM.case 28 rfl (fun h => ?_) (fun h => ?_) <;> (simp only [sxs, sxb, and_self, and_true, true_and, implies_true, imp_self, bne_eq_false_iff_eq, Nat.zero_add, Nat.le_refl, Int.toNat_natCast, Int.ofNat_lt, Int.natCast_nonneg, decide_eq_true_eq, decide_eq_false_iff_not, bne_iff_ne, ne_eq] at h; try dsimp only [Kd.T, Kds.T] at h)
  · have hcn : countS (m.1, (m.2.1.1, m.2.1.2.1, m.2.1.2.2.1, ()), ()) (i : Int) = ([cI i m.2.1.1, cI i m.2.1.2.1, cI i m.2.1.2.2.1], 0) := count_ok (n := (i : Int)) hm1 (by omega)
    refine AM.run2 hG 100 (by cbv) (by (simp only [sxs, sxb, and_self, and_true, true_and, implies_true, imp_self, bne_eq_false_iff_eq, Nat.zero_add, Nat.le_refl, Int.toNat_natCast, Int.ofNat_lt, Int.natCast_nonneg, decide_eq_true_eq, decide_eq_false_iff_not, bne_iff_ne, ne_eq]; try dsimp only [Kd.T, Kds.T])) ?_
    refine AM.sure 43 false rfl ?_ ?_
    · (simp only [sxs, sxb, and_self, and_true, true_and, implies_true, imp_self, bne_eq_false_iff_eq, Nat.zero_add, Nat.le_refl, Int.toNat_natCast, Int.ofNat_lt, Int.natCast_nonneg, decide_eq_true_eq, decide_eq_false_iff_not, bne_iff_ne, ne_eq, hcn]; try dsimp only [Kd.T, Kds.T])
      try decide
    refine AM.run2 hG 100 (by cbv) (by (simp only [sxs, sxb, and_self, and_true, true_and, implies_true, imp_self, bne_eq_false_iff_eq, Nat.zero_add, Nat.le_refl, Int.toNat_natCast, Int.ofNat_lt, Int.natCast_nonneg, decide_eq_true_eq, decide_eq_false_iff_not, bne_iff_ne, ne_eq]; try dsimp only [Kd.T, Kds.T])) ?_
    refine AM.unroll ?_
    refine AM.run2 hG 200 (by cbv) ?_ ?_
    · (simp only [sxs, sxb, and_self, and_true, true_and, implies_true, imp_self, bne_eq_false_iff_eq, Nat.zero_add, Nat.le_refl, Int.toNat_natCast, Int.ofNat_lt, Int.natCast_nonneg, decide_eq_true_eq, decide_eq_false_iff_not, bne_iff_ne, ne_eq, hcn]; try dsimp only [Kd.T, Kds.T])
      simp only [List.length_set, List.length_cons, List.length_nil]
      omega
    have b0 := sumC_bd m.2.1.1 (by omega) i
    have b1 := sumC_bd m.2.1.2.1 (by omega) i
    have b2 := sumC_bd m.2.1.2.2.1 (by omega) i
    have d0 := cI_bd i m.2.1.1
    have d1 := cI_bd i m.2.1.2.1
    have d2 := cI_bd i m.2.1.2.2.1
    obtain ⟨s0, hs0⟩ : ∃ s0, sumC m.2.1.1 (i + 1) = s0 := ⟨_, rfl⟩
    obtain ⟨s1, hs1⟩ : ∃ s1, sumC m.2.1.2.1 (i + 1) = s1 := ⟨_, rfl⟩
    obtain ⟨s2, hs2⟩ : ∃ s2, sumC m.2.1.2.2.1 (i + 1) = s2 := ⟨_, rfl⟩
    have ih' := ih (i + 1) (by omega) (by omega)
    clear ih
    simp only at ih'
    rw [hs0, hs1, hs2] at ih'
    simp only [sumC] at hs0 hs1 hs2
    refine AM.imp2 (by cbv) (by cbv) ?_ ?_ ih'
    · (simp only [sxs, sxb, and_self, and_true, true_and, implies_true, imp_self, bne_eq_false_iff_eq, Nat.zero_add, Nat.le_refl, Int.toNat_natCast, Int.ofNat_lt, Int.natCast_nonneg, decide_eq_true_eq, decide_eq_false_iff_not, bne_iff_ne, ne_eq]; try dsimp only [Kd.T, Kds.T])
      rw [w64s (by omega)]
    · (simp only [sxs, sxb, and_self, and_true, true_and, implies_true, imp_self, bne_eq_false_iff_eq, Nat.zero_add, Nat.le_refl, Int.toNat_natCast, Int.ofNat_lt, Int.natCast_nonneg, decide_eq_true_eq, decide_eq_false_iff_not, bne_iff_ne, ne_eq, hcn]; try dsimp only [Kd.T, Kds.T])
      simp
      rw [w64 (by omega) (by omega), w64 (by omega) (by omega), w64 (by omega) (by omega)]
      exact ⟨hs0, hs1, hs2⟩
  clear ih
  obtain rfl : i = 4 := by omega
  have hkk' := hkk
  simp only [kindsOk, Bool.and_eq_true] at hkk'
  have e0 := sumC_all _ hkk'.1.1
  have e1 := sumC_all _ hkk'.1.2
  have e2 := sumC_all _ hkk'.2
  rw [h8] at e0
  rw [h9] at e1
  rw [h10] at e2
  rw [e0, e1, e2]
  obtain ⟨t1, t2, t3⟩ := text_parse hm1
  obtain ⟨tx, htx⟩ : ∃ tx, textS m = tx := ⟨_, rfl⟩
  rw [htx] at t1 t2 t3
  have htx' : textS (m.1, (m.2.1.1, m.2.1.2.1, m.2.1.2.2.1, ()), ()) = tx := htx
  refine AM.runTo2 hG 70 400 (by cbv) ?_ ?_
  · (simp only [sxs, sxb, and_self, and_true, true_and, implies_true, imp_self, bne_eq_false_iff_eq, Nat.zero_add, Nat.le_refl, Int.toNat_natCast, Int.ofNat_lt, Int.natCast_nonneg, decide_eq_true_eq, decide_eq_false_iff_not, bne_iff_ne, ne_eq, htx']; try dsimp only [Kd.T, Kds.T])
    omega
  refine AM.pin 14 0 rfl (by (simp only [sxs, sxb, and_self, and_true, true_and, implies_true, imp_self, bne_eq_false_iff_eq, Nat.zero_add, Nat.le_refl, Int.toNat_natCast, Int.ofNat_lt, Int.natCast_nonneg, decide_eq_true_eq, decide_eq_false_iff_not, bne_iff_ne, ne_eq, htx']; try dsimp only [Kd.T, Kds.T]); exact t1) ?_
  refine AM.pin 16 0 rfl (by (simp only [sxs, sxb, and_self, and_true, true_and, implies_true, imp_self, bne_eq_false_iff_eq, Nat.zero_add, Nat.le_refl, Int.toNat_natCast, Int.ofNat_lt, Int.natCast_nonneg, decide_eq_true_eq, decide_eq_false_iff_not, bne_iff_ne, ne_eq, htx', t2]; try dsimp only [Kd.T, Kds.T])) ?_
  refine AM.runTo2 hG 93 400 (by cbv) ?_ ?_
  · (simp only [sxs, sxb, and_self, and_true, true_and, implies_true, imp_self, bne_eq_false_iff_eq, Nat.zero_add, Nat.le_refl, Int.toNat_natCast, Int.ofNat_lt, Int.natCast_nonneg, decide_eq_true_eq, decide_eq_false_iff_not, bne_iff_ne, ne_eq, htx', t2]; try dsimp only [Kd.T, Kds.T])
    have := check_small hm1
    first | exact fun _ => this | exact fun _ => ⟨this, this⟩ | exact this | exact ⟨this, this⟩
  refine AM.sure 92 true rfl ?_ ?_
  · (simp only [sxs, sxb, and_self, and_true, true_and, implies_true, imp_self, bne_eq_false_iff_eq, Nat.zero_add, Nat.le_refl, Int.toNat_natCast, Int.ofNat_lt, Int.natCast_nonneg, decide_eq_true_eq, decide_eq_false_iff_not, bne_iff_ne, ne_eq, htx', t2]; try dsimp only [Kd.T, Kds.T])
    rw [w64 (n := 3 * m.1) (by omega) (by omega), w64 (n := 3 * m.1 + 2) (by omega) (by omega)]
    exact t3
  refine AM.runTo2 hG 103 400 (by cbv) ?_ ?_
  · (simp only [sxs, sxb, and_self, and_true, true_and, implies_true, imp_self, bne_eq_false_iff_eq, Nat.zero_add, Nat.le_refl, Int.toNat_natCast, Int.ofNat_lt, Int.natCast_nonneg, decide_eq_true_eq, decide_eq_false_iff_not, bne_iff_ne, ne_eq]; try dsimp only [Kd.T, Kds.T])
    try simp
  refine AM.sure 102 true rfl ?_ ?_
  · (simp only [sxs, sxb, and_self, and_true, true_and, implies_true, imp_self, bne_eq_false_iff_eq, Nat.zero_add, Nat.le_refl, Int.toNat_natCast, Int.ofNat_lt, Int.natCast_nonneg, decide_eq_true_eq, decide_eq_false_iff_not, bne_iff_ne, ne_eq]; try dsimp only [Kd.T, Kds.T])
  refine AM.run2 hG 100 (by cbv) ?_ ?_
  · (simp only [sxs, sxb, and_self, and_true, true_and, implies_true, imp_self, bne_eq_false_iff_eq, Nat.zero_add, Nat.le_refl, Int.toNat_natCast, Int.ofNat_lt, Int.natCast_nonneg, decide_eq_true_eq, decide_eq_false_iff_not, bne_iff_ne, ne_eq]; try dsimp only [Kd.T, Kds.T])
  refine AM.ret2 hG (by cbv) (by (simp only [sxs, sxb, and_self, and_true, true_and, implies_true, imp_self, bne_eq_false_iff_eq, Nat.zero_add, Nat.le_refl, Int.toNat_natCast, Int.ofNat_lt, Int.natCast_nonneg, decide_eq_true_eq, decide_eq_false_iff_not, bne_iff_ne, ne_eq]; try dsimp only [Kd.T, Kds.T])) (hQ _ _ (FinRo.of (by cbv) (by cbv) ?_ ?_))
  · (simp only [sxs, sxb, and_self, and_true, true_and, implies_true, imp_self, bne_eq_false_iff_eq, Nat.zero_add, Nat.le_refl, Int.toNat_natCast, Int.ofNat_lt, Int.natCast_nonneg, decide_eq_true_eq, decide_eq_false_iff_not, bne_iff_ne, ne_eq]; try dsimp only [Kd.T, Kds.T])
  try (simp only [sxs, sxb, and_self, and_true, true_and, implies_true, imp_self, bne_eq_false_iff_eq, Nat.zero_add, Nat.le_refl, Int.toNat_natCast, Int.ofNat_lt, Int.natCast_nonneg, decide_eq_true_eq, decide_eq_false_iff_not, bne_iff_ne, ne_eq]; try dsimp only [Kd.T, Kds.T])
end Go.Sx.Ytengkdmlnnehgaa
