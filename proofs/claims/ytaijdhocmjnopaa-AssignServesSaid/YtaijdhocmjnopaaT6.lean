/- Choices: HALL and OWN of the program. -/
import Derived.Test.YtaijdhocmjnopaaT5
namespace Go.Sx.Ytaijdhocmjnopaa
open Go Go.Sx Go.Proofs
set_option linter.unusedVariables false
set_option linter.unusedSimpArgs false
set_option maxRecDepth 100000

def keysOf (l : List Call) : List (Key × Bool) := l.foldl (fun m c => putD (eqK KeyK) m (keyOf c) true) []
theorem keysOf_take {l : List Call} {i : Nat} (h : i < l.length) : keysOf (l.take (i + 1)) = putD (eqK KeyK) (keysOf (l.take i)) (keyOf (l.getD i zc)) true := by
  rw [take_succD h]; simp [keysOf, List.foldl_append]
theorem eqK_key' (a b : Key) : eqK KeyK a b = decide (a = b) := by
  obtain ⟨a1, a2, a3, a4⟩ := a
  obtain ⟨b1, b2, b3, b4⟩ := b
  rw [Bool.eq_iff_iff]
  simp [eqK, eqKs, eqI]
theorem hasD_put : ∀ (m : List (Key × Bool)) (k k' : Key), hasD (eqK KeyK) (putD (eqK KeyK) m k true) k' = (decide (k' = k) || hasD (eqK KeyK) m k')
  | [], k, k' => by simp [putD, hasD, eqK_key']
  | kv :: m, k, k' => by
    have ih := hasD_put m k k'
    simp only [putD, eqK_key', decide_eq_true_eq]
    by_cases e : k = kv.1
    · rw [if_pos e]
      simp only [hasD, eqK_key', decide_eq_true_eq, ← e]
      by_cases e2 : k' = k <;> simp [e2]
    · rw [if_neg e]
      simp only [hasD, eqK_key', decide_eq_true_eq]
      by_cases e2 : k' = kv.1
      · simp [e2]
      · simp only [if_neg e2]
        simpa only [eqK_key'] using ih
theorem sameB_key (a b : Call) : sameB a b = decide (keyOf b = keyOf a) := by
  rw [Bool.eq_iff_iff]
  simp only [sameB, keyOf, decide_eq_true_eq, Prod.mk.injEq, and_true]
  constructor <;> rintro ⟨h1, h2, h3⟩ <;> exact ⟨h1.symm, h2.symm, h3.symm⟩
theorem has_keys (l : List Call) (c : Call) : hasD (eqK KeyK) (keysOf l) (keyOf c) = hasB l c := by
  have key : ∀ (l : List Call) (m : List (Key × Bool)), hasD (eqK KeyK) (l.foldl (fun m c => putD (eqK KeyK) m (keyOf c) true) m) (keyOf c) = (hasD (eqK KeyK) m (keyOf c) || hasB l c) := by
    intro l
    induction l with
    | nil => intro m; simp [hasB]
    | cons x l ih =>
      intro m
      rw [List.foldl_cons, ih, hasD_put]
      simp only [hasB, List.any_cons, sameB_key x c]
      cases hasD (eqK KeyK) m (keyOf c) <;> cases decide (keyOf c = keyOf x) <;> rfl
  rw [keysOf, key]
  rfl

def S96 : List AV → Option FOut := sigSpec [TableK, I64, I64, CallsK] [CallK, .bool] (fun x : Table × Int × Int × List Call × Unit => ((hallS x.1.2.1 x.2.1 x.2.2.1 x.2.2.2.1).1, (hallS x.1.2.1 x.2.1 x.2.2.1 x.2.2.2.1).2, ())) (fun x : Table × Int × Int × List Call × Unit => x.1.2.1.length ≤ 1000000 ∧ x.2.2.2.1.length ≤ 1000000)
theorem fn96 : FnOk Try.prog 96 S96 := by
  refine fn_ofB (rs := [.cell 8 38, .tmp 9]) (env [(101, S101), (88, S88)] ⟨fn101, fn88, trivial⟩) Try.func96 (by kernel_rfl) rfl rfl Try.ntmps96 ?_
  rintro ⟨⟨(cap : Int), (l : List Call), u⟩, (now : Int), (cy : Int), (gone : List Call), u3⟩ ⟨hl, hg⟩ G hG hB hQ
  simp only at hl hg
  have hB := GB.of hB
  refine AM.run2 hG 100 (by cbv) (by (simp only [sxs, sxb, and_self, and_true, true_and, implies_true, imp_self, bne_eq_false_iff_eq, Nat.zero_add, Nat.le_refl, Int.toNat_natCast, Int.ofNat_lt, Int.natCast_nonneg, decide_eq_true_eq, decide_eq_false_iff_not, bne_iff_ne, ne_eq]; try dsimp only [Kd.T, Kds.T, AK.T, AKs.T])) ?_
  refine AM.loopI (fun i : Nat => (frame 64 [(1, .int .i64 (.t fun _ => now)), (2, .int .i64 (.t fun _ => cy)), (4, .ptr 0 0), (8, .ptr 1 0), (10, .mp 2), (20, .ro CallK fun _ => gone), (21, .int .i64 (.t fun _ => nI gone.length)), (22, .int .i64 (.t fun _ => nI i))],
    [.box 25 [.int .i64 (.t fun _ => cap), .ro CallK fun _ => l], .box 38 (cAt zc), .map 114 KeyK .bool (fun _ => keysOf (gone.take i))])) (fun i => i ≤ gone.length) (fun i => gone.length - i) 0 (by simp) ?_ ?_ ?_
  · cbv; (simp only [sxs, sxb, and_self, and_true, true_and, implies_true, imp_self, bne_eq_false_iff_eq, Nat.zero_add, Nat.le_refl, Int.toNat_natCast, Int.ofNat_lt, Int.natCast_nonneg, decide_eq_true_eq, decide_eq_false_iff_not, bne_iff_ne, ne_eq]; try dsimp only [Kd.T, Kds.T, AK.T, AKs.T]); rfl
  · cbv; (simp only [sxs, sxb, and_self, and_true, true_and, implies_true, imp_self, bne_eq_false_iff_eq, Nat.zero_add, Nat.le_refl, Int.toNat_natCast, Int.ofNat_lt, Int.natCast_nonneg, decide_eq_true_eq, decide_eq_false_iff_not, bne_iff_ne, ne_eq]; try dsimp only [Kd.T, Kds.T, AK.T, AKs.T]); rfl
  rintro i hi ih
  refine AM.run2 hG 100 (by cbv) (by (simp only [sxs, sxb, and_self, and_true, true_and, implies_true, imp_self, bne_eq_false_iff_eq, Nat.zero_add, Nat.le_refl, Int.toNat_natCast, Int.ofNat_lt, Int.natCast_nonneg, decide_eq_true_eq, decide_eq_false_iff_not, bne_iff_ne, ne_eq]; try dsimp only [Kd.T, Kds.T, AK.T, AKs.T])) ?_
  refine AM.case 23 rfl (fun h => ?_) (fun h => ?_) <;> (simp only [sxs, sxb, and_self, and_true, true_and, implies_true, imp_self, bne_eq_false_iff_eq, Nat.zero_add, Nat.le_refl, Int.toNat_natCast, Int.ofNat_lt, Int.natCast_nonneg, decide_eq_true_eq, decide_eq_false_iff_not, bne_iff_ne, ne_eq] at h; try dsimp only [Kd.T, Kds.T, AK.T, AKs.T] at h)
  · refine AM.run2 hG 100 (by cbv) ?_ ?_
    · (simp only [sxs, sxb, and_self, and_true, true_and, implies_true, imp_self, bne_eq_false_iff_eq, Nat.zero_add, Nat.le_refl, Int.toNat_natCast, Int.ofNat_lt, Int.natCast_nonneg, decide_eq_true_eq, decide_eq_false_iff_not, bne_iff_ne, ne_eq]; try dsimp only [Kd.T, Kds.T, AK.T, AKs.T])
      exact h
    refine AM.ren hB [0, 1, 2] (by cbv) (by cbv) (by cbv) ?_ ?_ (ih (i + 1) (by omega) (by omega))
    · (simp only [sxs, sxb, and_self, and_true, true_and, implies_true, imp_self, bne_eq_false_iff_eq, Nat.zero_add, Nat.le_refl, Int.toNat_natCast, Int.ofNat_lt, Int.natCast_nonneg, decide_eq_true_eq, decide_eq_false_iff_not, bne_iff_ne, ne_eq]; try dsimp only [Kd.T, Kds.T, AK.T, AKs.T]); rw [w64s (by omega)]
    · (simp only [sxs, sxb, and_self, and_true, true_and, implies_true, imp_self, bne_eq_false_iff_eq, Nat.zero_add, Nat.le_refl, Int.toNat_natCast, Int.ofNat_lt, Int.natCast_nonneg, decide_eq_true_eq, decide_eq_false_iff_not, bne_iff_ne, ne_eq]; try dsimp only [Kd.T, Kds.T, AK.T, AKs.T])
      rw [keysOf_take h]
  clear ih
  refine AM.run2 hG 100 (by cbv) (by (simp only [sxs, sxb, and_self, and_true, true_and, implies_true, imp_self, bne_eq_false_iff_eq, Nat.zero_add, Nat.le_refl, Int.toNat_natCast, Int.ofNat_lt, Int.natCast_nonneg, decide_eq_true_eq, decide_eq_false_iff_not, bne_iff_ne, ne_eq]; try dsimp only [Kd.T, Kds.T, AK.T, AKs.T])) ?_
  refine AM.loopI (fun x : Nat × Call × Bool => (frame 64 [(1, .int .i64 (.t fun _ => now)), (2, .int .i64 (.t fun _ => cy)), (4, .ptr 0 0), (8, .ptr 1 0), (10, .mp 2), (13, .ptr 3 0), (14, .bool (.t fun _ => x.2.2)), (31, .ro CallK fun _ => l), (32, .int .i64 (.t fun _ => nI l.length)), (33, .int .i64 (.t fun _ => nI x.1))],
    [.box 25 [.int .i64 (.t fun _ => cap), .ro CallK fun _ => l], .box 38 (cAt zc), .map 114 KeyK .bool (fun _ => keysOf gone), .box 38 (cAt x.2.1)]))
    (fun x => x.1 ≤ l.length ∧ firstOf (urgB now cy) (l.drop x.1) = firstOf (urgB now cy) l ∧ (if x.2.2 = true then (x.2.1, true) else firstOf (freeB gone) (l.drop x.1)) = firstOf (freeB gone) l ∧ (x.2.2 = false → x.2.1 = zc)) (fun x => l.length - x.1) (0, zc, false) ⟨by simp, rfl, rfl, fun _ => rfl⟩ ?_ ?_ ?_
  · cbv; (simp only [sxs, sxb, and_self, and_true, true_and, implies_true, imp_self, bne_eq_false_iff_eq, Nat.zero_add, Nat.le_refl, Int.toNat_natCast, Int.ofNat_lt, Int.natCast_nonneg, decide_eq_true_eq, decide_eq_false_iff_not, bne_iff_ne, ne_eq]; try dsimp only [Kd.T, Kds.T, AK.T, AKs.T]); rfl
  · cbv; (simp only [sxs, sxb, and_self, and_true, true_and, implies_true, imp_self, bne_eq_false_iff_eq, Nat.zero_add, Nat.le_refl, Int.toNat_natCast, Int.ofNat_lt, Int.natCast_nonneg, decide_eq_true_eq, decide_eq_false_iff_not, bne_iff_ne, ne_eq]; try dsimp only [Kd.T, Kds.T, AK.T, AKs.T])
    rw [List.take_of_length_le (by omega)]
  rintro ⟨i, f, s⟩ ⟨hi, he, he2, hz⟩ ih
  simp only at hi he he2 hz ih
  refine AM.run2 hG 100 (by cbv) (by (simp only [sxs, sxb, and_self, and_true, true_and, implies_true, imp_self, bne_eq_false_iff_eq, Nat.zero_add, Nat.le_refl, Int.toNat_natCast, Int.ofNat_lt, Int.natCast_nonneg, decide_eq_true_eq, decide_eq_false_iff_not, bne_iff_ne, ne_eq]; try dsimp only [Kd.T, Kds.T, AK.T, AKs.T])) ?_
  refine AM.case 34 rfl (fun h1 => ?_) (fun h1 => ?_) <;> (simp only [sxs, sxb, and_self, and_true, true_and, implies_true, imp_self, bne_eq_false_iff_eq, Nat.zero_add, Nat.le_refl, Int.toNat_natCast, Int.ofNat_lt, Int.natCast_nonneg, decide_eq_true_eq, decide_eq_false_iff_not, bne_iff_ne, ne_eq] at h1; try dsimp only [Kd.T, Kds.T, AK.T, AKs.T] at h1)
  · rw [dropD h1 zc, firstOf] at he
    rw [dropD h1 zc, firstOf] at he2
    refine AM.run2 hG 100 (by cbv) ?_ ?_
    · (simp only [sxs, sxb, and_self, and_true, true_and, implies_true, imp_self, bne_eq_false_iff_eq, Nat.zero_add, Nat.le_refl, Int.toNat_natCast, Int.ofNat_lt, Int.natCast_nonneg, decide_eq_true_eq, decide_eq_false_iff_not, bne_iff_ne, ne_eq]; try dsimp only [Kd.T, Kds.T, AK.T, AKs.T])
      exact h1
    refine AM.case 39 rfl (fun h2 => ?_) (fun h2 => ?_) <;> (simp only [sxs, sxb, and_self, and_true, true_and, implies_true, imp_self, bne_eq_false_iff_eq, Nat.zero_add, Nat.le_refl, Int.toNat_natCast, Int.ofNat_lt, Int.natCast_nonneg, decide_eq_true_eq, decide_eq_false_iff_not, bne_iff_ne, ne_eq] at h2; try dsimp only [Kd.T, Kds.T, AK.T, AKs.T] at h2)
    · replace h2 : hallB (l.getD i zc) = false := h2
      rw [if_neg (by rw [urgB, h2, Bool.false_and]; decide)] at he
      rw [if_neg (show ¬ freeB gone (l.getD i zc) = true by rw [freeB, h2, Bool.false_and]; decide)] at he2
      refine AM.run2 hG 100 (by cbv) (by (simp only [sxs, sxb, and_self, and_true, true_and, implies_true, imp_self, bne_eq_false_iff_eq, Nat.zero_add, Nat.le_refl, Int.toNat_natCast, Int.ofNat_lt, Int.natCast_nonneg, decide_eq_true_eq, decide_eq_false_iff_not, bne_iff_ne, ne_eq]; try dsimp only [Kd.T, Kds.T, AK.T, AKs.T])) ?_
      refine AM.ren hB [0, 1, 2, 3] (by cbv) (by cbv) (by cbv) ?_ ?_ (ih (i + 1, f, s) ⟨by simp only; omega, he, he2, hz⟩ (by simp only; omega))
      · (simp only [sxs, sxb, and_self, and_true, true_and, implies_true, imp_self, bne_eq_false_iff_eq, Nat.zero_add, Nat.le_refl, Int.toNat_natCast, Int.ofNat_lt, Int.natCast_nonneg, decide_eq_true_eq, decide_eq_false_iff_not, bne_iff_ne, ne_eq]; try dsimp only [Kd.T, Kds.T, AK.T, AKs.T]); rw [w64s (by omega)]
      · (simp only [sxs, sxb, and_self, and_true, true_and, implies_true, imp_self, bne_eq_false_iff_eq, Nat.zero_add, Nat.le_refl, Int.toNat_natCast, Int.ofNat_lt, Int.natCast_nonneg, decide_eq_true_eq, decide_eq_false_iff_not, bne_iff_ne, ne_eq]; try dsimp only [Kd.T, Kds.T, AK.T, AKs.T])
    replace h2 : hallB (l.getD i zc) = true := h2
    refine AM.run2 hG 100 (by cbv) ?_ ?_
    · (simp only [sxs, sxb, and_self, and_true, true_and, implies_true, imp_self, bne_eq_false_iff_eq, Nat.zero_add, Nat.le_refl, Int.toNat_natCast, Int.ofNat_lt, Int.natCast_nonneg, decide_eq_true_eq, decide_eq_false_iff_not, bne_iff_ne, ne_eq]; try dsimp only [Kd.T, Kds.T, AK.T, AKs.T])
    refine AM.case 45 rfl (fun h3 => ?_) (fun h3 => ?_)
    · replace h3 : leI cy (IntKind.i64.wrap (now - (l.getD i zc).2.2.2.1)) = true := h3
      rw [if_pos (by rw [urgB, h2, h3]; rfl)] at he
      refine AM.run2 hG 100 (by cbv) ?_ ?_
      · (simp only [sxs, sxb, and_self, and_true, true_and, implies_true, imp_self, bne_eq_false_iff_eq, Nat.zero_add, Nat.le_refl, Int.toNat_natCast, Int.ofNat_lt, Int.natCast_nonneg, decide_eq_true_eq, decide_eq_false_iff_not, bne_iff_ne, ne_eq]; try dsimp only [Kd.T, Kds.T, AK.T, AKs.T])
      refine AM.ret2 hG (by cbv) (by (simp only [sxs, sxb, and_self, and_true, true_and, implies_true, imp_self, bne_eq_false_iff_eq, Nat.zero_add, Nat.le_refl, Int.toNat_natCast, Int.ofNat_lt, Int.natCast_nonneg, decide_eq_true_eq, decide_eq_false_iff_not, bne_iff_ne, ne_eq]; try dsimp only [Kd.T, Kds.T, AK.T, AKs.T])) (hQ _ _ (FinRo.of (by cbv) (by cbv) ?_ ?_))
      · (simp only [sxs, sxb, and_self, and_true, true_and, implies_true, imp_self, bne_eq_false_iff_eq, Nat.zero_add, Nat.le_refl, Int.toNat_natCast, Int.ofNat_lt, Int.natCast_nonneg, decide_eq_true_eq, decide_eq_false_iff_not, bne_iff_ne, ne_eq]; try dsimp only [Kd.T, Kds.T, AK.T, AKs.T])
      try (simp only [sxs, sxb, and_self, and_true, true_and, implies_true, imp_self, bne_eq_false_iff_eq, Nat.zero_add, Nat.le_refl, Int.toNat_natCast, Int.ofNat_lt, Int.natCast_nonneg, decide_eq_true_eq, decide_eq_false_iff_not, bne_iff_ne, ne_eq]; try dsimp only [Kd.T, Kds.T, AK.T, AKs.T])
      simp only [hallS]
      rw [← he, if_pos rfl]
      exact ⟨⟨rfl, rfl, rfl, rfl⟩, rfl⟩
    replace h3 : leI cy (IntKind.i64.wrap (now - (l.getD i zc).2.2.2.1)) = false := h3
    rw [if_neg (by rw [urgB, h2, h3]; decide)] at he
    refine AM.run2 hG 100 (by cbv) ?_ ?_
    · (simp only [sxs, sxb, and_self, and_true, true_and, implies_true, imp_self, bne_eq_false_iff_eq, Nat.zero_add, Nat.le_refl, Int.toNat_natCast, Int.ofNat_lt, Int.natCast_nonneg, decide_eq_true_eq, decide_eq_false_iff_not, bne_iff_ne, ne_eq]; try dsimp only [Kd.T, Kds.T, AK.T, AKs.T])
    have hfree : freeB gone (l.getD i zc) = !(hasB gone (l.getD i zc)) := by rw [freeB, h2, Bool.true_and]
    refine AM.case 59 rfl (fun h4 => ?_) (fun h4 => ?_)
    · replace h4 : (if (!hasD (eqK KeyK) (keysOf gone) (keyOf (l.getD i zc))) = true then !s else false) = true := h4
      rw [ite_and, has_keys, ← hfree, Bool.and_eq_true] at h4
      obtain ⟨h4, h5⟩ := h4
      obtain rfl : s = false := by cases s <;> simp_all
      rw [if_neg (by decide), if_pos h4] at he2
      refine AM.run2 hG 100 (by cbv) (by (simp only [sxs, sxb, and_self, and_true, true_and, implies_true, imp_self, bne_eq_false_iff_eq, Nat.zero_add, Nat.le_refl, Int.toNat_natCast, Int.ofNat_lt, Int.natCast_nonneg, decide_eq_true_eq, decide_eq_false_iff_not, bne_iff_ne, ne_eq]; try dsimp only [Kd.T, Kds.T, AK.T, AKs.T])) ?_
      obtain ⟨g, hgd⟩ : ∃ g, l.getD i zc = g := ⟨_, rfl⟩
      rw [hgd] at he2
      refine AM.ren hB [0, 1, 2, 3] (by cbv) (by cbv) (by cbv) ?_ ?_ (ih (i + 1, g, true) ⟨by simp only; omega, he, by rw [if_pos rfl]; exact he2, fun hh => by cases hh⟩ (by simp only; omega))
      · (simp only [sxs, sxb, and_self, and_true, true_and, implies_true, imp_self, bne_eq_false_iff_eq, Nat.zero_add, Nat.le_refl, Int.toNat_natCast, Int.ofNat_lt, Int.natCast_nonneg, decide_eq_true_eq, decide_eq_false_iff_not, bne_iff_ne, ne_eq]; try dsimp only [Kd.T, Kds.T, AK.T, AKs.T]); rw [w64s (by omega)]
      · (simp only [sxs, sxb, and_self, and_true, true_and, implies_true, imp_self, bne_eq_false_iff_eq, Nat.zero_add, Nat.le_refl, Int.toNat_natCast, Int.ofNat_lt, Int.natCast_nonneg, decide_eq_true_eq, decide_eq_false_iff_not, bne_iff_ne, ne_eq]; try dsimp only [Kd.T, Kds.T, AK.T, AKs.T])
        subst hgd
        exact ⟨rfl, rfl, rfl, rfl⟩
    · replace h4 : (if (!hasD (eqK KeyK) (keysOf gone) (keyOf (l.getD i zc))) = true then !s else false) = false := h4
      rw [ite_and, has_keys, ← hfree] at h4
      have he3 : (if s = true then (f, true) else firstOf (freeB gone) (l.drop (i + 1))) = firstOf (freeB gone) l := by
        rw [← he2]
        cases s
        · rw [if_neg (by decide), if_neg (by decide), if_neg (by rintro h; rw [h] at h4; cases h4)]
        · rfl
      refine AM.run2 hG 100 (by cbv) (by (simp only [sxs, sxb, and_self, and_true, true_and, implies_true, imp_self, bne_eq_false_iff_eq, Nat.zero_add, Nat.le_refl, Int.toNat_natCast, Int.ofNat_lt, Int.natCast_nonneg, decide_eq_true_eq, decide_eq_false_iff_not, bne_iff_ne, ne_eq]; try dsimp only [Kd.T, Kds.T, AK.T, AKs.T])) ?_
      refine AM.ren hB [0, 1, 2, 3] (by cbv) (by cbv) (by cbv) ?_ ?_ (ih (i + 1, f, s) ⟨by simp only; omega, he, he3, hz⟩ (by simp only; omega))
      · (simp only [sxs, sxb, and_self, and_true, true_and, implies_true, imp_self, bne_eq_false_iff_eq, Nat.zero_add, Nat.le_refl, Int.toNat_natCast, Int.ofNat_lt, Int.natCast_nonneg, decide_eq_true_eq, decide_eq_false_iff_not, bne_iff_ne, ne_eq]; try dsimp only [Kd.T, Kds.T, AK.T, AKs.T]); rw [w64s (by omega)]
      · (simp only [sxs, sxb, and_self, and_true, true_and, implies_true, imp_self, bne_eq_false_iff_eq, Nat.zero_add, Nat.le_refl, Int.toNat_natCast, Int.ofNat_lt, Int.natCast_nonneg, decide_eq_true_eq, decide_eq_false_iff_not, bne_iff_ne, ne_eq]; try dsimp only [Kd.T, Kds.T, AK.T, AKs.T])
  rw [List.drop_of_length_le (by omega)] at he he2
  have hs : hallS l now cy gone = (f, s) := by
    rw [hallS, ← he, ← he2]
    cases s
    · rw [hz rfl]; rfl
    · rfl
  clear ih
  refine AM.run2 hG 100 (by cbv) (by (simp only [sxs, sxb, and_self, and_true, true_and, implies_true, imp_self, bne_eq_false_iff_eq, Nat.zero_add, Nat.le_refl, Int.toNat_natCast, Int.ofNat_lt, Int.natCast_nonneg, decide_eq_true_eq, decide_eq_false_iff_not, bne_iff_ne, ne_eq]; try dsimp only [Kd.T, Kds.T, AK.T, AKs.T])) ?_
  refine AM.ret2 hG (by cbv) (by (simp only [sxs, sxb, and_self, and_true, true_and, implies_true, imp_self, bne_eq_false_iff_eq, Nat.zero_add, Nat.le_refl, Int.toNat_natCast, Int.ofNat_lt, Int.natCast_nonneg, decide_eq_true_eq, decide_eq_false_iff_not, bne_iff_ne, ne_eq]; try dsimp only [Kd.T, Kds.T, AK.T, AKs.T])) (hQ _ _ (FinRo.of (by cbv) (by cbv) ?_ ?_))
  · (simp only [sxs, sxb, and_self, and_true, true_and, implies_true, imp_self, bne_eq_false_iff_eq, Nat.zero_add, Nat.le_refl, Int.toNat_natCast, Int.ofNat_lt, Int.natCast_nonneg, decide_eq_true_eq, decide_eq_false_iff_not, bne_iff_ne, ne_eq]; try dsimp only [Kd.T, Kds.T, AK.T, AKs.T])
  try (simp only [sxs, sxb, and_self, and_true, true_and, implies_true, imp_self, bne_eq_false_iff_eq, Nat.zero_add, Nat.le_refl, Int.toNat_natCast, Int.ofNat_lt, Int.natCast_nonneg, decide_eq_true_eq, decide_eq_false_iff_not, bne_iff_ne, ne_eq]; try dsimp only [Kd.T, Kds.T, AK.T, AKs.T])
  rw [hs]
  try exact ⟨⟨rfl, rfl, rfl, rfl⟩, rfl⟩
end Go.Sx.Ytaijdhocmjnopaa
