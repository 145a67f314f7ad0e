/- Sums of wide numbers: sum, Add, Sub, Mul. -/
import Derived.Test.YtpfdknpbiambnaaM2
import Derived.Test.YtpfdknpbiambnaaM7
namespace Go.Sx.Ytpfdknpbiambnaa
open Go Go.Sx Go.Proofs
set_option linter.unusedVariables false
set_option linter.unusedSimpArgs false
set_option maxRecDepth 100000

def magW (a : Wide) : Int := a.2.1 * 18446744073709551616 + a.2.2.1
theorem magW_ge {a : Wide} (h : inW a) : 0 ≤ magW a := by simp only [inW, inU, magW] at *; omega
theorem valW_eq (a : Wide) : valW a = if a.1 = true then -magW a else magW a := by
  simp only [valW, magW]; split <;> omega
theorem addW_val {a b : Wide} (ha : inW a) (hb : inW b) (h : magW a + magW b < 340282366920938463463374607431768211456) : valW (addW a b) = valW a + valW b ∧ magW (addW a b) ≤ magW a + magW b := by
  obtain ⟨an, ah, al, au⟩ := a
  obtain ⟨bn, bh, bl, bu⟩ := b
  unfold addW
  split
  · rename_i e
    simp only at e
    subst e
    simp only [valW_eq, magW, plusW, inW, inU] at *
    constructor
    · split <;> omega
    · omega
  · rename_i e
    have hne : bn = !an := by cases an <;> cases bn <;> simp_all
    subst hne
    split
    · rename_i hl
      simp only [lessW, decide_eq_true_eq] at hl
      simp only [valW_eq, magW, minusW, borrowI, inW, inU] at *
      cases an <;> simp only [Bool.not_true, Bool.not_false, Bool.false_eq_true, if_true, if_false] at * <;> constructor <;> split <;> omega
    · rename_i hl
      simp only [lessW, decide_eq_true_eq] at hl
      simp only [valW_eq, magW, minusW, borrowI, inW, inU] at *
      cases an <;> simp only [Bool.not_true, Bool.not_false, Bool.false_eq_true, if_true, if_false] at * <;> constructor <;> split <;> omega
def magSum : List Wide → Int
  | [] => 0
  | a :: l => magW a + magSum l
def valSum : List Wide → Int
  | [] => 0
  | a :: l => valW a + valSum l
theorem magSum_ge : ∀ {l : List Wide}, (∀ a ∈ l, inW a) → 0 ≤ magSum l
  | [], _ => by simp [magSum]
  | a :: l, h => by
    have h1 := magW_ge (h a (by simp))
    have h2 := magSum_ge (l := l) fun x hx => h x (by simp [hx])
    simp only [magSum]; omega
theorem foldl_val : ∀ (l : List Wide) (a : Wide), inW a → (∀ x ∈ l, inW x) → magW a + magSum l < 340282366920938463463374607431768211456 → valW (l.foldl addW a) = valW a + valSum l ∧ inW (l.foldl addW a)
  | [], a, ha, _, _ => by simp [valSum, ha]
  | b :: l, a, ha, h, hm => by
    have hb := h b (by simp)
    have hl : ∀ x ∈ l, inW x := fun x hx => h x (by simp [hx])
    have h2 := magSum_ge hl
    simp only [magSum] at hm
    obtain ⟨h3, h4⟩ := addW_val ha hb (by omega)
    obtain ⟨h5, h6⟩ := foldl_val l (addW a b) (addW_in ha hb) hl (by omega)
    simp only [List.foldl_cons, valSum]
    exact ⟨by omega, h6⟩
def sumR (lo hi x : Int) : Int × Int := if hi < lo then (0, 2) else outS lo hi x
def S44 : List AV → Option FOut := sigSpec [WithinK, .slice WideK] [I64, I64] (fun x : (Int × Int × Unit) × List Wide × Unit => ((sumR x.1.1 x.1.2.1 (valSum x.2.1)).1, (sumR x.1.1 x.1.2.1 (valSum x.2.1)).2, ())) (fun x : (Int × Int × Unit) × List Wide × Unit => x.2.1.length ≤ 1000 ∧ (∀ a ∈ x.2.1, inW a) ∧ magSum x.2.1 < 340282366920938463463374607431768211456)
theorem fn44 : FnOk Try.prog 44 S44 := by
  refine fn_of (rs := [.tmp 4, .tmp 5]) (env [(17, S17), (57, S57), (50, S50)] ⟨fn17, fn57, fn50, trivial⟩) Try.func44 (by kernel_rfl) rfl rfl Try.ntmps44 ?_
  rintro ⟨⟨(lo : Int), (hi : Int), u⟩, (l : List Wide), u2⟩ ⟨hl, hin, hm⟩ G hG hQ
  simp only at hl hin hm
  obtain ⟨h1, h2⟩ := foldl_val l zeroW (by simp [inW, inU, zeroW]) hin (by simpa [magW, zeroW] using hm)
  have h0 : valW zeroW = 0 := by simp [valW, zeroW]
  rw [h0, Int.zero_add] at h1
  refine AM.run2 hG 100 (by cbv) ?_ ?_
  · (simp only [sxs, sxb, and_self, and_true, true_and, implies_true, imp_self, bne_eq_false_iff_eq, Nat.zero_add, Nat.le_refl, Int.toNat_natCast, Int.ofNat_lt, Int.natCast_nonneg, decide_eq_true_eq, decide_eq_false_iff_not, bne_iff_ne, ne_eq]; try dsimp only [Kd.T, Kds.T, AK.T, AKs.T])
  refine AM.case 10 rfl (fun e => ?_) (fun e => ?_) <;> (simp only [sxs, sxb, and_self, and_true, true_and, implies_true, imp_self, bne_eq_false_iff_eq, Nat.zero_add, Nat.le_refl, Int.toNat_natCast, Int.ofNat_lt, Int.natCast_nonneg, decide_eq_true_eq, decide_eq_false_iff_not, bne_iff_ne, ne_eq] at e; try dsimp only [Kd.T, Kds.T, AK.T, AKs.T] at e)
  · have e : hi < lo := by split at e <;> simp_all
    refine AM.run2 hG 100 (by cbv) ?_ ?_
    · (simp only [sxs, sxb, and_self, and_true, true_and, implies_true, imp_self, bne_eq_false_iff_eq, Nat.zero_add, Nat.le_refl, Int.toNat_natCast, Int.ofNat_lt, Int.natCast_nonneg, decide_eq_true_eq, decide_eq_false_iff_not, bne_iff_ne, ne_eq]; try dsimp only [Kd.T, Kds.T, AK.T, AKs.T])
    refine AM.ret2 hG (by cbv) (by (simp only [sxs, sxb, and_self, and_true, true_and, implies_true, imp_self, bne_eq_false_iff_eq, Nat.zero_add, Nat.le_refl, Int.toNat_natCast, Int.ofNat_lt, Int.natCast_nonneg, decide_eq_true_eq, decide_eq_false_iff_not, bne_iff_ne, ne_eq]; try dsimp only [Kd.T, Kds.T, AK.T, AKs.T])) (hQ _ _ (FinRo.of (by cbv) (by cbv) ?_ ?_))
    · (simp only [sxs, sxb, and_self, and_true, true_and, implies_true, imp_self, bne_eq_false_iff_eq, Nat.zero_add, Nat.le_refl, Int.toNat_natCast, Int.ofNat_lt, Int.natCast_nonneg, decide_eq_true_eq, decide_eq_false_iff_not, bne_iff_ne, ne_eq]; try dsimp only [Kd.T, Kds.T, AK.T, AKs.T])
    try (simp only [sxs, sxb, and_self, and_true, true_and, implies_true, imp_self, bne_eq_false_iff_eq, Nat.zero_add, Nat.le_refl, Int.toNat_natCast, Int.ofNat_lt, Int.natCast_nonneg, decide_eq_true_eq, decide_eq_false_iff_not, bne_iff_ne, ne_eq]; try dsimp only [Kd.T, Kds.T, AK.T, AKs.T])
    simp only [sumR, if_pos e]
    all_goals ((repeat' apply And.intro) <;> first | rfl | assumption | exact trivial)
  · have e : ¬ hi < lo := by split at e <;> simp_all
    refine AM.run2 hG 100 (by cbv) ?_ ?_
    · (simp only [sxs, sxb, and_self, and_true, true_and, implies_true, imp_self, bne_eq_false_iff_eq, Nat.zero_add, Nat.le_refl, Int.toNat_natCast, Int.ofNat_lt, Int.natCast_nonneg, decide_eq_true_eq, decide_eq_false_iff_not, bne_iff_ne, ne_eq]; try dsimp only [Kd.T, Kds.T, AK.T, AKs.T])
      exact ⟨by first | exact h2 | exact ⟨by omega, hin⟩, by first | exact h2 | exact ⟨by omega, hin⟩⟩
    refine AM.ret2 hG (by cbv) (by (simp only [sxs, sxb, and_self, and_true, true_and, implies_true, imp_self, bne_eq_false_iff_eq, Nat.zero_add, Nat.le_refl, Int.toNat_natCast, Int.ofNat_lt, Int.natCast_nonneg, decide_eq_true_eq, decide_eq_false_iff_not, bne_iff_ne, ne_eq]; try dsimp only [Kd.T, Kds.T, AK.T, AKs.T])) (hQ _ _ (FinRo.of (by cbv) (by cbv) ?_ ?_))
    · (simp only [sxs, sxb, and_self, and_true, true_and, implies_true, imp_self, bne_eq_false_iff_eq, Nat.zero_add, Nat.le_refl, Int.toNat_natCast, Int.ofNat_lt, Int.natCast_nonneg, decide_eq_true_eq, decide_eq_false_iff_not, bne_iff_ne, ne_eq]; try dsimp only [Kd.T, Kds.T, AK.T, AKs.T])
    try (simp only [sxs, sxb, and_self, and_true, true_and, implies_true, imp_self, bne_eq_false_iff_eq, Nat.zero_add, Nat.le_refl, Int.toNat_natCast, Int.ofNat_lt, Int.natCast_nonneg, decide_eq_true_eq, decide_eq_false_iff_not, bne_iff_ne, ne_eq]; try dsimp only [Kd.T, Kds.T, AK.T, AKs.T])
    simp only [sumR, if_neg e]
    rw [← h1]
    all_goals ((repeat' apply And.intro) <;> first | rfl | assumption | exact trivial)
theorem ofW_in {n : Int} (h : inI n) : inW (ofW n) ∧ valW (ofW n) = n ∧ magW (ofW n) ≤ 9223372036854775808 := by
  have h1 := mag_in h
  simp only [inW, inU, ofW, valW_eq, magW, magI] at *
  refine ⟨⟨by decide, h1.1⟩, ?_, by omega⟩
  by_cases e : n < 0 <;> simp [e] <;> omega
def negW (a : Wide) : Wide := (!a.1, a.2.1, a.2.2.1, ())
theorem negW_in {a : Wide} (h : inW a) : inW (negW a) ∧ valW (negW a) = -valW a ∧ magW (negW a) = magW a := by
  obtain ⟨an, ah, al, au⟩ := a
  simp only [inW, inU, negW, valW_eq, magW] at *
  refine ⟨h, ?_, trivial⟩
  cases an <;> simp
def S15 : List AV → Option FOut := sigSpec [WithinK, I64, I64] [I64, I64] (fun x : (Int × Int × Unit) × Int × Int × Unit => ((sumR x.1.1 x.1.2.1 (x.2.1 + x.2.2.1)).1, (sumR x.1.1 x.1.2.1 (x.2.1 + x.2.2.1)).2, ())) (fun x : (Int × Int × Unit) × Int × Int × Unit => inI x.2.1 ∧ inI x.2.2.1)
theorem fn15 : FnOk Try.prog 15 S15 := by
  refine fn_of (rs := [.tmp 6, .tmp 7]) (env [(45, S45), (44, S44)] ⟨fn45, fn44, trivial⟩) Try.func15 (by kernel_rfl) rfl rfl Try.ntmps15 ?_
  rintro ⟨⟨(lo : Int), (hi : Int), u⟩, (a : Int), (b : Int), u2⟩ ⟨ha, hb⟩ G hG hQ
  simp only at ha hb
  obtain ⟨a1, a2, a3⟩ := ofW_in ha
  obtain ⟨b1, b2, b3⟩ := ofW_in hb
  have hpre : ([ofW a, ofW b].length ≤ 1000) ∧ (∀ x ∈ [ofW a, ofW b], inW x) ∧ magSum [ofW a, ofW b] < 340282366920938463463374607431768211456 := by
    refine ⟨by simp, ?_, ?_⟩
    · intro x hx
      simp only [List.mem_cons, List.not_mem_nil, or_false] at hx
      rcases hx with rfl | rfl
      · exact a1
      · exact b1
    · simp only [magSum]; omega
  have hv : valSum [ofW a, ofW b] = a + b := by simp only [valSum]; omega
  refine AM.run2 hG 100 (by cbv) ?_ ?_
  · (simp only [sxs, sxb, and_self, and_true, true_and, implies_true, imp_self, bne_eq_false_iff_eq, Nat.zero_add, Nat.le_refl, Int.toNat_natCast, Int.ofNat_lt, Int.natCast_nonneg, decide_eq_true_eq, decide_eq_false_iff_not, bne_iff_ne, ne_eq]; try dsimp only [Kd.T, Kds.T, AK.T, AKs.T])
    first | exact ⟨hpre, hb, ha⟩ | exact ⟨hpre, ha, hb⟩ | exact ⟨ha, hb, hpre⟩ | exact ⟨⟨hpre, hb⟩, ha⟩ | trace_state
  refine AM.ret2 hG (by cbv) (by (simp only [sxs, sxb, and_self, and_true, true_and, implies_true, imp_self, bne_eq_false_iff_eq, Nat.zero_add, Nat.le_refl, Int.toNat_natCast, Int.ofNat_lt, Int.natCast_nonneg, decide_eq_true_eq, decide_eq_false_iff_not, bne_iff_ne, ne_eq]; try dsimp only [Kd.T, Kds.T, AK.T, AKs.T])) (hQ _ _ (FinRo.of (by cbv) (by cbv) ?_ ?_))
  · (simp only [sxs, sxb, and_self, and_true, true_and, implies_true, imp_self, bne_eq_false_iff_eq, Nat.zero_add, Nat.le_refl, Int.toNat_natCast, Int.ofNat_lt, Int.natCast_nonneg, decide_eq_true_eq, decide_eq_false_iff_not, bne_iff_ne, ne_eq]; try dsimp only [Kd.T, Kds.T, AK.T, AKs.T])
  try (simp only [sxs, sxb, and_self, and_true, true_and, implies_true, imp_self, bne_eq_false_iff_eq, Nat.zero_add, Nat.le_refl, Int.toNat_natCast, Int.ofNat_lt, Int.natCast_nonneg, decide_eq_true_eq, decide_eq_false_iff_not, bne_iff_ne, ne_eq]; try dsimp only [Kd.T, Kds.T, AK.T, AKs.T])
  rw [← hv]
  all_goals ((repeat' apply And.intro) <;> first | rfl | assumption | exact trivial)
def S19 : List AV → Option FOut := sigSpec [WithinK, I64, I64] [I64, I64] (fun x : (Int × Int × Unit) × Int × Int × Unit => ((sumR x.1.1 x.1.2.1 (x.2.1 - x.2.2.1)).1, (sumR x.1.1 x.1.2.1 (x.2.1 - x.2.2.1)).2, ())) (fun x : (Int × Int × Unit) × Int × Int × Unit => inI x.2.1 ∧ inI x.2.2.1)
theorem fn19 : FnOk Try.prog 19 S19 := by
  refine fn_of (rs := [.tmp 6, .tmp 7]) (env [(45, S45), (44, S44)] ⟨fn45, fn44, trivial⟩) Try.func19 (by kernel_rfl) rfl rfl Try.ntmps19 ?_
  rintro ⟨⟨(lo : Int), (hi : Int), u⟩, (a : Int), (b : Int), u2⟩ ⟨ha, hb⟩ G hG hQ
  simp only at ha hb
  obtain ⟨a1, a2, a3⟩ := ofW_in ha
  obtain ⟨b1', b2', b3'⟩ := ofW_in hb
  obtain ⟨b1, b2, b3⟩ := negW_in b1'
  have hpre : ([ofW a, negW (ofW b)].length ≤ 1000) ∧ (∀ x ∈ [ofW a, negW (ofW b)], inW x) ∧ magSum [ofW a, negW (ofW b)] < 340282366920938463463374607431768211456 := by
    refine ⟨by simp, ?_, ?_⟩
    · intro x hx
      simp only [List.mem_cons, List.not_mem_nil, or_false] at hx
      rcases hx with rfl | rfl
      · exact a1
      · exact b1
    · simp only [magSum]; omega
  have hv : valSum [ofW a, negW (ofW b)] = a - b := by simp only [valSum]; omega
  refine AM.run2 hG 100 (by cbv) ?_ ?_
  · (simp only [sxs, sxb, and_self, and_true, true_and, implies_true, imp_self, bne_eq_false_iff_eq, Nat.zero_add, Nat.le_refl, Int.toNat_natCast, Int.ofNat_lt, Int.natCast_nonneg, decide_eq_true_eq, decide_eq_false_iff_not, bne_iff_ne, ne_eq]; try dsimp only [Kd.T, Kds.T, AK.T, AKs.T])
    first | exact ⟨ha, hpre, hb⟩ | exact ⟨hpre, ha, hb⟩ | exact ⟨hpre, hb, ha⟩ | exact ⟨hb, ha, hpre⟩ | exact ⟨⟨hpre, ha⟩, hb⟩ | trace_state
  refine AM.ret2 hG (by cbv) (by (simp only [sxs, sxb, and_self, and_true, true_and, implies_true, imp_self, bne_eq_false_iff_eq, Nat.zero_add, Nat.le_refl, Int.toNat_natCast, Int.ofNat_lt, Int.natCast_nonneg, decide_eq_true_eq, decide_eq_false_iff_not, bne_iff_ne, ne_eq]; try dsimp only [Kd.T, Kds.T, AK.T, AKs.T])) (hQ _ _ (FinRo.of (by cbv) (by cbv) ?_ ?_))
  · (simp only [sxs, sxb, and_self, and_true, true_and, implies_true, imp_self, bne_eq_false_iff_eq, Nat.zero_add, Nat.le_refl, Int.toNat_natCast, Int.ofNat_lt, Int.natCast_nonneg, decide_eq_true_eq, decide_eq_false_iff_not, bne_iff_ne, ne_eq]; try dsimp only [Kd.T, Kds.T, AK.T, AKs.T])
  try (simp only [sxs, sxb, and_self, and_true, true_and, implies_true, imp_self, bne_eq_false_iff_eq, Nat.zero_add, Nat.le_refl, Int.toNat_natCast, Int.ofNat_lt, Int.natCast_nonneg, decide_eq_true_eq, decide_eq_false_iff_not, bne_iff_ne, ne_eq]; try dsimp only [Kd.T, Kds.T, AK.T, AKs.T])
  rw [← hv]
  all_goals ((repeat' apply And.intro) <;> first | rfl | assumption | exact trivial)
def S21 : List AV → Option FOut := sigSpec [WithinK, I64, I64] [I64, I64] (fun x : (Int × Int × Unit) × Int × Int × Unit => ((sumR x.1.1 x.1.2.1 (x.2.1 * x.2.2.1)).1, (sumR x.1.1 x.1.2.1 (x.2.1 * x.2.2.1)).2, ())) (fun x : (Int × Int × Unit) × Int × Int × Unit => inI x.2.1 ∧ inI x.2.2.1)
theorem fn21 : FnOk Try.prog 21 S21 := by
  refine fn_of (rs := [.tmp 6, .tmp 7]) (env [(41, S41), (44, S44)] ⟨fn41, fn44, trivial⟩) Try.func21 (by kernel_rfl) rfl rfl Try.ntmps21 ?_
  rintro ⟨⟨(lo : Int), (hi : Int), u⟩, (a : Int), (b : Int), u2⟩ ⟨ha, hb⟩ G hG hQ
  simp only at ha hb
  have h1 := prodW_in ha hb
  have h2 := prodW_val a b
  have hpre : ([prodW a b].length ≤ 1000) ∧ (∀ x ∈ [prodW a b], inW x) ∧ magSum [prodW a b] < 340282366920938463463374607431768211456 := by
    refine ⟨by simp, ?_, ?_⟩
    · intro x hx
      simp only [List.mem_cons, List.not_mem_nil, or_false] at hx
      subst hx
      exact h1
    · simp only [magSum, magW, inW, inU] at *; omega
  have hv : valSum [prodW a b] = a * b := by simp only [valSum]; omega
  refine AM.run2 hG 100 (by cbv) ?_ ?_
  · (simp only [sxs, sxb, and_self, and_true, true_and, implies_true, imp_self, bne_eq_false_iff_eq, Nat.zero_add, Nat.le_refl, Int.toNat_natCast, Int.ofNat_lt, Int.natCast_nonneg, decide_eq_true_eq, decide_eq_false_iff_not, bne_iff_ne, ne_eq]; try dsimp only [Kd.T, Kds.T, AK.T, AKs.T])
    first | exact ⟨hpre, ha, hb⟩ | exact ⟨hpre, hb, ha⟩ | exact ⟨⟨ha, hb⟩, hpre⟩ | trace_state
  refine AM.ret2 hG (by cbv) (by (simp only [sxs, sxb, and_self, and_true, true_and, implies_true, imp_self, bne_eq_false_iff_eq, Nat.zero_add, Nat.le_refl, Int.toNat_natCast, Int.ofNat_lt, Int.natCast_nonneg, decide_eq_true_eq, decide_eq_false_iff_not, bne_iff_ne, ne_eq]; try dsimp only [Kd.T, Kds.T, AK.T, AKs.T])) (hQ _ _ (FinRo.of (by cbv) (by cbv) ?_ ?_))
  · (simp only [sxs, sxb, and_self, and_true, true_and, implies_true, imp_self, bne_eq_false_iff_eq, Nat.zero_add, Nat.le_refl, Int.toNat_natCast, Int.ofNat_lt, Int.natCast_nonneg, decide_eq_true_eq, decide_eq_false_iff_not, bne_iff_ne, ne_eq]; try dsimp only [Kd.T, Kds.T, AK.T, AKs.T])
  try (simp only [sxs, sxb, and_self, and_true, true_and, implies_true, imp_self, bne_eq_false_iff_eq, Nat.zero_add, Nat.le_refl, Int.toNat_natCast, Int.ofNat_lt, Int.natCast_nonneg, decide_eq_true_eq, decide_eq_false_iff_not, bne_iff_ne, ne_eq]; try dsimp only [Kd.T, Kds.T, AK.T, AKs.T])
  rw [← hv]
  all_goals ((repeat' apply And.intro) <;> first | rfl | assumption | exact trivial)
end Go.Sx.Ytpfdknpbiambnaa
