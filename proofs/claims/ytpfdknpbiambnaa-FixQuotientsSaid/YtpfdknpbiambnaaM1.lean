/- Numbers of chapter 01: mag, of, less, Check. -/
import Derived.Test.YtpfdknpbiambnaaSxE
namespace Go.Sx.Ytpfdknpbiambnaa
open Go Go.Sx Go.Proofs
set_option linter.unusedVariables false
set_option linter.unusedSimpArgs false
set_option maxRecDepth 100000

abbrev I64 : Kd := .int .i64
abbrev U64 : Kd := .int .u64
abbrev WideK : Kd := .struct [.bool, .int .u64, .int .u64]
abbrev WithinK : Kd := .struct [.int .i64, .int .i64]
abbrev Wide := Bool × Int × Int × Unit
def inI (n : Int) : Prop := -9223372036854775808 ≤ n ∧ n < 9223372036854775808
def inU (n : Int) : Prop := 0 ≤ n ∧ n < 18446744073709551616
theorem uw (n : Int) : IntKind.u64.wrap n = n % 18446744073709551616 := rfl
def magI (n : Int) : Int := if n < 0 then -n else n
def S53 : List AV → Option FOut := sigSpec [I64] [U64] (fun x : Int × Unit => (magI x.1, ())) (fun x : Int × Unit => inI x.1)
theorem fn53 : FnOk Try.prog 53 S53 := by
  refine fn_of (rs := [.tmp 2]) (env [] trivial) Try.func53 (by kernel_rfl) rfl rfl Try.ntmps53 ?_
  rintro ⟨(n : Int), u⟩ (hn : inI n) G hG hQ
  refine AM.run2 hG 100 (by cbv) (by (simp only [sxs, sxb, and_self, and_true, true_and, implies_true, imp_self, bne_eq_false_iff_eq, Nat.zero_add, Nat.le_refl, Int.toNat_natCast, Int.ofNat_lt, Int.natCast_nonneg, decide_eq_true_eq, decide_eq_false_iff_not, bne_iff_ne, ne_eq]; try dsimp only [Kd.T, Kds.T, AK.T, AKs.T])) ?_
  refine AM.case 4 rfl (fun h => ?_) (fun h => ?_) <;> (simp only [sxs, sxb, and_self, and_true, true_and, implies_true, imp_self, bne_eq_false_iff_eq, Nat.zero_add, Nat.le_refl, Int.toNat_natCast, Int.ofNat_lt, Int.natCast_nonneg, decide_eq_true_eq, decide_eq_false_iff_not, bne_iff_ne, ne_eq] at h; try dsimp only [Kd.T, Kds.T, AK.T, AKs.T] at h)
  · refine AM.run2 hG 100 (by cbv) (by (simp only [sxs, sxb, and_self, and_true, true_and, implies_true, imp_self, bne_eq_false_iff_eq, Nat.zero_add, Nat.le_refl, Int.toNat_natCast, Int.ofNat_lt, Int.natCast_nonneg, decide_eq_true_eq, decide_eq_false_iff_not, bne_iff_ne, ne_eq]; try dsimp only [Kd.T, Kds.T, AK.T, AKs.T])) ?_
    refine AM.ret2 hG (by cbv) (by (simp only [sxs, sxb, and_self, and_true, true_and, implies_true, imp_self, bne_eq_false_iff_eq, Nat.zero_add, Nat.le_refl, Int.toNat_natCast, Int.ofNat_lt, Int.natCast_nonneg, decide_eq_true_eq, decide_eq_false_iff_not, bne_iff_ne, ne_eq]; try dsimp only [Kd.T, Kds.T, AK.T, AKs.T])) (hQ _ _ (FinRo.of (by cbv) (by cbv) ?_ ?_))
    · (simp only [sxs, sxb, and_self, and_true, true_and, implies_true, imp_self, bne_eq_false_iff_eq, Nat.zero_add, Nat.le_refl, Int.toNat_natCast, Int.ofNat_lt, Int.natCast_nonneg, decide_eq_true_eq, decide_eq_false_iff_not, bne_iff_ne, ne_eq]; try dsimp only [Kd.T, Kds.T, AK.T, AKs.T])
    try (simp only [sxs, sxb, and_self, and_true, true_and, implies_true, imp_self, bne_eq_false_iff_eq, Nat.zero_add, Nat.le_refl, Int.toNat_natCast, Int.ofNat_lt, Int.natCast_nonneg, decide_eq_true_eq, decide_eq_false_iff_not, bne_iff_ne, ne_eq]; try dsimp only [Kd.T, Kds.T, AK.T, AKs.T])
    rw [uw, uw]
    simp only [magI, inI] at hn ⊢
    omega
  · refine AM.run2 hG 100 (by cbv) (by (simp only [sxs, sxb, and_self, and_true, true_and, implies_true, imp_self, bne_eq_false_iff_eq, Nat.zero_add, Nat.le_refl, Int.toNat_natCast, Int.ofNat_lt, Int.natCast_nonneg, decide_eq_true_eq, decide_eq_false_iff_not, bne_iff_ne, ne_eq]; try dsimp only [Kd.T, Kds.T, AK.T, AKs.T])) ?_
    refine AM.ret2 hG (by cbv) (by (simp only [sxs, sxb, and_self, and_true, true_and, implies_true, imp_self, bne_eq_false_iff_eq, Nat.zero_add, Nat.le_refl, Int.toNat_natCast, Int.ofNat_lt, Int.natCast_nonneg, decide_eq_true_eq, decide_eq_false_iff_not, bne_iff_ne, ne_eq]; try dsimp only [Kd.T, Kds.T, AK.T, AKs.T])) (hQ _ _ (FinRo.of (by cbv) (by cbv) ?_ ?_))
    · (simp only [sxs, sxb, and_self, and_true, true_and, implies_true, imp_self, bne_eq_false_iff_eq, Nat.zero_add, Nat.le_refl, Int.toNat_natCast, Int.ofNat_lt, Int.natCast_nonneg, decide_eq_true_eq, decide_eq_false_iff_not, bne_iff_ne, ne_eq]; try dsimp only [Kd.T, Kds.T, AK.T, AKs.T])
    try (simp only [sxs, sxb, and_self, and_true, true_and, implies_true, imp_self, bne_eq_false_iff_eq, Nat.zero_add, Nat.le_refl, Int.toNat_natCast, Int.ofNat_lt, Int.natCast_nonneg, decide_eq_true_eq, decide_eq_false_iff_not, bne_iff_ne, ne_eq]; try dsimp only [Kd.T, Kds.T, AK.T, AKs.T])
    rw [uw]
    simp only [magI, inI] at hn ⊢
    omega
theorem mag_in {n : Int} (h : inI n) : inU (magI n) ∧ magI n ≤ 9223372036854775808 := by
  simp only [inI, inU, magI] at *
  omega
def ofW (n : Int) : Wide := (decide (n < 0), 0, magI n, ())
def S45 : List AV → Option FOut := sigSpec [I64] [WideK] (fun x : Int × Unit => (ofW x.1, ())) (fun x : Int × Unit => inI x.1)
theorem fn45 : FnOk Try.prog 45 S45 := by
  refine fn_of (rs := [.cell 2 57]) (env [(53, S53)] ⟨fn53, trivial⟩) Try.func45 (by kernel_rfl) rfl rfl Try.ntmps45 ?_
  rintro ⟨(n : Int), u⟩ (hn : inI n) G hG hQ
  refine AM.run2 hG 100 (by cbv) ?_ ?_
  · (simp only [sxs, sxb, and_self, and_true, true_and, implies_true, imp_self, bne_eq_false_iff_eq, Nat.zero_add, Nat.le_refl, Int.toNat_natCast, Int.ofNat_lt, Int.natCast_nonneg, decide_eq_true_eq, decide_eq_false_iff_not, bne_iff_ne, ne_eq]; try dsimp only [Kd.T, Kds.T, AK.T, AKs.T])
    exact hn
  refine AM.ret2 hG (by cbv) (by (simp only [sxs, sxb, and_self, and_true, true_and, implies_true, imp_self, bne_eq_false_iff_eq, Nat.zero_add, Nat.le_refl, Int.toNat_natCast, Int.ofNat_lt, Int.natCast_nonneg, decide_eq_true_eq, decide_eq_false_iff_not, bne_iff_ne, ne_eq]; try dsimp only [Kd.T, Kds.T, AK.T, AKs.T])) (hQ _ _ (FinRo.of (by cbv) (by cbv) ?_ ?_))
  · (simp only [sxs, sxb, and_self, and_true, true_and, implies_true, imp_self, bne_eq_false_iff_eq, Nat.zero_add, Nat.le_refl, Int.toNat_natCast, Int.ofNat_lt, Int.natCast_nonneg, decide_eq_true_eq, decide_eq_false_iff_not, bne_iff_ne, ne_eq]; try dsimp only [Kd.T, Kds.T, AK.T, AKs.T])
  try (simp only [sxs, sxb, and_self, and_true, true_and, implies_true, imp_self, bne_eq_false_iff_eq, Nat.zero_add, Nat.le_refl, Int.toNat_natCast, Int.ofNat_lt, Int.natCast_nonneg, decide_eq_true_eq, decide_eq_false_iff_not, bne_iff_ne, ne_eq]; try dsimp only [Kd.T, Kds.T, AK.T, AKs.T])
  exact ⟨rfl, rfl, rfl⟩
def lessW (a b : Wide) : Bool := decide (a.2.1 < b.2.1 ∨ a.2.1 = b.2.1 ∧ a.2.2.1 < b.2.2.1)
def S61 : List AV → Option FOut := sigSpec [WideK, WideK] [.bool] (fun x : Wide × Wide × Unit => (lessW x.1 x.2.1, ())) (fun _ => True)
theorem fn61 : FnOk Try.prog 61 S61 := by
  refine fn_of (rs := [.tmp 4]) (env [] trivial) Try.func61 (by kernel_rfl) rfl rfl Try.ntmps61 ?_
  rintro ⟨⟨(n : Bool), (h1 : Int), (l1 : Int), u⟩, ⟨(m : Bool), (h2 : Int), (l2 : Int), u2⟩, u3⟩ _ G hG hQ
  refine AM.run2 hG 100 (by cbv) ?_ ?_
  · (simp only [sxs, sxb, and_self, and_true, true_and, implies_true, imp_self, bne_eq_false_iff_eq, Nat.zero_add, Nat.le_refl, Int.toNat_natCast, Int.ofNat_lt, Int.natCast_nonneg, decide_eq_true_eq, decide_eq_false_iff_not, bne_iff_ne, ne_eq]; try dsimp only [Kd.T, Kds.T, AK.T, AKs.T])
    exact fun a b => ⟨a, b⟩
  refine AM.ret2 hG (by cbv) (by (simp only [sxs, sxb, and_self, and_true, true_and, implies_true, imp_self, bne_eq_false_iff_eq, Nat.zero_add, Nat.le_refl, Int.toNat_natCast, Int.ofNat_lt, Int.natCast_nonneg, decide_eq_true_eq, decide_eq_false_iff_not, bne_iff_ne, ne_eq]; try dsimp only [Kd.T, Kds.T, AK.T, AKs.T])) (hQ _ _ (FinRo.of (by cbv) (by cbv) ?_ ?_))
  · (simp only [sxs, sxb, and_self, and_true, true_and, implies_true, imp_self, bne_eq_false_iff_eq, Nat.zero_add, Nat.le_refl, Int.toNat_natCast, Int.ofNat_lt, Int.natCast_nonneg, decide_eq_true_eq, decide_eq_false_iff_not, bne_iff_ne, ne_eq]; try dsimp only [Kd.T, Kds.T, AK.T, AKs.T])
  try (simp only [sxs, sxb, and_self, and_true, true_and, implies_true, imp_self, bne_eq_false_iff_eq, Nat.zero_add, Nat.le_refl, Int.toNat_natCast, Int.ofNat_lt, Int.natCast_nonneg, decide_eq_true_eq, decide_eq_false_iff_not, bne_iff_ne, ne_eq]; try dsimp only [Kd.T, Kds.T, AK.T, AKs.T])
  by_cases e1 : h1 < h2
  · simp [lessW, ltI, e1]
  · by_cases e2 : h1 = h2
    · subst e2
      simp [lessW, eqI, ltI]
    · simp [lessW, eqI, ltI, e1, e2]
/-- The number that a wide one stands for. -/
def valW (a : Wide) : Int := (if a.1 = true then -1 else 1) * (a.2.1 * 18446744073709551616 + a.2.2.1)
def inW (a : Wide) : Prop := inU a.2.1 ∧ inU a.2.2.1
def outS (lo hi x : Int) : Int × Int := if x < -9223372036854775808 ∨ 9223372036854775807 < x ∨ x < lo ∨ hi < x then (0, 14) else (x, 0)
theorem iw (n : Int) : IntKind.i64.wrap n = if 9223372036854775808 ≤ n % 18446744073709551616 then n % 18446744073709551616 - 18446744073709551616 else n % 18446744073709551616 := by
  have e : IntKind.i64.wrap n = if (true && decide (n % 18446744073709551616 ≥ 9223372036854775808)) = true then n % 18446744073709551616 - 18446744073709551616 else n % 18446744073709551616 := rfl
  rw [e]
  by_cases h : 9223372036854775808 ≤ n % 18446744073709551616
  · rw [if_pos h, if_pos (by simpa using h)]
  · rw [if_neg h, if_neg (by simpa using h)]
theorem iw_in (n : Int) : inI (IntKind.i64.wrap n) := by
  rw [iw]
  unfold inI
  split <;> omega
theorem wr {lo : Int} (h : inU lo) : IntKind.i64.wrap lo = if lo < 9223372036854775808 then lo else lo - 18446744073709551616 := by
  unfold inU at h
  rw [iw]
  split <;> split <;> omega
theorem wn {lo : Int} (h : inU lo) : IntKind.i64.wrap (0 - IntKind.i64.wrap lo) = if lo ≤ 9223372036854775808 then -lo else 18446744073709551616 - lo := by
  rw [wr h, iw]
  unfold inU at h
  split <;> split <;> split <;> omega
theorem valueB1 {n : Bool} {hi lo a b : Int} {u : Unit} (h1 : inU hi) (h2 : inU lo) (h : n = false) (g : ((((¬hi = 0 ∨ (hi = 0 → ¬lo = 0) ∧ ¬ltI (IntKind.i64.wrap lo) 0 = n) ∨ (hi = 0 ∧ lo = 0) ∧ ¬IntKind.i64.wrap lo = 0) ∨ ¬magI (IntKind.i64.wrap lo) = lo) ∨ IntKind.i64.wrap lo < a) ∨ b < IntKind.i64.wrap lo) :
    (outS a b (valW (n, hi, lo, u))).1 = 0 ∧ (outS a b (valW (n, hi, lo, u))).2 = 14 := by
  subst h
  rw [wr h2] at g
  simp only [ltI, decide_eq_false_iff_not, magI] at g
  simp only [outS, valW, Bool.false_eq_true, if_false, inU] at *
  rw [if_pos]
  · exact ⟨rfl, rfl⟩
  · split at g <;> omega
theorem valueB0 {n : Bool} {hi lo a b : Int} {u : Unit} (h1 : inU hi) (h2 : inU lo) (h : n = false) (g : ¬((((¬hi = 0 ∨ (hi = 0 → ¬lo = 0) ∧ ¬ltI (IntKind.i64.wrap lo) 0 = n) ∨ (hi = 0 ∧ lo = 0) ∧ ¬IntKind.i64.wrap lo = 0) ∨ ¬magI (IntKind.i64.wrap lo) = lo) ∨ IntKind.i64.wrap lo < a) ∧ ¬b < IntKind.i64.wrap lo) :
    (outS a b (valW (n, hi, lo, u))).1 = IntKind.i64.wrap lo ∧ (outS a b (valW (n, hi, lo, u))).2 = 0 := by
  subst h
  rw [wr h2] at g ⊢
  simp only [ltI, decide_eq_false_iff_not, magI] at g
  simp only [outS, valW, Bool.false_eq_true, if_false, inU] at *
  rw [if_neg]
  · refine ⟨?_, rfl⟩
    split at g <;> simp only <;> (try split) <;> omega
  · split at g <;> omega
theorem valueA1 {n : Bool} {hi lo a b : Int} {u : Unit} (h1 : inU hi) (h2 : inU lo) (h : n = true) (g : ((((¬hi = 0 ∨ (hi = 0 → ¬lo = 0) ∧ ¬ltI (IntKind.i64.wrap (0 - IntKind.i64.wrap lo)) 0 = n) ∨ (hi = 0 ∧ lo = 0) ∧ ¬IntKind.i64.wrap (0 - IntKind.i64.wrap lo) = 0) ∨ ¬magI (IntKind.i64.wrap (0 - IntKind.i64.wrap lo)) = lo) ∨ IntKind.i64.wrap (0 - IntKind.i64.wrap lo) < a) ∨ b < IntKind.i64.wrap (0 - IntKind.i64.wrap lo)) :
    (outS a b (valW (n, hi, lo, u))).1 = 0 ∧ (outS a b (valW (n, hi, lo, u))).2 = 14 := by
  subst h
  rw [wn h2] at g
  simp only [ltI, decide_eq_true_eq, magI] at g
  simp only [outS, valW, if_true, inU] at *
  rw [if_pos]
  · exact ⟨rfl, rfl⟩
  · split at g <;> omega
theorem valueA0 {n : Bool} {hi lo a b : Int} {u : Unit} (h1 : inU hi) (h2 : inU lo) (h : n = true) (g : ¬((((¬hi = 0 ∨ (hi = 0 → ¬lo = 0) ∧ ¬ltI (IntKind.i64.wrap (0 - IntKind.i64.wrap lo)) 0 = n) ∨ (hi = 0 ∧ lo = 0) ∧ ¬IntKind.i64.wrap (0 - IntKind.i64.wrap lo) = 0) ∨ ¬magI (IntKind.i64.wrap (0 - IntKind.i64.wrap lo)) = lo) ∨ IntKind.i64.wrap (0 - IntKind.i64.wrap lo) < a) ∧ ¬b < IntKind.i64.wrap (0 - IntKind.i64.wrap lo)) :
    (outS a b (valW (n, hi, lo, u))).1 = IntKind.i64.wrap (0 - IntKind.i64.wrap lo) ∧ (outS a b (valW (n, hi, lo, u))).2 = 0 := by
  subst h
  rw [wn h2] at g ⊢
  simp only [ltI, decide_eq_true_eq, magI] at g
  simp only [outS, valW, if_true, inU] at *
  rw [if_neg]
  · refine ⟨?_, rfl⟩
    split at g <;> simp only <;> (try split) <;> omega
  · split at g <;> omega
def S50 : List AV → Option FOut := sigSpec [WideK, WithinK] [I64, I64] (fun x : Wide × (Int × Int × Unit) × Unit => let r := outS x.2.1.1 x.2.1.2.1 (valW x.1); (r.1, r.2, ())) (fun x : Wide × (Int × Int × Unit) × Unit => inW x.1)
theorem fn50 : FnOk Try.prog 50 S50 := by
  refine fn_of (rs := [.tmp 4, .tmp 5]) (env [(53, S53)] ⟨fn53, trivial⟩) Try.func50 (by kernel_rfl) rfl rfl Try.ntmps50 ?_
  rintro ⟨⟨(n : Bool), (hi : Int), (lo : Int), u⟩, ⟨(a : Int), (b : Int), u2⟩, u3⟩ ⟨(h1 : inU hi), (h2 : inU lo)⟩ G hG hQ
  refine AM.run2 hG 100 (by cbv) ?_ ?_
  · (simp only [sxs, sxb, and_self, and_true, true_and, implies_true, imp_self, bne_eq_false_iff_eq, Nat.zero_add, Nat.le_refl, Int.toNat_natCast, Int.ofNat_lt, Int.natCast_nonneg, decide_eq_true_eq, decide_eq_false_iff_not, bne_iff_ne, ne_eq]; try dsimp only [Kd.T, Kds.T, AK.T, AKs.T])
  refine AM.case 12 rfl (fun h => ?_) (fun h => ?_) <;> (simp only [sxs, sxb, and_self, and_true, true_and, implies_true, imp_self, bne_eq_false_iff_eq, Nat.zero_add, Nat.le_refl, Int.toNat_natCast, Int.ofNat_lt, Int.natCast_nonneg, decide_eq_true_eq, decide_eq_false_iff_not, bne_iff_ne, ne_eq] at h; try dsimp only [Kd.T, Kds.T, AK.T, AKs.T] at h)
  · refine AM.run2 hG 100 (by cbv) ?_ ?_
    · (simp only [sxs, sxb, and_self, and_true, true_and, implies_true, imp_self, bne_eq_false_iff_eq, Nat.zero_add, Nat.le_refl, Int.toNat_natCast, Int.ofNat_lt, Int.natCast_nonneg, decide_eq_true_eq, decide_eq_false_iff_not, bne_iff_ne, ne_eq]; try dsimp only [Kd.T, Kds.T, AK.T, AKs.T])
      exact ⟨fun a b => ⟨a, b⟩, fun a b => ⟨a, b⟩, fun _ => iw_in _⟩
    refine AM.case 62 rfl (fun g => ?_) (fun g => ?_) <;> (simp only [sxs, sxb, and_self, and_true, true_and, implies_true, imp_self, bne_eq_false_iff_eq, Nat.zero_add, Nat.le_refl, Int.toNat_natCast, Int.ofNat_lt, Int.natCast_nonneg, decide_eq_true_eq, decide_eq_false_iff_not, bne_iff_ne, ne_eq] at g; try dsimp only [Kd.T, Kds.T, AK.T, AKs.T] at g)
    · refine AM.run2 hG 100 (by cbv) ?_ ?_
      · (simp only [sxs, sxb, and_self, and_true, true_and, implies_true, imp_self, bne_eq_false_iff_eq, Nat.zero_add, Nat.le_refl, Int.toNat_natCast, Int.ofNat_lt, Int.natCast_nonneg, decide_eq_true_eq, decide_eq_false_iff_not, bne_iff_ne, ne_eq]; try dsimp only [Kd.T, Kds.T, AK.T, AKs.T])
      refine AM.ret2 hG (by cbv) (by (simp only [sxs, sxb, and_self, and_true, true_and, implies_true, imp_self, bne_eq_false_iff_eq, Nat.zero_add, Nat.le_refl, Int.toNat_natCast, Int.ofNat_lt, Int.natCast_nonneg, decide_eq_true_eq, decide_eq_false_iff_not, bne_iff_ne, ne_eq]; try dsimp only [Kd.T, Kds.T, AK.T, AKs.T])) (hQ _ _ (FinRo.of (by cbv) (by cbv) ?_ ?_))
      · (simp only [sxs, sxb, and_self, and_true, true_and, implies_true, imp_self, bne_eq_false_iff_eq, Nat.zero_add, Nat.le_refl, Int.toNat_natCast, Int.ofNat_lt, Int.natCast_nonneg, decide_eq_true_eq, decide_eq_false_iff_not, bne_iff_ne, ne_eq]; try dsimp only [Kd.T, Kds.T, AK.T, AKs.T])
      try (simp only [sxs, sxb, and_self, and_true, true_and, implies_true, imp_self, bne_eq_false_iff_eq, Nat.zero_add, Nat.le_refl, Int.toNat_natCast, Int.ofNat_lt, Int.natCast_nonneg, decide_eq_true_eq, decide_eq_false_iff_not, bne_iff_ne, ne_eq]; try dsimp only [Kd.T, Kds.T, AK.T, AKs.T])
      obtain ⟨e1, e2⟩ := valueA1 (u := u) h1 h2 h g
      exact ⟨e1.symm, e2.symm⟩
    · refine AM.run2 hG 100 (by cbv) ?_ ?_
      · (simp only [sxs, sxb, and_self, and_true, true_and, implies_true, imp_self, bne_eq_false_iff_eq, Nat.zero_add, Nat.le_refl, Int.toNat_natCast, Int.ofNat_lt, Int.natCast_nonneg, decide_eq_true_eq, decide_eq_false_iff_not, bne_iff_ne, ne_eq]; try dsimp only [Kd.T, Kds.T, AK.T, AKs.T])
      refine AM.ret2 hG (by cbv) (by (simp only [sxs, sxb, and_self, and_true, true_and, implies_true, imp_self, bne_eq_false_iff_eq, Nat.zero_add, Nat.le_refl, Int.toNat_natCast, Int.ofNat_lt, Int.natCast_nonneg, decide_eq_true_eq, decide_eq_false_iff_not, bne_iff_ne, ne_eq]; try dsimp only [Kd.T, Kds.T, AK.T, AKs.T])) (hQ _ _ (FinRo.of (by cbv) (by cbv) ?_ ?_))
      · (simp only [sxs, sxb, and_self, and_true, true_and, implies_true, imp_self, bne_eq_false_iff_eq, Nat.zero_add, Nat.le_refl, Int.toNat_natCast, Int.ofNat_lt, Int.natCast_nonneg, decide_eq_true_eq, decide_eq_false_iff_not, bne_iff_ne, ne_eq]; try dsimp only [Kd.T, Kds.T, AK.T, AKs.T])
      try (simp only [sxs, sxb, and_self, and_true, true_and, implies_true, imp_self, bne_eq_false_iff_eq, Nat.zero_add, Nat.le_refl, Int.toNat_natCast, Int.ofNat_lt, Int.natCast_nonneg, decide_eq_true_eq, decide_eq_false_iff_not, bne_iff_ne, ne_eq]; try dsimp only [Kd.T, Kds.T, AK.T, AKs.T])
      obtain ⟨e1, e2⟩ := valueA0 (u := u) h1 h2 h g
      exact ⟨e1.symm, e2.symm⟩
  · refine AM.run2 hG 100 (by cbv) ?_ ?_
    · (simp only [sxs, sxb, and_self, and_true, true_and, implies_true, imp_self, bne_eq_false_iff_eq, Nat.zero_add, Nat.le_refl, Int.toNat_natCast, Int.ofNat_lt, Int.natCast_nonneg, decide_eq_true_eq, decide_eq_false_iff_not, bne_iff_ne, ne_eq]; try dsimp only [Kd.T, Kds.T, AK.T, AKs.T])
      exact ⟨fun a b => ⟨a, b⟩, fun a b => ⟨a, b⟩, fun _ => iw_in _⟩
    refine AM.case 62 rfl (fun g => ?_) (fun g => ?_) <;> (simp only [sxs, sxb, and_self, and_true, true_and, implies_true, imp_self, bne_eq_false_iff_eq, Nat.zero_add, Nat.le_refl, Int.toNat_natCast, Int.ofNat_lt, Int.natCast_nonneg, decide_eq_true_eq, decide_eq_false_iff_not, bne_iff_ne, ne_eq] at g; try dsimp only [Kd.T, Kds.T, AK.T, AKs.T] at g)
    · refine AM.run2 hG 100 (by cbv) ?_ ?_
      · (simp only [sxs, sxb, and_self, and_true, true_and, implies_true, imp_self, bne_eq_false_iff_eq, Nat.zero_add, Nat.le_refl, Int.toNat_natCast, Int.ofNat_lt, Int.natCast_nonneg, decide_eq_true_eq, decide_eq_false_iff_not, bne_iff_ne, ne_eq]; try dsimp only [Kd.T, Kds.T, AK.T, AKs.T])
      refine AM.ret2 hG (by cbv) (by (simp only [sxs, sxb, and_self, and_true, true_and, implies_true, imp_self, bne_eq_false_iff_eq, Nat.zero_add, Nat.le_refl, Int.toNat_natCast, Int.ofNat_lt, Int.natCast_nonneg, decide_eq_true_eq, decide_eq_false_iff_not, bne_iff_ne, ne_eq]; try dsimp only [Kd.T, Kds.T, AK.T, AKs.T])) (hQ _ _ (FinRo.of (by cbv) (by cbv) ?_ ?_))
      · (simp only [sxs, sxb, and_self, and_true, true_and, implies_true, imp_self, bne_eq_false_iff_eq, Nat.zero_add, Nat.le_refl, Int.toNat_natCast, Int.ofNat_lt, Int.natCast_nonneg, decide_eq_true_eq, decide_eq_false_iff_not, bne_iff_ne, ne_eq]; try dsimp only [Kd.T, Kds.T, AK.T, AKs.T])
      try (simp only [sxs, sxb, and_self, and_true, true_and, implies_true, imp_self, bne_eq_false_iff_eq, Nat.zero_add, Nat.le_refl, Int.toNat_natCast, Int.ofNat_lt, Int.natCast_nonneg, decide_eq_true_eq, decide_eq_false_iff_not, bne_iff_ne, ne_eq]; try dsimp only [Kd.T, Kds.T, AK.T, AKs.T])
      obtain ⟨e1, e2⟩ := valueB1 (u := u) h1 h2 h g
      exact ⟨e1.symm, e2.symm⟩
    · refine AM.run2 hG 100 (by cbv) ?_ ?_
      · (simp only [sxs, sxb, and_self, and_true, true_and, implies_true, imp_self, bne_eq_false_iff_eq, Nat.zero_add, Nat.le_refl, Int.toNat_natCast, Int.ofNat_lt, Int.natCast_nonneg, decide_eq_true_eq, decide_eq_false_iff_not, bne_iff_ne, ne_eq]; try dsimp only [Kd.T, Kds.T, AK.T, AKs.T])
      refine AM.ret2 hG (by cbv) (by (simp only [sxs, sxb, and_self, and_true, true_and, implies_true, imp_self, bne_eq_false_iff_eq, Nat.zero_add, Nat.le_refl, Int.toNat_natCast, Int.ofNat_lt, Int.natCast_nonneg, decide_eq_true_eq, decide_eq_false_iff_not, bne_iff_ne, ne_eq]; try dsimp only [Kd.T, Kds.T, AK.T, AKs.T])) (hQ _ _ (FinRo.of (by cbv) (by cbv) ?_ ?_))
      · (simp only [sxs, sxb, and_self, and_true, true_and, implies_true, imp_self, bne_eq_false_iff_eq, Nat.zero_add, Nat.le_refl, Int.toNat_natCast, Int.ofNat_lt, Int.natCast_nonneg, decide_eq_true_eq, decide_eq_false_iff_not, bne_iff_ne, ne_eq]; try dsimp only [Kd.T, Kds.T, AK.T, AKs.T])
      try (simp only [sxs, sxb, and_self, and_true, true_and, implies_true, imp_self, bne_eq_false_iff_eq, Nat.zero_add, Nat.le_refl, Int.toNat_natCast, Int.ofNat_lt, Int.natCast_nonneg, decide_eq_true_eq, decide_eq_false_iff_not, bne_iff_ne, ne_eq]; try dsimp only [Kd.T, Kds.T, AK.T, AKs.T])
      obtain ⟨e1, e2⟩ := valueB0 (u := u) h1 h2 h g
      exact ⟨e1.symm, e2.symm⟩
def S17 : List AV → Option FOut := sigSpec [WithinK] [I64] (fun x : (Int × Int × Unit) × Unit => (if x.1.2.1 < x.1.1 then 2 else 0, ())) (fun _ => True)
theorem fn17 : FnOk Try.prog 17 S17 := by
  refine fn_of (rs := [.tmp 2]) (env [] trivial) Try.func17 (by kernel_rfl) rfl rfl Try.ntmps17 ?_
  rintro ⟨⟨(a : Int), (b : Int), u⟩, u3⟩ _ G hG hQ
  refine AM.run2 hG 100 (by cbv) (by (simp only [sxs, sxb, and_self, and_true, true_and, implies_true, imp_self, bne_eq_false_iff_eq, Nat.zero_add, Nat.le_refl, Int.toNat_natCast, Int.ofNat_lt, Int.natCast_nonneg, decide_eq_true_eq, decide_eq_false_iff_not, bne_iff_ne, ne_eq]; try dsimp only [Kd.T, Kds.T, AK.T, AKs.T])) ?_
  refine AM.case 7 rfl (fun h => ?_) (fun h => ?_) <;> (simp only [sxs, sxb, and_self, and_true, true_and, implies_true, imp_self, bne_eq_false_iff_eq, Nat.zero_add, Nat.le_refl, Int.toNat_natCast, Int.ofNat_lt, Int.natCast_nonneg, decide_eq_true_eq, decide_eq_false_iff_not, bne_iff_ne, ne_eq] at h; try dsimp only [Kd.T, Kds.T, AK.T, AKs.T] at h)
  · refine AM.run2 hG 100 (by cbv) (by (simp only [sxs, sxb, and_self, and_true, true_and, implies_true, imp_self, bne_eq_false_iff_eq, Nat.zero_add, Nat.le_refl, Int.toNat_natCast, Int.ofNat_lt, Int.natCast_nonneg, decide_eq_true_eq, decide_eq_false_iff_not, bne_iff_ne, ne_eq]; try dsimp only [Kd.T, Kds.T, AK.T, AKs.T])) ?_
    refine AM.ret2 hG (by cbv) (by (simp only [sxs, sxb, and_self, and_true, true_and, implies_true, imp_self, bne_eq_false_iff_eq, Nat.zero_add, Nat.le_refl, Int.toNat_natCast, Int.ofNat_lt, Int.natCast_nonneg, decide_eq_true_eq, decide_eq_false_iff_not, bne_iff_ne, ne_eq]; try dsimp only [Kd.T, Kds.T, AK.T, AKs.T])) (hQ _ _ (FinRo.of (by cbv) (by cbv) ?_ ?_))
    · (simp only [sxs, sxb, and_self, and_true, true_and, implies_true, imp_self, bne_eq_false_iff_eq, Nat.zero_add, Nat.le_refl, Int.toNat_natCast, Int.ofNat_lt, Int.natCast_nonneg, decide_eq_true_eq, decide_eq_false_iff_not, bne_iff_ne, ne_eq]; try dsimp only [Kd.T, Kds.T, AK.T, AKs.T])
    try (simp only [sxs, sxb, and_self, and_true, true_and, implies_true, imp_self, bne_eq_false_iff_eq, Nat.zero_add, Nat.le_refl, Int.toNat_natCast, Int.ofNat_lt, Int.natCast_nonneg, decide_eq_true_eq, decide_eq_false_iff_not, bne_iff_ne, ne_eq]; try dsimp only [Kd.T, Kds.T, AK.T, AKs.T])
    rw [if_pos h]
  · refine AM.run2 hG 100 (by cbv) (by (simp only [sxs, sxb, and_self, and_true, true_and, implies_true, imp_self, bne_eq_false_iff_eq, Nat.zero_add, Nat.le_refl, Int.toNat_natCast, Int.ofNat_lt, Int.natCast_nonneg, decide_eq_true_eq, decide_eq_false_iff_not, bne_iff_ne, ne_eq]; try dsimp only [Kd.T, Kds.T, AK.T, AKs.T])) ?_
    refine AM.ret2 hG (by cbv) (by (simp only [sxs, sxb, and_self, and_true, true_and, implies_true, imp_self, bne_eq_false_iff_eq, Nat.zero_add, Nat.le_refl, Int.toNat_natCast, Int.ofNat_lt, Int.natCast_nonneg, decide_eq_true_eq, decide_eq_false_iff_not, bne_iff_ne, ne_eq]; try dsimp only [Kd.T, Kds.T, AK.T, AKs.T])) (hQ _ _ (FinRo.of (by cbv) (by cbv) ?_ ?_))
    · (simp only [sxs, sxb, and_self, and_true, true_and, implies_true, imp_self, bne_eq_false_iff_eq, Nat.zero_add, Nat.le_refl, Int.toNat_natCast, Int.ofNat_lt, Int.natCast_nonneg, decide_eq_true_eq, decide_eq_false_iff_not, bne_iff_ne, ne_eq]; try dsimp only [Kd.T, Kds.T, AK.T, AKs.T])
    try (simp only [sxs, sxb, and_self, and_true, true_and, implies_true, imp_self, bne_eq_false_iff_eq, Nat.zero_add, Nat.le_refl, Int.toNat_natCast, Int.ofNat_lt, Int.natCast_nonneg, decide_eq_true_eq, decide_eq_false_iff_not, bne_iff_ne, ne_eq]; try dsimp only [Kd.T, Kds.T, AK.T, AKs.T])
    rw [if_neg (by omega)]

end Go.Sx.Ytpfdknpbiambnaa
