/- bits.Len64, LeadingZeros64. -/
import Derived.Test.YtpfdknpbiambnaaM6
namespace Go.Sx.Ytpfdknpbiambnaa
open Go Go.Sx Go.Proofs
set_option linter.unusedVariables false
set_option linter.unusedSimpArgs false
set_option maxRecDepth 100000

def len8 (x : Int) : Int := if x < 1 then 0 else if x < 2 then 1 else if x < 4 then 2 else if x < 8 then 3 else if x < 16 then 4 else if x < 32 then 5 else if x < 64 then 6 else if x < 128 then 7 else 8
def len16 (x : Int) : Int := if 256 ≤ x then 8 + len8 (x / 256) else len8 x
def len32 (x : Int) : Int := if 65536 ≤ x then 16 + len16 (x / 65536) else len16 x
def len64 (x : Int) : Int := if 4294967296 ≤ x then 32 + len32 (x / 4294967296) else len32 x
theorem shr16 (n : Int) : n.fdiv (2 ^ min (Int.toNat 16) IntKind.u64.bits) = n / 65536 := by
  have e : (2 ^ min (Int.toNat 16) IntKind.u64.bits : Int) = 65536 := by rfl
  rw [e, Int.fdiv_eq_ediv_of_nonneg _ (by decide)]
theorem shr8 (n : Int) : n.fdiv (2 ^ min (Int.toNat 8) IntKind.u64.bits) = n / 256 := by
  have e : (2 ^ min (Int.toNat 8) IntKind.u64.bits : Int) = 256 := by rfl
  rw [e, Int.fdiv_eq_ediv_of_nonneg _ (by decide)]
theorem w8 {z : Int} (h : 0 ≤ z ∧ z < 256) : IntKind.u8.wrap z = z := by
  have e : IntKind.u8.wrap z = z % 256 := rfl
  rw [e]; omega
theorem tab_ok {s : ByteArray} (h : ((List.range 256).all fun i => eqI (byteAt s (i : Int)) (len8 (i : Int))) = true) {z : Int} (hz : 0 ≤ z ∧ z < 256) : byteAt s z = len8 z := by
  obtain ⟨n, rfl⟩ := Int.eq_ofNat_of_zero_le hz.1
  have := List.all_eq_true.1 h n (by simp; omega)
  simpa [eqI] using this
theorem len8_le (z : Int) : 0 ≤ len8 z ∧ len8 z ≤ 8 := by
  unfold len8
  repeat' split
  all_goals omega
theorem leaf {s : ByteArray} (h : ((List.range 256).all fun i => eqI (byteAt s (i : Int)) (len8 (i : Int))) = true) {z k : Int} (hz : 0 ≤ z ∧ z < 256) (hk : 0 ≤ k ∧ k ≤ 56) : IntKind.i64.wrap (k + IntKind.i64.wrap (byteAt s (IntKind.u8.wrap z))) = k + len8 z := by
  have := len8_le z
  rw [w8 hz, tab_ok h hz, w64 (n := len8 z) (by omega) (by omega), w64 (by omega) (by omega)]
def S65 : List AV → Option FOut := sigSpec [U64] [I64] (fun x : Int × Unit => (len64 x.1, ())) (fun x : Int × Unit => inU x.1)
theorem fn65 : FnOk Try.prog 65 S65 := by
  refine fn_of (rs := [.tmp 2]) (env [] trivial) Try.func65 (by kernel_rfl) rfl rfl Try.ntmps65 ?_
  rintro ⟨(x : Int), u⟩ (hx : inU x) G hG hQ
  refine AM.run2 hG 200 (by cbv) ?_ ?_
  · (simp only [sxs, sxb, and_self, and_true, true_and, implies_true, imp_self, bne_eq_false_iff_eq, Nat.zero_add, Nat.le_refl, Int.toNat_natCast, Int.ofNat_lt, Int.natCast_nonneg, decide_eq_true_eq, decide_eq_false_iff_not, bne_iff_ne, ne_eq]; try dsimp only [Kd.T, Kds.T, AK.T, AKs.T])
  refine AM.case 4 rfl (fun h => ?_) (fun h => ?_) <;> (simp only [sxs, sxb, and_self, and_true, true_and, implies_true, imp_self, bne_eq_false_iff_eq, Nat.zero_add, Nat.le_refl, Int.toNat_natCast, Int.ofNat_lt, Int.natCast_nonneg, decide_eq_true_eq, decide_eq_false_iff_not, bne_iff_ne, ne_eq] at h; try dsimp only [Kd.T, Kds.T, AK.T, AKs.T] at h)
  · refine AM.run2 hG 200 (by cbv) ?_ ?_
    · (simp only [sxs, sxb, and_self, and_true, true_and, implies_true, imp_self, bne_eq_false_iff_eq, Nat.zero_add, Nat.le_refl, Int.toNat_natCast, Int.ofNat_lt, Int.natCast_nonneg, decide_eq_true_eq, decide_eq_false_iff_not, bne_iff_ne, ne_eq]; try dsimp only [Kd.T, Kds.T, AK.T, AKs.T])
      try decide
    refine AM.case 8 rfl (fun h2 => ?_) (fun h2 => ?_) <;> (simp only [sxs, sxb, and_self, and_true, true_and, implies_true, imp_self, bne_eq_false_iff_eq, Nat.zero_add, Nat.le_refl, Int.toNat_natCast, Int.ofNat_lt, Int.natCast_nonneg, decide_eq_true_eq, decide_eq_false_iff_not, bne_iff_ne, ne_eq] at h2; try dsimp only [Kd.T, Kds.T, AK.T, AKs.T] at h2)
    all_goals
      refine AM.run2 hG 200 (by cbv) ?_ ?_
      · (simp only [sxs, sxb, and_self, and_true, true_and, implies_true, imp_self, bne_eq_false_iff_eq, Nat.zero_add, Nat.le_refl, Int.toNat_natCast, Int.ofNat_lt, Int.natCast_nonneg, decide_eq_true_eq, decide_eq_false_iff_not, bne_iff_ne, ne_eq]; try dsimp only [Kd.T, Kds.T, AK.T, AKs.T])
        try decide
      refine AM.case 14 rfl (fun h3 => ?_) (fun h3 => ?_) <;> (simp only [sxs, sxb, and_self, and_true, true_and, implies_true, imp_self, bne_eq_false_iff_eq, Nat.zero_add, Nat.le_refl, Int.toNat_natCast, Int.ofNat_lt, Int.natCast_nonneg, decide_eq_true_eq, decide_eq_false_iff_not, bne_iff_ne, ne_eq] at h3; try dsimp only [Kd.T, Kds.T, AK.T, AKs.T] at h3)
      all_goals
        refine AM.run2 hG 200 (by cbv) ?_ ?_
        · (simp only [sxs, sxb, and_self, and_true, true_and, implies_true, imp_self, bne_eq_false_iff_eq, Nat.zero_add, Nat.le_refl, Int.toNat_natCast, Int.ofNat_lt, Int.natCast_nonneg, decide_eq_true_eq, decide_eq_false_iff_not, bne_iff_ne, ne_eq]; try dsimp only [Kd.T, Kds.T, AK.T, AKs.T])
          simp only [shr32, shr16, shr8] at *
          unfold inU at hx
          rw [w8 (by omega)]
          first | exact ⟨⟨by omega, Int.lt_of_lt_of_le (b := 256) (by omega) (by decide)⟩, by decide⟩ | exact ⟨by omega, Int.lt_of_lt_of_le (b := 256) (by omega) (by decide)⟩
        refine AM.ret2 hG (by cbv) (by (simp only [sxs, sxb, and_self, and_true, true_and, implies_true, imp_self, bne_eq_false_iff_eq, Nat.zero_add, Nat.le_refl, Int.toNat_natCast, Int.ofNat_lt, Int.natCast_nonneg, decide_eq_true_eq, decide_eq_false_iff_not, bne_iff_ne, ne_eq]; try dsimp only [Kd.T, Kds.T, AK.T, AKs.T])) (hQ _ _ (FinRo.of (by cbv) (by cbv) ?_ ?_))
        · (simp only [sxs, sxb, and_self, and_true, true_and, implies_true, imp_self, bne_eq_false_iff_eq, Nat.zero_add, Nat.le_refl, Int.toNat_natCast, Int.ofNat_lt, Int.natCast_nonneg, decide_eq_true_eq, decide_eq_false_iff_not, bne_iff_ne, ne_eq]; try dsimp only [Kd.T, Kds.T, AK.T, AKs.T])
        try (simp only [sxs, sxb, and_self, and_true, true_and, implies_true, imp_self, bne_eq_false_iff_eq, Nat.zero_add, Nat.le_refl, Int.toNat_natCast, Int.ofNat_lt, Int.natCast_nonneg, decide_eq_true_eq, decide_eq_false_iff_not, bne_iff_ne, ne_eq]; try dsimp only [Kd.T, Kds.T, AK.T, AKs.T])
        simp only [shr32, shr16, shr8] at *
        unfold inU at hx
        rw [leaf (by kernel_rfl) (by omega) (by decide)]
        simp only [len64, len32, len16]
        omega
  · refine AM.run2 hG 200 (by cbv) ?_ ?_
    · (simp only [sxs, sxb, and_self, and_true, true_and, implies_true, imp_self, bne_eq_false_iff_eq, Nat.zero_add, Nat.le_refl, Int.toNat_natCast, Int.ofNat_lt, Int.natCast_nonneg, decide_eq_true_eq, decide_eq_false_iff_not, bne_iff_ne, ne_eq]; try dsimp only [Kd.T, Kds.T, AK.T, AKs.T])
      try decide
    refine AM.case 8 rfl (fun h2 => ?_) (fun h2 => ?_) <;> (simp only [sxs, sxb, and_self, and_true, true_and, implies_true, imp_self, bne_eq_false_iff_eq, Nat.zero_add, Nat.le_refl, Int.toNat_natCast, Int.ofNat_lt, Int.natCast_nonneg, decide_eq_true_eq, decide_eq_false_iff_not, bne_iff_ne, ne_eq] at h2; try dsimp only [Kd.T, Kds.T, AK.T, AKs.T] at h2)
    all_goals
      refine AM.run2 hG 200 (by cbv) ?_ ?_
      · (simp only [sxs, sxb, and_self, and_true, true_and, implies_true, imp_self, bne_eq_false_iff_eq, Nat.zero_add, Nat.le_refl, Int.toNat_natCast, Int.ofNat_lt, Int.natCast_nonneg, decide_eq_true_eq, decide_eq_false_iff_not, bne_iff_ne, ne_eq]; try dsimp only [Kd.T, Kds.T, AK.T, AKs.T])
        try decide
      refine AM.case 14 rfl (fun h3 => ?_) (fun h3 => ?_) <;> (simp only [sxs, sxb, and_self, and_true, true_and, implies_true, imp_self, bne_eq_false_iff_eq, Nat.zero_add, Nat.le_refl, Int.toNat_natCast, Int.ofNat_lt, Int.natCast_nonneg, decide_eq_true_eq, decide_eq_false_iff_not, bne_iff_ne, ne_eq] at h3; try dsimp only [Kd.T, Kds.T, AK.T, AKs.T] at h3)
      all_goals
        refine AM.run2 hG 200 (by cbv) ?_ ?_
        · (simp only [sxs, sxb, and_self, and_true, true_and, implies_true, imp_self, bne_eq_false_iff_eq, Nat.zero_add, Nat.le_refl, Int.toNat_natCast, Int.ofNat_lt, Int.natCast_nonneg, decide_eq_true_eq, decide_eq_false_iff_not, bne_iff_ne, ne_eq]; try dsimp only [Kd.T, Kds.T, AK.T, AKs.T])
          simp only [shr32, shr16, shr8] at *
          unfold inU at hx
          rw [w8 (by omega)]
          first | exact ⟨⟨by omega, Int.lt_of_lt_of_le (b := 256) (by omega) (by decide)⟩, by decide⟩ | exact ⟨by omega, Int.lt_of_lt_of_le (b := 256) (by omega) (by decide)⟩
        refine AM.ret2 hG (by cbv) (by (simp only [sxs, sxb, and_self, and_true, true_and, implies_true, imp_self, bne_eq_false_iff_eq, Nat.zero_add, Nat.le_refl, Int.toNat_natCast, Int.ofNat_lt, Int.natCast_nonneg, decide_eq_true_eq, decide_eq_false_iff_not, bne_iff_ne, ne_eq]; try dsimp only [Kd.T, Kds.T, AK.T, AKs.T])) (hQ _ _ (FinRo.of (by cbv) (by cbv) ?_ ?_))
        · (simp only [sxs, sxb, and_self, and_true, true_and, implies_true, imp_self, bne_eq_false_iff_eq, Nat.zero_add, Nat.le_refl, Int.toNat_natCast, Int.ofNat_lt, Int.natCast_nonneg, decide_eq_true_eq, decide_eq_false_iff_not, bne_iff_ne, ne_eq]; try dsimp only [Kd.T, Kds.T, AK.T, AKs.T])
        try (simp only [sxs, sxb, and_self, and_true, true_and, implies_true, imp_self, bne_eq_false_iff_eq, Nat.zero_add, Nat.le_refl, Int.toNat_natCast, Int.ofNat_lt, Int.natCast_nonneg, decide_eq_true_eq, decide_eq_false_iff_not, bne_iff_ne, ne_eq]; try dsimp only [Kd.T, Kds.T, AK.T, AKs.T])
        simp only [shr32, shr16, shr8] at *
        unfold inU at hx
        rw [leaf (by kernel_rfl) (by omega) (by decide)]
        simp only [len64, len32, len16]
        omega
theorem len64_le {x : Int} (h : inU x) : 0 ≤ len64 x ∧ len64 x ≤ 64 := by
  have h8 := fun z => len8_le z
  simp only [len64, len32, len16]
  split <;> split <;> split <;> rename_i a b c <;> (have := h8 (x / 4294967296 / 65536 / 256); have := h8 (x / 4294967296 / 65536); have := h8 (x / 4294967296 / 256); have := h8 (x / 4294967296); have := h8 (x / 65536 / 256); have := h8 (x / 65536); have := h8 (x / 256); have := h8 x; omega)
def S64 : List AV → Option FOut := sigSpec [U64] [I64] (fun x : Int × Unit => (64 - len64 x.1, ())) (fun x : Int × Unit => inU x.1)
theorem fn64 : FnOk Try.prog 64 S64 := by
  refine fn_of (rs := [.tmp 2]) (env [(65, S65)] ⟨fn65, trivial⟩) Try.func64 (by kernel_rfl) rfl rfl Try.ntmps64 ?_
  rintro ⟨(x : Int), u⟩ (hx : inU x) G hG hQ
  have := len64_le hx
  refine AM.run2 hG 200 (by cbv) ?_ ?_
  · (simp only [sxs, sxb, and_self, and_true, true_and, implies_true, imp_self, bne_eq_false_iff_eq, Nat.zero_add, Nat.le_refl, Int.toNat_natCast, Int.ofNat_lt, Int.natCast_nonneg, decide_eq_true_eq, decide_eq_false_iff_not, bne_iff_ne, ne_eq]; try dsimp only [Kd.T, Kds.T, AK.T, AKs.T])
    exact hx
  refine AM.ret2 hG (by cbv) (by (simp only [sxs, sxb, and_self, and_true, true_and, implies_true, imp_self, bne_eq_false_iff_eq, Nat.zero_add, Nat.le_refl, Int.toNat_natCast, Int.ofNat_lt, Int.natCast_nonneg, decide_eq_true_eq, decide_eq_false_iff_not, bne_iff_ne, ne_eq]; try dsimp only [Kd.T, Kds.T, AK.T, AKs.T])) (hQ _ _ (FinRo.of (by cbv) (by cbv) ?_ ?_))
  · (simp only [sxs, sxb, and_self, and_true, true_and, implies_true, imp_self, bne_eq_false_iff_eq, Nat.zero_add, Nat.le_refl, Int.toNat_natCast, Int.ofNat_lt, Int.natCast_nonneg, decide_eq_true_eq, decide_eq_false_iff_not, bne_iff_ne, ne_eq]; try dsimp only [Kd.T, Kds.T, AK.T, AKs.T])
  try (simp only [sxs, sxb, and_self, and_true, true_and, implies_true, imp_self, bne_eq_false_iff_eq, Nat.zero_add, Nat.le_refl, Int.toNat_natCast, Int.ofNat_lt, Int.natCast_nonneg, decide_eq_true_eq, decide_eq_false_iff_not, bne_iff_ne, ne_eq]; try dsimp only [Kd.T, Kds.T, AK.T, AKs.T])
  exact w64 (by omega) (by omega)
theorem len8_pow {z : Int} (h : 1 ≤ z ∧ z < 256) : ∃ k : Nat, k ≤ 7 ∧ len8 z = k + 1 ∧ (2 : Int) ^ k ≤ z ∧ z < 2 * 2 ^ k := by
  unfold len8
  rw [if_neg (by omega)]
  repeat' split
  · exact ⟨0, by omega, rfl, by simp; omega, by simp; omega⟩
  · exact ⟨1, by omega, rfl, by simp; omega, by simp; omega⟩
  · exact ⟨2, by omega, rfl, by simp; omega, by simp; omega⟩
  · exact ⟨3, by omega, rfl, by simp; omega, by simp; omega⟩
  · exact ⟨4, by omega, rfl, by simp; omega, by simp; omega⟩
  · exact ⟨5, by omega, rfl, by simp; omega, by simp; omega⟩
  · exact ⟨6, by omega, rfl, by simp; omega, by simp; omega⟩
  · exact ⟨7, by omega, rfl, by simp; omega, by simp; omega⟩
theorem len16_pow {z : Int} (h : 1 ≤ z ∧ z < 65536) : ∃ k : Nat, k ≤ 15 ∧ len16 z = k + 1 ∧ (2 : Int) ^ k ≤ z ∧ z < 2 * 2 ^ k := by
  unfold len16
  split
  · obtain ⟨k, h1, h2, h3, h4⟩ := len8_pow (z := z / 256) (by omega)
    refine ⟨k + 8, by omega, by rw [h2]; omega, ?_, ?_⟩
    · rw [Int.pow_add, show (2 : Int) ^ 8 = 256 from rfl]; omega
    · rw [Int.pow_add, show (2 : Int) ^ 8 = 256 from rfl]; omega
  · obtain ⟨k, h1, h2, h3, h4⟩ := len8_pow (z := z) (by omega)
    exact ⟨k, by omega, h2, h3, h4⟩
theorem len32_pow {z : Int} (h : 1 ≤ z ∧ z < 4294967296) : ∃ k : Nat, k ≤ 31 ∧ len32 z = k + 1 ∧ (2 : Int) ^ k ≤ z ∧ z < 2 * 2 ^ k := by
  unfold len32
  split
  · obtain ⟨k, h1, h2, h3, h4⟩ := len16_pow (z := z / 65536) (by omega)
    refine ⟨k + 16, by omega, by rw [h2]; omega, ?_, ?_⟩
    · rw [Int.pow_add, show (2 : Int) ^ 16 = 65536 from rfl]; omega
    · rw [Int.pow_add, show (2 : Int) ^ 16 = 65536 from rfl]; omega
  · obtain ⟨k, h1, h2, h3, h4⟩ := len16_pow (z := z) (by omega)
    exact ⟨k, by omega, h2, h3, h4⟩
theorem len64_pow {z : Int} (h : 1 ≤ z ∧ z < 18446744073709551616) : ∃ k : Nat, k ≤ 63 ∧ len64 z = k + 1 ∧ (2 : Int) ^ k ≤ z ∧ z < 2 * 2 ^ k := by
  unfold len64
  split
  · obtain ⟨k, h1, h2, h3, h4⟩ := len32_pow (z := z / 4294967296) (by omega)
    refine ⟨k + 32, by omega, by rw [h2]; omega, ?_, ?_⟩
    · rw [Int.pow_add, show (2 : Int) ^ 32 = 4294967296 from rfl]; omega
    · rw [Int.pow_add, show (2 : Int) ^ 32 = 4294967296 from rfl]; omega
  · obtain ⟨k, h1, h2, h3, h4⟩ := len32_pow (z := z) (by omega)
    exact ⟨k, by omega, h2, h3, h4⟩
end Go.Sx.Ytpfdknpbiambnaa
