/- Chapter 30: handovers made of numbers. -/
import Derived.Test.YteiehkafkcggeaaL10
namespace Go.Sx.Yteiehkafkcggeaa
open Go Go.Sx Go.Proofs
set_option linter.unusedVariables false
set_option linter.unusedSimpArgs false
set_option maxRecDepth 100000

def modS (n m : Int) : Int := if m < 1 then 0 else n % m
def S32 : List AV → Option FOut := sigSpec [I64, I64] [I64] (fun x : Int × Int × Unit => (modS x.1 x.2.1, ())) (fun x : Int × Int × Unit => x.2.1 ≤ 4611686018427387904)
theorem fn32 : FnOk Try.prog 32 S32 := by
  refine fn_of (rs := [.tmp 4]) (env [] trivial) Try.func32 (by kernel_rfl) rfl rfl Try.ntmps32 ?_
  rintro ⟨(n : Int), (m : Int), u⟩ hm G hG hQ
  simp only at hm
  refine AM.run2 hG 100 (by cbv) (by (simp only [sxs, sxb, and_self, and_true, true_and, implies_true, imp_self, bne_eq_false_iff_eq, Nat.zero_add, Nat.le_refl, Int.toNat_natCast, Int.ofNat_lt, Int.natCast_nonneg, decide_eq_true_eq, decide_eq_false_iff_not, bne_iff_ne, ne_eq]; try dsimp only [Kd.T, Kds.T, AK.T, AKs.T])) ?_
  refine AM.case 6 rfl (fun h => ?_) (fun h => ?_) <;> (simp only [sxs, sxb, and_self, and_true, true_and, implies_true, imp_self, bne_eq_false_iff_eq, Nat.zero_add, Nat.le_refl, Int.toNat_natCast, Int.ofNat_lt, Int.natCast_nonneg, decide_eq_true_eq, decide_eq_false_iff_not, bne_iff_ne, ne_eq] at h; try dsimp only [Kd.T, Kds.T, AK.T, AKs.T] at h)
  · refine AM.run2 hG 100 (by cbv) (by (simp only [sxs, sxb, and_self, and_true, true_and, implies_true, imp_self, bne_eq_false_iff_eq, Nat.zero_add, Nat.le_refl, Int.toNat_natCast, Int.ofNat_lt, Int.natCast_nonneg, decide_eq_true_eq, decide_eq_false_iff_not, bne_iff_ne, ne_eq]; try dsimp only [Kd.T, Kds.T, AK.T, AKs.T])) ?_
    refine AM.ret2 hG (by cbv) (by (simp only [sxs, sxb, and_self, and_true, true_and, implies_true, imp_self, bne_eq_false_iff_eq, Nat.zero_add, Nat.le_refl, Int.toNat_natCast, Int.ofNat_lt, Int.natCast_nonneg, decide_eq_true_eq, decide_eq_false_iff_not, bne_iff_ne, ne_eq]; try dsimp only [Kd.T, Kds.T, AK.T, AKs.T])) (hQ _ _ (FinRo.of (by cbv) (by cbv) ?_ ?_))
    · (simp only [sxs, sxb, and_self, and_true, true_and, implies_true, imp_self, bne_eq_false_iff_eq, Nat.zero_add, Nat.le_refl, Int.toNat_natCast, Int.ofNat_lt, Int.natCast_nonneg, decide_eq_true_eq, decide_eq_false_iff_not, bne_iff_ne, ne_eq]; try dsimp only [Kd.T, Kds.T, AK.T, AKs.T])
    try (simp only [sxs, sxb, and_self, and_true, true_and, implies_true, imp_self, bne_eq_false_iff_eq, Nat.zero_add, Nat.le_refl, Int.toNat_natCast, Int.ofNat_lt, Int.natCast_nonneg, decide_eq_true_eq, decide_eq_false_iff_not, bne_iff_ne, ne_eq]; try dsimp only [Kd.T, Kds.T, AK.T, AKs.T])
    simp only [modS, if_pos h]
  · refine AM.run2 hG 100 (by cbv) ?_ ?_
    · (simp only [sxs, sxb, and_self, and_true, true_and, implies_true, imp_self, bne_eq_false_iff_eq, Nat.zero_add, Nat.le_refl, Int.toNat_natCast, Int.ofNat_lt, Int.natCast_nonneg, decide_eq_true_eq, decide_eq_false_iff_not, bne_iff_ne, ne_eq]; try dsimp only [Kd.T, Kds.T, AK.T, AKs.T])
      omega
    have h1 := Int.tmod_add_mul_tdiv n m
    refine AM.case 11 rfl (fun g => ?_) (fun g => ?_) <;> (simp only [sxs, sxb, and_self, and_true, true_and, implies_true, imp_self, bne_eq_false_iff_eq, Nat.zero_add, Nat.le_refl, Int.toNat_natCast, Int.ofNat_lt, Int.natCast_nonneg, decide_eq_true_eq, decide_eq_false_iff_not, bne_iff_ne, ne_eq] at g; try dsimp only [Kd.T, Kds.T, AK.T, AKs.T] at g)
    · refine AM.run2 hG 100 (by cbv) (by (simp only [sxs, sxb, and_self, and_true, true_and, implies_true, imp_self, bne_eq_false_iff_eq, Nat.zero_add, Nat.le_refl, Int.toNat_natCast, Int.ofNat_lt, Int.natCast_nonneg, decide_eq_true_eq, decide_eq_false_iff_not, bne_iff_ne, ne_eq]; try dsimp only [Kd.T, Kds.T, AK.T, AKs.T])) ?_
      have h2 : n.tmod m + m = n % m := by
        rcases (show n < 0 ∨ 0 ≤ n by omega) with hn | hn
        · rw [Int.tmod_eq_emod]
          rw [Int.tmod_eq_emod] at g
          simp only [show ¬ 0 ≤ n by omega, false_or] at g ⊢
          split at g
          · have := Int.emod_nonneg n (show m ≠ 0 by omega); omega
          · rename_i hd
            rw [if_neg hd]
            omega
        · rw [Int.tmod_eq_emod_of_nonneg hn] at g
          have := Int.emod_nonneg n (show m ≠ 0 by omega); omega
      have h3 := Int.emod_nonneg n (show m ≠ 0 by omega)
      have h4 := Int.emod_lt_of_pos n (show 0 < m by omega)
      refine AM.ret2 hG (by cbv) (by (simp only [sxs, sxb, and_self, and_true, true_and, implies_true, imp_self, bne_eq_false_iff_eq, Nat.zero_add, Nat.le_refl, Int.toNat_natCast, Int.ofNat_lt, Int.natCast_nonneg, decide_eq_true_eq, decide_eq_false_iff_not, bne_iff_ne, ne_eq]; try dsimp only [Kd.T, Kds.T, AK.T, AKs.T])) (hQ _ _ (FinRo.of (by cbv) (by cbv) ?_ ?_))
      · (simp only [sxs, sxb, and_self, and_true, true_and, implies_true, imp_self, bne_eq_false_iff_eq, Nat.zero_add, Nat.le_refl, Int.toNat_natCast, Int.ofNat_lt, Int.natCast_nonneg, decide_eq_true_eq, decide_eq_false_iff_not, bne_iff_ne, ne_eq]; try dsimp only [Kd.T, Kds.T, AK.T, AKs.T])
      try (simp only [sxs, sxb, and_self, and_true, true_and, implies_true, imp_self, bne_eq_false_iff_eq, Nat.zero_add, Nat.le_refl, Int.toNat_natCast, Int.ofNat_lt, Int.natCast_nonneg, decide_eq_true_eq, decide_eq_false_iff_not, bne_iff_ne, ne_eq]; try dsimp only [Kd.T, Kds.T, AK.T, AKs.T])
      rw [h2, w64 (by omega) (by omega)]
      simp only [modS, if_neg h]
    · refine AM.run2 hG 100 (by cbv) (by (simp only [sxs, sxb, and_self, and_true, true_and, implies_true, imp_self, bne_eq_false_iff_eq, Nat.zero_add, Nat.le_refl, Int.toNat_natCast, Int.ofNat_lt, Int.natCast_nonneg, decide_eq_true_eq, decide_eq_false_iff_not, bne_iff_ne, ne_eq]; try dsimp only [Kd.T, Kds.T, AK.T, AKs.T])) ?_
      refine AM.ret2 hG (by cbv) (by (simp only [sxs, sxb, and_self, and_true, true_and, implies_true, imp_self, bne_eq_false_iff_eq, Nat.zero_add, Nat.le_refl, Int.toNat_natCast, Int.ofNat_lt, Int.natCast_nonneg, decide_eq_true_eq, decide_eq_false_iff_not, bne_iff_ne, ne_eq]; try dsimp only [Kd.T, Kds.T, AK.T, AKs.T])) (hQ _ _ (FinRo.of (by cbv) (by cbv) ?_ ?_))
      · (simp only [sxs, sxb, and_self, and_true, true_and, implies_true, imp_self, bne_eq_false_iff_eq, Nat.zero_add, Nat.le_refl, Int.toNat_natCast, Int.ofNat_lt, Int.natCast_nonneg, decide_eq_true_eq, decide_eq_false_iff_not, bne_iff_ne, ne_eq]; try dsimp only [Kd.T, Kds.T, AK.T, AKs.T])
      try (simp only [sxs, sxb, and_self, and_true, true_and, implies_true, imp_self, bne_eq_false_iff_eq, Nat.zero_add, Nat.le_refl, Int.toNat_natCast, Int.ofNat_lt, Int.natCast_nonneg, decide_eq_true_eq, decide_eq_false_iff_not, bne_iff_ne, ne_eq]; try dsimp only [Kd.T, Kds.T, AK.T, AKs.T])
      simp only [modS, if_neg h]
      rw [Int.tmod_eq_emod] at g ⊢
      have h3 := Int.emod_nonneg n (show m ≠ 0 by omega)
      have h4 := Int.emod_lt_of_pos n (show 0 < m by omega)
      split at g
      · rename_i hd; rw [if_pos hd]; omega
      · omega
theorem qr {k : Int} (h0 : 0 ≤ k) (h1 : k < 1073741824) (m n : Int) (hm : 0 < m) (hm2 : m ≤ 1073741824) : (IntKind.i64.wrap (k.tdiv m)).tmod n = (k / m) % n ∧ IntKind.i64.wrap (k.tdiv m) = k / m := by
  have q0 := Int.ediv_nonneg h0 (Int.le_of_lt hm)
  have q1 := Int.ediv_le_self m h0
  rw [Int.tdiv_eq_ediv_of_nonneg h0, w64 (by omega) (by omega), Int.tmod_eq_emod_of_nonneg q0]
  exact ⟨rfl, rfl⟩
theorem modS_in (n : Int) {m : Int} (h : 0 < m) : 0 ≤ modS n m ∧ modS n m < m := by
  rw [modS, if_neg (by omega)]
  exact ⟨Int.emod_nonneg n (by omega), Int.emod_lt_of_pos n h⟩
def atR (l : List Int) (i : Int) : Int := if i < 0 then 0 else l.getD i.toNat 0
def S128 : List AV → Option FOut := sigSpec [IntsK, I64] [I64] (fun x : List Int × Int × Unit => (atR x.1 x.2.1, ())) (fun _ => True)
theorem fn128 : FnOk Try.prog 128 S128 := by
  refine fn_of (rs := [.tmp 4]) (env [] trivial) Try.func128 (by kernel_rfl) rfl rfl Try.ntmps128 ?_
  rintro ⟨(l : List Int), (i : Int), u⟩ _ G hG hQ
  refine AM.run2 hG 100 (by cbv) ?_ ?_
  · (simp only [sxs, sxb, and_self, and_true, true_and, implies_true, imp_self, bne_eq_false_iff_eq, Nat.zero_add, Nat.le_refl, Int.toNat_natCast, Int.ofNat_lt, Int.natCast_nonneg, decide_eq_true_eq, decide_eq_false_iff_not, bne_iff_ne, ne_eq]; try dsimp only [Kd.T, Kds.T, AK.T, AKs.T])
  refine AM.case 12 rfl (fun h => ?_) (fun h => ?_) <;> (simp only [sxs, sxb, and_self, and_true, true_and, implies_true, imp_self, bne_eq_false_iff_eq, Nat.zero_add, Nat.le_refl, Int.toNat_natCast, Int.ofNat_lt, Int.natCast_nonneg, decide_eq_true_eq, decide_eq_false_iff_not, bne_iff_ne, ne_eq] at h; try dsimp only [Kd.T, Kds.T, AK.T, AKs.T] at h)
  · refine AM.run2 hG 100 (by cbv) ?_ ?_
    · (simp only [sxs, sxb, and_self, and_true, true_and, implies_true, imp_self, bne_eq_false_iff_eq, Nat.zero_add, Nat.le_refl, Int.toNat_natCast, Int.ofNat_lt, Int.natCast_nonneg, decide_eq_true_eq, decide_eq_false_iff_not, bne_iff_ne, ne_eq]; try dsimp only [Kd.T, Kds.T, AK.T, AKs.T])
    refine AM.ret2 hG (by cbv) (by (simp only [sxs, sxb, and_self, and_true, true_and, implies_true, imp_self, bne_eq_false_iff_eq, Nat.zero_add, Nat.le_refl, Int.toNat_natCast, Int.ofNat_lt, Int.natCast_nonneg, decide_eq_true_eq, decide_eq_false_iff_not, bne_iff_ne, ne_eq]; try dsimp only [Kd.T, Kds.T, AK.T, AKs.T])) (hQ _ _ (FinRo.of (by cbv) (by cbv) ?_ ?_))
    · (simp only [sxs, sxb, and_self, and_true, true_and, implies_true, imp_self, bne_eq_false_iff_eq, Nat.zero_add, Nat.le_refl, Int.toNat_natCast, Int.ofNat_lt, Int.natCast_nonneg, decide_eq_true_eq, decide_eq_false_iff_not, bne_iff_ne, ne_eq]; try dsimp only [Kd.T, Kds.T, AK.T, AKs.T])
    try (simp only [sxs, sxb, and_self, and_true, true_and, implies_true, imp_self, bne_eq_false_iff_eq, Nat.zero_add, Nat.le_refl, Int.toNat_natCast, Int.ofNat_lt, Int.natCast_nonneg, decide_eq_true_eq, decide_eq_false_iff_not, bne_iff_ne, ne_eq]; try dsimp only [Kd.T, Kds.T, AK.T, AKs.T])
    rw [atR]
    split
    · rfl
    · rw [List.getD_eq_getElem?_getD, List.getElem?_eq_none (by omega)]; rfl
  · refine AM.run2 hG 100 (by cbv) ?_ ?_
    · (simp only [sxs, sxb, and_self, and_true, true_and, implies_true, imp_self, bne_eq_false_iff_eq, Nat.zero_add, Nat.le_refl, Int.toNat_natCast, Int.ofNat_lt, Int.natCast_nonneg, decide_eq_true_eq, decide_eq_false_iff_not, bne_iff_ne, ne_eq]; try dsimp only [Kd.T, Kds.T, AK.T, AKs.T])
      omega
    refine AM.ret2 hG (by cbv) (by (simp only [sxs, sxb, and_self, and_true, true_and, implies_true, imp_self, bne_eq_false_iff_eq, Nat.zero_add, Nat.le_refl, Int.toNat_natCast, Int.ofNat_lt, Int.natCast_nonneg, decide_eq_true_eq, decide_eq_false_iff_not, bne_iff_ne, ne_eq]; try dsimp only [Kd.T, Kds.T, AK.T, AKs.T])) (hQ _ _ (FinRo.of (by cbv) (by cbv) ?_ ?_))
    · (simp only [sxs, sxb, and_self, and_true, true_and, implies_true, imp_self, bne_eq_false_iff_eq, Nat.zero_add, Nat.le_refl, Int.toNat_natCast, Int.ofNat_lt, Int.natCast_nonneg, decide_eq_true_eq, decide_eq_false_iff_not, bne_iff_ne, ne_eq]; try dsimp only [Kd.T, Kds.T, AK.T, AKs.T])
    try (simp only [sxs, sxb, and_self, and_true, true_and, implies_true, imp_self, bne_eq_false_iff_eq, Nat.zero_add, Nat.le_refl, Int.toNat_natCast, Int.ofNat_lt, Int.natCast_nonneg, decide_eq_true_eq, decide_eq_false_iff_not, bne_iff_ne, ne_eq]; try dsimp only [Kd.T, Kds.T, AK.T, AKs.T])
    rw [atR, if_neg (by omega)]
def carsN (nums : List Int) : Nat := (1 + modS (atR nums 0) 8).toNat
def carV (nums : List Int) (i : Nat) : Int := modS (atR nums (nI (i + 1))) 1048576
def loadsL (nums : List Int) (n : Nat) : List Int := (List.range n).map fun i => carV nums i % 20
def faultL (nums : List Int) (n : Nat) : List Bool := (List.range n).map fun i => eqI (carV nums i / 20 % 4) 0
def insL (nums : List Int) (n : Nat) : List Bool := (List.range n).map fun i => eqI (carV nums i / 80 % 2) 0
def callV (nums : List Int) (d i : Nat) : Int := modS (atR nums (nI (12 + 8 * d + i))) 1048576
def callH (nums : List Int) (d i : Nat) : Call := (1 + callV nums d i % 3, 8 * (callV nums d i / 3 % 2) + nI i, if callV nums d i % 3 = 2 then 1 + callV nums d i / 6 % nI (carsN nums) else 0, 10 * nI i, ())
def callsN (nums : List Int) (d : Nat) : Nat := (modS (atR nums (nI (9 + d))) 9).toNat
def callsH (nums : List Int) (d n : Nat) : List Call := (List.range n).map (callH nums d)
def tabH (nums : List Int) (d : Nat) : Table := (8, callsH nums d (callsN nums d), ())
def tabsH (nums : List Int) (n : Nat) : List Table := (List.range n).map (tabH nums)
def madeH (nums : List Int) : Hand := (loadsL nums (carsN nums), faultL nums (carsN nums), insL nums (carsN nums), tabsH nums 3, ())
theorem range_succ {α : Type} (f : Nat → α) (n : Nat) : (List.range (n + 1)).map f = (List.range n).map f ++ [f n] := by
  rw [List.range_succ, List.map_append]; rfl
def S81 : List AV → Option FOut := ownSpec (decArgs [IntsK]) (fun y => .agg [.ro I64 fun _ => (madeH (y ()).1).1, .ro .bool fun _ => (madeH (y ()).1).2.1, .sl 0 1 (.l 0) (.t fun _ => (madeH (y ()).1).2.2.1.length), .ro TableK fun _ => (madeH (y ()).1).2.2.2.1]) (fun y => [.row 4 .bool fun _ => (madeH (y ()).1).2.2.1]) (fun _ : List Int × Unit => True)
theorem loadsL_succ (nums : List Int) (n : Nat) : loadsL nums (n + 1) = loadsL nums n ++ [carV nums n % 20] := range_succ _ _
theorem faultL_succ (nums : List Int) (n : Nat) : faultL nums (n + 1) = faultL nums n ++ [eqI (carV nums n / 20 % 4) 0] := range_succ _ _
theorem insL_succ (nums : List Int) (n : Nat) : insL nums (n + 1) = insL nums n ++ [eqI (carV nums n / 80 % 2) 0] := range_succ _ _
theorem tabsH_succ (nums : List Int) (n : Nat) : tabsH nums (n + 1) = tabsH nums n ++ [tabH nums n] := range_succ _ _
theorem callsH_succ (nums : List Int) (d n : Nat) : callsH nums d (n + 1) = callsH nums d n ++ [callH nums d n] := range_succ _ _
theorem loadsL_len (nums : List Int) (n : Nat) : (loadsL nums n).length = n := by simp [loadsL]
theorem faultL_len (nums : List Int) (n : Nat) : (faultL nums n).length = n := by simp [faultL]
theorem insL_len (nums : List Int) (n : Nat) : (insL nums n).length = n := by simp [insL]
theorem tabsH_len (nums : List Int) (n : Nat) : (tabsH nums n).length = n := by simp [tabsH]
theorem callsH_len (nums : List Int) (d n : Nat) : (callsH nums d n).length = n := by simp [callsH]
set_option maxHeartbeats 8000000 in
theorem fn81 : FnOk Try.prog 81 S81 := by
  refine fn_ofO (rs := [.cell 2 78]) (env [(128, S128), (32, S32)] ⟨fn128, fn32, trivial⟩) Try.func81 (by kernel_rfl) rfl rfl Try.ntmps81 (enc := encArgs [IntsK]) (dec := decArgs [IntsK]) encArgs_ok (encArgs_len [IntsK]) ?_
  rintro ⟨(nums : List Int), u2⟩ _ G hG hB hQ
  have hB := GB.of hB
  obtain ⟨n, hn⟩ : ∃ n, carsN nums = n := ⟨_, rfl⟩
  have hn0 := modS_in (atR nums 0) (show (0 : Int) < 8 by decide)
  have hnI : 1 + modS (atR nums 0) 8 = ((n : Nat) : Int) := by rw [← hn, carsN]; omega
  have hn1 : 1 ≤ n ∧ n ≤ 8 := by omega
  refine AM.run2 hG 100 (by cbv) ?_ ?_
  · (simp only [sxs, sxb, and_self, and_true, true_and, implies_true, imp_self, bne_eq_false_iff_eq, Nat.zero_add, Nat.le_refl, Int.toNat_natCast, Int.ofNat_lt, Int.natCast_nonneg, decide_eq_true_eq, decide_eq_false_iff_not, bne_iff_ne, ne_eq]; try dsimp only [Kd.T, Kds.T, AK.T, AKs.T])
    decide
  refine AM.emptyRow 1 0 3 I64 rfl (by decide) rfl ?_
  refine AM.emptyRow 1 1 4 .bool rfl (by decide) rfl ?_
  refine AM.emptyRow 1 2 4 .bool rfl (by decide) rfl ?_
  refine AM.loopI (fun i : Nat => (frame 107 [(0, .ro I64 fun _ => nums), (2, .ptr 0 0), (3, .int .i64 (.t fun _ => nI n)), (4, .ptr 1 0), (5, .int .i64 (.t fun _ => nI i))],
    [.box 78 [.nils, .nils, .nils, .nils], .box 78 [.sl 2 1 (.l 0) (.t fun _ => i), .sl 3 1 (.l 0) (.t fun _ => i), .sl 4 1 (.l 0) (.t fun _ => i), .nils], .row 3 I64 (fun _ => loadsL nums i), .row 4 .bool (fun _ => faultL nums i), .row 4 .bool (fun _ => insL nums i)]))
    (fun i => i ≤ n) (fun i => n - i) 0 (Nat.zero_le _) ?_ ?_ ?_
  · cbv; (simp only [sxs, sxb, and_self, and_true, true_and, implies_true, imp_self, bne_eq_false_iff_eq, Nat.zero_add, Nat.le_refl, Int.toNat_natCast, Int.ofNat_lt, Int.natCast_nonneg, decide_eq_true_eq, decide_eq_false_iff_not, bne_iff_ne, ne_eq]; try dsimp only [Kd.T, Kds.T, AK.T, AKs.T])
    exact ⟨by rw [hnI, w64 (by omega) (by omega)], rfl⟩
  · cbv; (simp only [sxs, sxb, and_self, and_true, true_and, implies_true, imp_self, bne_eq_false_iff_eq, Nat.zero_add, Nat.le_refl, Int.toNat_natCast, Int.ofNat_lt, Int.natCast_nonneg, decide_eq_true_eq, decide_eq_false_iff_not, bne_iff_ne, ne_eq]; try dsimp only [Kd.T, Kds.T, AK.T, AKs.T])
    exact ⟨rfl, rfl, rfl⟩
  rintro i hi ih
  refine AM.run2 hG 100 (by cbv) ?_ ?_
  · (simp only [sxs, sxb, and_self, and_true, true_and, implies_true, imp_self, bne_eq_false_iff_eq, Nat.zero_add, Nat.le_refl, Int.toNat_natCast, Int.ofNat_lt, Int.natCast_nonneg, decide_eq_true_eq, decide_eq_false_iff_not, bne_iff_ne, ne_eq]; try dsimp only [Kd.T, Kds.T, AK.T, AKs.T])
  refine AM.case 18 rfl (fun h6 => ?_) (fun h6 => ?_) <;> (simp only [sxs, sxb, and_self, and_true, true_and, implies_true, imp_self, bne_eq_false_iff_eq, Nat.zero_add, Nat.le_refl, Int.toNat_natCast, Int.ofNat_lt, Int.natCast_nonneg, decide_eq_true_eq, decide_eq_false_iff_not, bne_iff_ne, ne_eq] at h6; try dsimp only [Kd.T, Kds.T, AK.T, AKs.T] at h6)
  · have e1 : IntKind.i64.wrap ((i : Int) + 1) = ((i + 1 : Nat) : Int) := w64s (by omega)
    obtain ⟨k, hk⟩ : ∃ k, carV nums i = k := ⟨_, rfl⟩
    have hk0 := modS_in (atR nums (nI (i + 1))) (show (0 : Int) < 1048576 by decide)
    rw [show modS (atR nums (nI (i + 1))) 1048576 = k from hk] at hk0
    obtain ⟨hk0, hk1⟩ := hk0
    have hk2 : modS (atR nums ((i + 1 : Nat) : Int)) 1048576 = k := hk
    refine AM.run2 hG 100 (by cbv) ?_ ?_
    · (simp only [sxs, sxb, and_self, and_true, true_and, implies_true, imp_self, bne_eq_false_iff_eq, Nat.zero_add, Nat.le_refl, Int.toNat_natCast, Int.ofNat_lt, Int.natCast_nonneg, decide_eq_true_eq, decide_eq_false_iff_not, bne_iff_ne, ne_eq]; try dsimp only [Kd.T, Kds.T, AK.T, AKs.T])
      simp only [maxLen, loadsL_len, faultL_len, insL_len, List.length_take, List.length_cons, List.length_nil]
      exact ⟨⟨trivial, by omega, by omega⟩, by decide, by decide, ⟨trivial, by omega, by omega⟩, by decide, by decide, ⟨trivial, by omega, by omega⟩, by decide, by decide⟩
    refine AM.ren hB [0, 1, 6, 8, 10] (by cbv) (by cbv) (by cbv) ?_ ?_ (ih (i + 1) (by omega) (by omega))
    · (simp only [sxs, sxb, and_self, and_true, true_and, implies_true, imp_self, bne_eq_false_iff_eq, Nat.zero_add, Nat.le_refl, Int.toNat_natCast, Int.ofNat_lt, Int.natCast_nonneg, decide_eq_true_eq, decide_eq_false_iff_not, bne_iff_ne, ne_eq]; try dsimp only [Kd.T, Kds.T, AK.T, AKs.T])
      rw [e1]
    · (simp only [sxs, sxb, and_self, and_true, true_and, implies_true, imp_self, bne_eq_false_iff_eq, Nat.zero_add, Nat.le_refl, Int.toNat_natCast, Int.ofNat_lt, Int.natCast_nonneg, decide_eq_true_eq, decide_eq_false_iff_not, bne_iff_ne, ne_eq]; try dsimp only [Kd.T, Kds.T, AK.T, AKs.T])
      rw [e1, hk2, loadsL_len, faultL_len, insL_len, loadsL_succ, faultL_succ, insL_succ, hk, (qr hk0 (by omega) 20 4 (by decide) (by decide)).1, (qr hk0 (by omega) 80 2 (by decide) (by decide)).1, Int.tmod_eq_emod_of_nonneg hk0]
      exact ⟨⟨rfl, rfl, rfl⟩, rfl, rfl, rfl⟩
  clear ih
  obtain rfl : n = i := by omega
  refine AM.frz [2, 3] (by cbv) (by (simp only [sxs, sxb, and_self, and_true, true_and, implies_true, imp_self, bne_eq_false_iff_eq, Nat.zero_add, Nat.le_refl, Int.toNat_natCast, Int.ofNat_lt, Int.natCast_nonneg, decide_eq_true_eq, decide_eq_false_iff_not, bne_iff_ne, ne_eq]; try dsimp only [Kd.T, Kds.T, AK.T, AKs.T]); rw [loadsL_len, faultL_len]; simp) ?_
  refine AM.run2 hG 100 (by cbv) ?_ ?_
  · (simp only [sxs, sxb, and_self, and_true, true_and, implies_true, imp_self, bne_eq_false_iff_eq, Nat.zero_add, Nat.le_refl, Int.toNat_natCast, Int.ofNat_lt, Int.natCast_nonneg, decide_eq_true_eq, decide_eq_false_iff_not, bne_iff_ne, ne_eq]; try dsimp only [Kd.T, Kds.T, AK.T, AKs.T])
  refine AM.emptyRow 1 3 25 TableK rfl (by simp) rfl ?_
  refine AM.loopI (fun d : Nat => (frame 107 [(0, .ro I64 fun _ => nums), (2, .ptr 0 0), (3, .int .i64 (.t fun _ => nI n)), (4, .ptr 1 0), (7, .int .i64 (.t fun _ => nI d))],
    [.box 78 [.nils, .nils, .nils, .nils], .box 78 [.ro I64 fun _ => loadsL nums n, .ro .bool fun _ => faultL nums n, .sl 4 1 (.l 0) (.t fun _ => n), .sl 5 2 (.l 0) (.t fun _ => d)], .dead, .dead, .row 4 .bool (fun _ => insL nums n), .row 25 TableK (fun _ => tabsH nums d)])) (fun d => d ≤ 3) (fun d => 3 - d) 0 (Nat.zero_le _) ?_ ?_ ?_
  · cbv; (simp only [sxs, sxb, and_self, and_true, true_and, implies_true, imp_self, bne_eq_false_iff_eq, Nat.zero_add, Nat.le_refl, Int.toNat_natCast, Int.ofNat_lt, Int.natCast_nonneg, decide_eq_true_eq, decide_eq_false_iff_not, bne_iff_ne, ne_eq]; try dsimp only [Kd.T, Kds.T, AK.T, AKs.T]); all_goals ((repeat' apply And.intro) <;> first | rfl | assumption | exact trivial)
  · cbv; (simp only [sxs, sxb, and_self, and_true, true_and, implies_true, imp_self, bne_eq_false_iff_eq, Nat.zero_add, Nat.le_refl, Int.toNat_natCast, Int.ofNat_lt, Int.natCast_nonneg, decide_eq_true_eq, decide_eq_false_iff_not, bne_iff_ne, ne_eq]; try dsimp only [Kd.T, Kds.T, AK.T, AKs.T])
    exact ⟨⟨List.take_of_length_le (by rw [loadsL_len]; exact Nat.le_refl _), List.take_of_length_le (by rw [faultL_len]; exact Nat.le_refl _)⟩, rfl⟩
  rintro d hd ih
  refine AM.run2 hG 100 (by cbv) ?_ ?_
  · (simp only [sxs, sxb, and_self, and_true, true_and, implies_true, imp_self, bne_eq_false_iff_eq, Nat.zero_add, Nat.le_refl, Int.toNat_natCast, Int.ofNat_lt, Int.natCast_nonneg, decide_eq_true_eq, decide_eq_false_iff_not, bne_iff_ne, ne_eq]; try dsimp only [Kd.T, Kds.T, AK.T, AKs.T])
  refine AM.case 52 rfl (fun h6 => ?_) (fun h6 => ?_) <;> (simp only [sxs, sxb, and_self, and_true, true_and, implies_true, imp_self, bne_eq_false_iff_eq, Nat.zero_add, Nat.le_refl, Int.toNat_natCast, Int.ofNat_lt, Int.natCast_nonneg, decide_eq_true_eq, decide_eq_false_iff_not, bne_iff_ne, ne_eq] at h6; try dsimp only [Kd.T, Kds.T, AK.T, AKs.T] at h6)
  · refine AM.run2 hG 100 (by cbv) ?_ ?_
    · (simp only [sxs, sxb, and_self, and_true, true_and, implies_true, imp_self, bne_eq_false_iff_eq, Nat.zero_add, Nat.le_refl, Int.toNat_natCast, Int.ofNat_lt, Int.natCast_nonneg, decide_eq_true_eq, decide_eq_false_iff_not, bne_iff_ne, ne_eq]; try dsimp only [Kd.T, Kds.T, AK.T, AKs.T])
    refine AM.emptyRow 6 1 31 CallK rfl (by simp) rfl ?_
    obtain ⟨N, hN⟩ : ∃ N, callsN nums d = N := ⟨_, rfl⟩
    have hN0 := modS_in (atR nums (nI (9 + d))) (show (0 : Int) < 9 by decide)
    have hNI : modS (atR nums (nI (9 + d))) 9 = ((N : Nat) : Int) := by rw [← hN, callsN]; omega
    have e9 : IntKind.i64.wrap (9 + (d : Int)) = nI (9 + d) := by rw [w64 (by omega) (by omega)]; simp
    have hN1 : N ≤ 8 := by omega
    refine AM.loopI (fun i : Nat => (frame 107 [(0, .ro I64 fun _ => nums), (2, .ptr 0 0), (3, .int .i64 (.t fun _ => nI n)), (4, .ptr 1 0), (7, .int .i64 (.t fun _ => nI d)), (8, .ptr 6 0), (9, .int .i64 (.t fun _ => nI i))],
      [.box 78 [.nils, .nils, .nils, .nils], .box 78 [.ro I64 fun _ => loadsL nums n, .ro .bool fun _ => faultL nums n, .sl 4 1 (.l 0) (.t fun _ => n), .sl 5 2 (.l 0) (.t fun _ => d)], .dead, .dead, .row 4 .bool (fun _ => insL nums n), .row 25 TableK (fun _ => tabsH nums d), .box 25 [.int .i64 (.l 8), .sl 7 4 (.l 0) (.t fun _ => i)], .row 31 CallK (fun _ => callsH nums d i)])) (fun i => i ≤ N) (fun i => N - i) 0 (Nat.zero_le _) ?_ ?_ ?_
    · cbv; (simp only [sxs, sxb, and_self, and_true, true_and, implies_true, imp_self, bne_eq_false_iff_eq, Nat.zero_add, Nat.le_refl, Int.toNat_natCast, Int.ofNat_lt, Int.natCast_nonneg, decide_eq_true_eq, decide_eq_false_iff_not, bne_iff_ne, ne_eq]; try dsimp only [Kd.T, Kds.T, AK.T, AKs.T]); all_goals ((repeat' apply And.intro) <;> first | rfl | assumption | exact trivial)
    · cbv; (simp only [sxs, sxb, and_self, and_true, true_and, implies_true, imp_self, bne_eq_false_iff_eq, Nat.zero_add, Nat.le_refl, Int.toNat_natCast, Int.ofNat_lt, Int.natCast_nonneg, decide_eq_true_eq, decide_eq_false_iff_not, bne_iff_ne, ne_eq]; try dsimp only [Kd.T, Kds.T, AK.T, AKs.T])
      rfl
    rintro i hi ih2
    refine AM.run2 hG 100 (by cbv) ?_ ?_
    · (simp only [sxs, sxb, and_self, and_true, true_and, implies_true, imp_self, bne_eq_false_iff_eq, Nat.zero_add, Nat.le_refl, Int.toNat_natCast, Int.ofNat_lt, Int.natCast_nonneg, decide_eq_true_eq, decide_eq_false_iff_not, bne_iff_ne, ne_eq]; try dsimp only [Kd.T, Kds.T, AK.T, AKs.T])
      decide
    refine AM.case 62 rfl (fun h7 => ?_) (fun h7 => ?_) <;> (simp only [sxs, sxb, and_self, and_true, true_and, implies_true, imp_self, bne_eq_false_iff_eq, Nat.zero_add, Nat.le_refl, Int.toNat_natCast, Int.ofNat_lt, Int.natCast_nonneg, decide_eq_true_eq, decide_eq_false_iff_not, bne_iff_ne, ne_eq] at h7; try dsimp only [Kd.T, Kds.T, AK.T, AKs.T] at h7)
    · rw [e9, hNI] at h7
      obtain ⟨k, hk⟩ : ∃ k, callV nums d i = k := ⟨_, rfl⟩
      have hk0 := modS_in (atR nums (nI (12 + 8 * d + i))) (show (0 : Int) < 1048576 by decide)
      rw [show modS (atR nums (nI (12 + 8 * d + i))) 1048576 = k from hk] at hk0
      obtain ⟨hk0, hk1⟩ := hk0
      have e12 : IntKind.i64.wrap (IntKind.i64.wrap (12 + IntKind.i64.wrap (8 * (d : Int))) + (i : Int)) = nI (12 + 8 * d + i) := by
        rw [w64 (n := 8 * (d : Int)) (by omega) (by omega), w64 (n := 12 + 8 * (d : Int)) (by omega) (by omega), w64 (by omega) (by omega)]
        show _ = ((12 + 8 * d + i : Nat) : Int)
        omega
      have hk2 : modS (atR nums (nI (12 + 8 * d + i))) 1048576 = k := hk
      have ek : k.tmod 3 = k % 3 := Int.tmod_eq_emod_of_nonneg hk0
      have e3 := (qr hk0 (by omega) 3 2 (by decide) (by decide)).1
      have e6 := (qr hk0 (by omega) 6 (n : Int) (by decide) (by decide)).1
      have ekk : IntKind.i64.wrap (1 + k.tmod 3) = 1 + k % 3 := by rw [ek, w64 (by omega) (by omega)]
      have ef : IntKind.i64.wrap (IntKind.i64.wrap (8 * (k / 3 % 2)) + (i : Int)) = 8 * (k / 3 % 2) + nI i := by
        rw [w64 (n := 8 * (k / 3 % 2)) (by omega) (by omega)]
        exact w64 (by omega) (by omega)
      have ea : IntKind.i64.wrap (10 * (i : Int)) = 10 * nI i := w64 (by omega) (by omega)
      have hm0 := Int.emod_nonneg (k / 6) (show ((n : Nat) : Int) ≠ 0 by omega)
      have hm1 := Int.emod_lt_of_pos (k / 6) (show (0 : Int) < ((n : Nat) : Int) by omega)
      have ec : IntKind.i64.wrap (1 + k / 6 % (n : Int)) = 1 + k / 6 % nI n := w64 (by omega) (by omega)
      refine AM.run2 hG 100 (by cbv) ?_ ?_
      · (simp only [sxs, sxb, and_self, and_true, true_and, implies_true, imp_self, bne_eq_false_iff_eq, Nat.zero_add, Nat.le_refl, Int.toNat_natCast, Int.ofNat_lt, Int.natCast_nonneg, decide_eq_true_eq, decide_eq_false_iff_not, bne_iff_ne, ne_eq]; try dsimp only [Kd.T, Kds.T, AK.T, AKs.T])
        decide
      refine AM.case 87 rfl (fun h8 => ?_) (fun h8 => ?_) <;> (simp only [sxs, sxb, and_self, and_true, true_and, implies_true, imp_self, bne_eq_false_iff_eq, Nat.zero_add, Nat.le_refl, Int.toNat_natCast, Int.ofNat_lt, Int.natCast_nonneg, decide_eq_true_eq, decide_eq_false_iff_not, bne_iff_ne, ne_eq] at h8; try dsimp only [Kd.T, Kds.T, AK.T, AKs.T] at h8)
      · rw [e12, hk2, ekk] at h8
        have hc : callH nums d i = (1 + k % 3, 8 * (k / 3 % 2) + nI i, 1 + k / 6 % nI n, 10 * nI i, ()) := by
          rw [callH, hk, hn, if_pos (by omega)]
        refine AM.run2 hG 100 (by cbv) ?_ ?_
        · (simp only [sxs, sxb, and_self, and_true, true_and, implies_true, imp_self, bne_eq_false_iff_eq, Nat.zero_add, Nat.le_refl, Int.toNat_natCast, Int.ofNat_lt, Int.natCast_nonneg, decide_eq_true_eq, decide_eq_false_iff_not, bne_iff_ne, ne_eq]; try dsimp only [Kd.T, Kds.T, AK.T, AKs.T])
          simp only [maxLen, callsH_len, List.length_take, List.length_cons, List.length_nil]
          exact ⟨⟨trivial, by omega, by omega⟩, by omega, by decide⟩
        refine AM.ren hB [0, 1, 2, 3, 4, 5, 6, 10] (by cbv) (by cbv) (by cbv) ?_ ?_ (ih2 (i + 1) (by omega) (by omega))
        · (simp only [sxs, sxb, and_self, and_true, true_and, implies_true, imp_self, bne_eq_false_iff_eq, Nat.zero_add, Nat.le_refl, Int.toNat_natCast, Int.ofNat_lt, Int.natCast_nonneg, decide_eq_true_eq, decide_eq_false_iff_not, bne_iff_ne, ne_eq]; try dsimp only [Kd.T, Kds.T, AK.T, AKs.T])
          rw [w64s (by omega)]
        · (simp only [sxs, sxb, and_self, and_true, true_and, implies_true, imp_self, bne_eq_false_iff_eq, Nat.zero_add, Nat.le_refl, Int.toNat_natCast, Int.ofNat_lt, Int.natCast_nonneg, decide_eq_true_eq, decide_eq_false_iff_not, bne_iff_ne, ne_eq]; try dsimp only [Kd.T, Kds.T, AK.T, AKs.T])
          rw [callsH_succ, callsH_len, hc, e12, hk2, ekk, e3, ef, e6, ec, ea]
          exact ⟨rfl, rfl⟩
      · rw [e12, hk2, ekk] at h8
        have hc : callH nums d i = (1 + k % 3, 8 * (k / 3 % 2) + nI i, 0, 10 * nI i, ()) := by
          rw [callH, hk, hn, if_neg (by omega)]
        refine AM.run2 hG 100 (by cbv) ?_ ?_
        · (simp only [sxs, sxb, and_self, and_true, true_and, implies_true, imp_self, bne_eq_false_iff_eq, Nat.zero_add, Nat.le_refl, Int.toNat_natCast, Int.ofNat_lt, Int.natCast_nonneg, decide_eq_true_eq, decide_eq_false_iff_not, bne_iff_ne, ne_eq]; try dsimp only [Kd.T, Kds.T, AK.T, AKs.T])
          simp only [maxLen, callsH_len, List.length_take, List.length_cons, List.length_nil]
          exact ⟨trivial, by omega, by omega⟩
        refine AM.ren hB [0, 1, 2, 3, 4, 5, 6, 10] (by cbv) (by cbv) (by cbv) ?_ ?_ (ih2 (i + 1) (by omega) (by omega))
        · (simp only [sxs, sxb, and_self, and_true, true_and, implies_true, imp_self, bne_eq_false_iff_eq, Nat.zero_add, Nat.le_refl, Int.toNat_natCast, Int.ofNat_lt, Int.natCast_nonneg, decide_eq_true_eq, decide_eq_false_iff_not, bne_iff_ne, ne_eq]; try dsimp only [Kd.T, Kds.T, AK.T, AKs.T])
          rw [w64s (by omega)]
        · (simp only [sxs, sxb, and_self, and_true, true_and, implies_true, imp_self, bne_eq_false_iff_eq, Nat.zero_add, Nat.le_refl, Int.toNat_natCast, Int.ofNat_lt, Int.natCast_nonneg, decide_eq_true_eq, decide_eq_false_iff_not, bne_iff_ne, ne_eq]; try dsimp only [Kd.T, Kds.T, AK.T, AKs.T])
          rw [callsH_succ, callsH_len, hc, e12, hk2, ekk, e3, ef, ea]
          exact ⟨rfl, rfl⟩
    rw [e9, hNI] at h7
    obtain rfl : N = i := by omega
    clear ih2
    refine AM.frz [7] (by cbv) (by (simp only [sxs, sxb, and_self, and_true, true_and, implies_true, imp_self, bne_eq_false_iff_eq, Nat.zero_add, Nat.le_refl, Int.toNat_natCast, Int.ofNat_lt, Int.natCast_nonneg, decide_eq_true_eq, decide_eq_false_iff_not, bne_iff_ne, ne_eq]; try dsimp only [Kd.T, Kds.T, AK.T, AKs.T]); rw [callsH_len]; simp) ?_
    refine AM.run2 hG 100 (by cbv) ?_ ?_
    · (simp only [sxs, sxb, and_self, and_true, true_and, implies_true, imp_self, bne_eq_false_iff_eq, Nat.zero_add, Nat.le_refl, Int.toNat_natCast, Int.ofNat_lt, Int.natCast_nonneg, decide_eq_true_eq, decide_eq_false_iff_not, bne_iff_ne, ne_eq]; try dsimp only [Kd.T, Kds.T, AK.T, AKs.T])
      simp only [maxLen, tabsH_len, List.length_take, List.length_cons, List.length_nil]
      exact ⟨trivial, by omega, by omega⟩
    refine AM.ren hB [0, 1, 2, 3, 4, 9] (by cbv) (by cbv) (by cbv) ?_ ?_ (ih (d + 1) (by omega) (by omega))
    · (simp only [sxs, sxb, and_self, and_true, true_and, implies_true, imp_self, bne_eq_false_iff_eq, Nat.zero_add, Nat.le_refl, Int.toNat_natCast, Int.ofNat_lt, Int.natCast_nonneg, decide_eq_true_eq, decide_eq_false_iff_not, bne_iff_ne, ne_eq]; try dsimp only [Kd.T, Kds.T, AK.T, AKs.T])
      rw [w64s (by omega)]
    · (simp only [sxs, sxb, and_self, and_true, true_and, implies_true, imp_self, bne_eq_false_iff_eq, Nat.zero_add, Nat.le_refl, Int.toNat_natCast, Int.ofNat_lt, Int.natCast_nonneg, decide_eq_true_eq, decide_eq_false_iff_not, bne_iff_ne, ne_eq]; try dsimp only [Kd.T, Kds.T, AK.T, AKs.T])
      rw [tabsH_succ, tabsH_len, tabH, hN, List.take_of_length_le (l := callsH nums d N) (by rw [callsH_len]; exact Nat.le_refl _)]
      exact ⟨rfl, rfl⟩
  obtain rfl : d = 3 := by omega
  clear ih
  refine AM.frz [5] (by cbv) (by (simp only [sxs, sxb, and_self, and_true, true_and, implies_true, imp_self, bne_eq_false_iff_eq, Nat.zero_add, Nat.le_refl, Int.toNat_natCast, Int.ofNat_lt, Int.natCast_nonneg, decide_eq_true_eq, decide_eq_false_iff_not, bne_iff_ne, ne_eq]; try dsimp only [Kd.T, Kds.T, AK.T, AKs.T]); rw [tabsH_len]; simp) ?_
  refine AM.run2 hG 100 (by cbv) ?_ ?_
  · (simp only [sxs, sxb, and_self, and_true, true_and, implies_true, imp_self, bne_eq_false_iff_eq, Nat.zero_add, Nat.le_refl, Int.toNat_natCast, Int.ofNat_lt, Int.natCast_nonneg, decide_eq_true_eq, decide_eq_false_iff_not, bne_iff_ne, ne_eq]; try dsimp only [Kd.T, Kds.T, AK.T, AKs.T])
  refine AM.ret2 hG (by cbv) (by (simp only [sxs, sxb, and_self, and_true, true_and, implies_true, imp_self, bne_eq_false_iff_eq, Nat.zero_add, Nat.le_refl, Int.toNat_natCast, Int.ofNat_lt, Int.natCast_nonneg, decide_eq_true_eq, decide_eq_false_iff_not, bne_iff_ne, ne_eq]; try dsimp only [Kd.T, Kds.T, AK.T, AKs.T])) (hQ _ _ (FinOwn.mk' [4] (by cbv) (by cbv) (by cbv) ?_ ?_))
  · (simp only [sxs, sxb, and_self, and_true, true_and, implies_true, imp_self, bne_eq_false_iff_eq, Nat.zero_add, Nat.le_refl, Int.toNat_natCast, Int.ofNat_lt, Int.natCast_nonneg, decide_eq_true_eq, decide_eq_false_iff_not, bne_iff_ne, ne_eq]; try dsimp only [Kd.T, Kds.T, AK.T, AKs.T])
    rw [madeH, hn, List.take_of_length_le (by rw [tabsH_len]; exact Nat.le_refl _)]
    exact ⟨rfl, rfl, (insL_len _ _).symm, rfl⟩
  · (simp only [sxs, sxb, and_self, and_true, true_and, implies_true, imp_self, bne_eq_false_iff_eq, Nat.zero_add, Nat.le_refl, Int.toNat_natCast, Int.ofNat_lt, Int.natCast_nonneg, decide_eq_true_eq, decide_eq_false_iff_not, bne_iff_ne, ne_eq]; try dsimp only [Kd.T, Kds.T, AK.T, AKs.T])
    rw [madeH, hn]
end Go.Sx.Yteiehkafkcggeaa
