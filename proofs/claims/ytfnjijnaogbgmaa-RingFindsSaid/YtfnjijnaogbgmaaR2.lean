/- Rings: Find, Age, Rest, New, First. -/
import Derived.Test.YtfnjijnaogbgmaaR1
namespace Go.Sx.Ytfnjijnaogbgmaa
open Go Go.Sx Go.Proofs
set_option linter.unusedVariables false
set_option linter.unusedSimpArgs false
set_option maxRecDepth 100000

def modS (n m : Int) : Int := if m < 1 then 0 else n % m
def S9 : List AV → Option FOut := sigSpec [I64, I64] [I64] (fun x : Int × Int × Unit => (modS x.1 x.2.1, ())) (fun x : Int × Int × Unit => x.2.1 ≤ 4611686018427387904)
theorem fn9 : FnOk Try.prog 9 S9 := by
  refine fn_of (rs := [.tmp 4]) (env [] trivial) Try.func9 (by kernel_rfl) rfl rfl Try.ntmps9 ?_
  rintro ⟨(n : Int), (m : Int), u⟩ hm G hG hQ
  simp only at hm
  refine AM.run2 hG 100 (by cbv) (by (simp only [sxs, sxb, and_self, and_true, true_and, implies_true, imp_self, bne_eq_false_iff_eq, Nat.zero_add, Nat.le_refl, Int.toNat_natCast, Int.ofNat_lt, Int.natCast_nonneg, decide_eq_true_eq, decide_eq_false_iff_not, bne_iff_ne, ne_eq]; try dsimp only [Kd.T, Kds.T, AK.T, AKs.T])) ?_
  refine AM.case 6 rfl (fun h => ?_) (fun h => ?_) <;> (simp only [sxs, sxb, and_self, and_true, true_and, implies_true, imp_self, bne_eq_false_iff_eq, Nat.zero_add, Nat.le_refl, Int.toNat_natCast, Int.ofNat_lt, Int.natCast_nonneg, decide_eq_true_eq, decide_eq_false_iff_not, bne_iff_ne, ne_eq] at h; try dsimp only [Kd.T, Kds.T, AK.T, AKs.T] at h)
  · refine AM.run2 hG 100 (by cbv) (by (simp only [sxs, sxb, and_self, and_true, true_and, implies_true, imp_self, bne_eq_false_iff_eq, Nat.zero_add, Nat.le_refl, Int.toNat_natCast, Int.ofNat_lt, Int.natCast_nonneg, decide_eq_true_eq, decide_eq_false_iff_not, bne_iff_ne, ne_eq]; try dsimp only [Kd.T, Kds.T, AK.T, AKs.T])) ?_
    refine AM.ret2 hG (by cbv) (by (simp only [sxs, sxb, and_self, and_true, true_and, implies_true, imp_self, bne_eq_false_iff_eq, Nat.zero_add, Nat.le_refl, Int.toNat_natCast, Int.ofNat_lt, Int.natCast_nonneg, decide_eq_true_eq, decide_eq_false_iff_not, bne_iff_ne, ne_eq]; try dsimp only [Kd.T, Kds.T, AK.T, AKs.T])) (hQ _ _ (FinRo.of (by cbv) (by cbv) ?_ ?_))
    · (simp only [sxs, sxb, and_self, and_true, true_and, implies_true, imp_self, bne_eq_false_iff_eq, Nat.zero_add, Nat.le_refl, Int.toNat_natCast, Int.ofNat_lt, Int.natCast_nonneg, decide_eq_true_eq, decide_eq_false_iff_not, bne_iff_ne, ne_eq]; try dsimp only [Kd.T, Kds.T, AK.T, AKs.T])
    try (simp only [sxs, sxb, and_self, and_true, true_and, implies_true, imp_self, bne_eq_false_iff_eq, Nat.zero_add, Nat.le_refl, Int.toNat_natCast, Int.ofNat_lt, Int.natCast_nonneg, decide_eq_true_eq, decide_eq_false_iff_not, bne_iff_ne, ne_eq]; try dsimp only [Kd.T, Kds.T, AK.T, AKs.T])
    simp only [modS, if_pos h]
  · refine AM.run2 hG 100 (by cbv) ?_ ?_
    · (simp only [sxs, sxb, and_self, and_true, true_and, implies_true, imp_self, bne_eq_false_iff_eq, Nat.zero_add, Nat.le_refl, Int.toNat_natCast, Int.ofNat_lt, Int.natCast_nonneg, decide_eq_true_eq, decide_eq_false_iff_not, bne_iff_ne, ne_eq]; try dsimp only [Kd.T, Kds.T, AK.T, AKs.T])
      omega
    have h1 := Int.tmod_add_mul_tdiv n m
    refine AM.case 11 rfl (fun g => ?_) (fun g => ?_) <;> (simp only [sxs, sxb, and_self, and_true, true_and, implies_true, imp_self, bne_eq_false_iff_eq, Nat.zero_add, Nat.le_refl, Int.toNat_natCast, Int.ofNat_lt, Int.natCast_nonneg, decide_eq_true_eq, decide_eq_false_iff_not, bne_iff_ne, ne_eq] at g; try dsimp only [Kd.T, Kds.T, AK.T, AKs.T] at g)
    · refine AM.run2 hG 100 (by cbv) (by (simp only [sxs, sxb, and_self, and_true, true_and, implies_true, imp_self, bne_eq_false_iff_eq, Nat.zero_add, Nat.le_refl, Int.toNat_natCast, Int.ofNat_lt, Int.natCast_nonneg, decide_eq_true_eq, decide_eq_false_iff_not, bne_iff_ne, ne_eq]; try dsimp only [Kd.T, Kds.T, AK.T, AKs.T])) ?_
      have h2 : n.tmod m + m = n % m := by
        rcases (show n < 0 ∨ 0 ≤ n by omega) with hn | hn
        · rw [Int.tmod_eq_emod]
          rw [Int.tmod_eq_emod] at g
          simp only [show ¬ 0 ≤ n by omega, false_or] at g ⊢
          split at g
          · have := Int.emod_nonneg n (show m ≠ 0 by omega); omega
          · rename_i hd
            rw [if_neg hd]
            omega
        · rw [Int.tmod_eq_emod_of_nonneg hn] at g
          have := Int.emod_nonneg n (show m ≠ 0 by omega); omega
      have h3 := Int.emod_nonneg n (show m ≠ 0 by omega)
      have h4 := Int.emod_lt_of_pos n (show 0 < m by omega)
      refine AM.ret2 hG (by cbv) (by (simp only [sxs, sxb, and_self, and_true, true_and, implies_true, imp_self, bne_eq_false_iff_eq, Nat.zero_add, Nat.le_refl, Int.toNat_natCast, Int.ofNat_lt, Int.natCast_nonneg, decide_eq_true_eq, decide_eq_false_iff_not, bne_iff_ne, ne_eq]; try dsimp only [Kd.T, Kds.T, AK.T, AKs.T])) (hQ _ _ (FinRo.of (by cbv) (by cbv) ?_ ?_))
      · (simp only [sxs, sxb, and_self, and_true, true_and, implies_true, imp_self, bne_eq_false_iff_eq, Nat.zero_add, Nat.le_refl, Int.toNat_natCast, Int.ofNat_lt, Int.natCast_nonneg, decide_eq_true_eq, decide_eq_false_iff_not, bne_iff_ne, ne_eq]; try dsimp only [Kd.T, Kds.T, AK.T, AKs.T])
      try (simp only [sxs, sxb, and_self, and_true, true_and, implies_true, imp_self, bne_eq_false_iff_eq, Nat.zero_add, Nat.le_refl, Int.toNat_natCast, Int.ofNat_lt, Int.natCast_nonneg, decide_eq_true_eq, decide_eq_false_iff_not, bne_iff_ne, ne_eq]; try dsimp only [Kd.T, Kds.T, AK.T, AKs.T])
      rw [h2, w64 (by omega) (by omega)]
      simp only [modS, if_neg h]
    · refine AM.run2 hG 100 (by cbv) (by (simp only [sxs, sxb, and_self, and_true, true_and, implies_true, imp_self, bne_eq_false_iff_eq, Nat.zero_add, Nat.le_refl, Int.toNat_natCast, Int.ofNat_lt, Int.natCast_nonneg, decide_eq_true_eq, decide_eq_false_iff_not, bne_iff_ne, ne_eq]; try dsimp only [Kd.T, Kds.T, AK.T, AKs.T])) ?_
      refine AM.ret2 hG (by cbv) (by (simp only [sxs, sxb, and_self, and_true, true_and, implies_true, imp_self, bne_eq_false_iff_eq, Nat.zero_add, Nat.le_refl, Int.toNat_natCast, Int.ofNat_lt, Int.natCast_nonneg, decide_eq_true_eq, decide_eq_false_iff_not, bne_iff_ne, ne_eq]; try dsimp only [Kd.T, Kds.T, AK.T, AKs.T])) (hQ _ _ (FinRo.of (by cbv) (by cbv) ?_ ?_))
      · (simp only [sxs, sxb, and_self, and_true, true_and, implies_true, imp_self, bne_eq_false_iff_eq, Nat.zero_add, Nat.le_refl, Int.toNat_natCast, Int.ofNat_lt, Int.natCast_nonneg, decide_eq_true_eq, decide_eq_false_iff_not, bne_iff_ne, ne_eq]; try dsimp only [Kd.T, Kds.T, AK.T, AKs.T])
      try (simp only [sxs, sxb, and_self, and_true, true_and, implies_true, imp_self, bne_eq_false_iff_eq, Nat.zero_add, Nat.le_refl, Int.toNat_natCast, Int.ofNat_lt, Int.natCast_nonneg, decide_eq_true_eq, decide_eq_false_iff_not, bne_iff_ne, ne_eq]; try dsimp only [Kd.T, Kds.T, AK.T, AKs.T])
      simp only [modS, if_neg h]
      rw [Int.tmod_eq_emod] at g ⊢
      have h3 := Int.emod_nonneg n (show m ≠ 0 by omega)
      have h4 := Int.emod_lt_of_pos n (show 0 < m by omega)
      split at g
      · rename_i hd; rw [if_pos hd]; omega
      · omega
theorem qr {k : Int} (h0 : 0 ≤ k) (h1 : k < 1073741824) (m n : Int) (hm : 0 < m) (hm2 : m ≤ 1073741824) : (IntKind.i64.wrap (k.tdiv m)).tmod n = (k / m) % n ∧ IntKind.i64.wrap (k.tdiv m) = k / m := by
  have q0 := Int.ediv_nonneg h0 (Int.le_of_lt hm)
  have q1 := Int.ediv_le_self m h0
  rw [Int.tdiv_eq_ediv_of_nonneg h0, w64 (by omega) (by omega), Int.tmod_eq_emod_of_nonneg q0]
  exact ⟨rfl, rfl⟩
theorem modS_in (n : Int) {m : Int} (h : 0 < m) : 0 ≤ modS n m ∧ modS n m < m := by
  rw [modS, if_neg (by omega)]
  exact ⟨Int.emod_nonneg n (by omega), Int.emod_lt_of_pos n h⟩
theorem take_succG {α : Type} {l : List α} {i : Nat} (d : α) (h : i < l.length) : l.take (i + 1) = l.take i ++ [l.getD i d] := by
  rw [List.take_add_one, List.getElem?_eq_getElem h, List.getD_eq_getElem?_getD, List.getElem?_eq_getElem h]; rfl
theorem take_sameG {α : Type} (d : α) {a b : List α} {i : Nat} (he : a.take i = b.take i) (h1 : i < a.length) (h2 : i < b.length) (h3 : a.getD i d = b.getD i d) : a.take (i + 1) = b.take (i + 1) := by
  rw [take_succG d h1, take_succG d h2, he, h3]
theorem heldFrom0 {next : Int} {l : List Held} : ∀ {n i : Nat}, (heldFrom next l n i).1 = 0 → ∀ j, i ≤ j → j < i + n → heldBad next l j = 0
  | 0, i, _, j, h1, h2 => by omega
  | n + 1, i, h, j, h1, h2 => by
    rw [heldFrom] at h
    split at h
    · rename_i q; exact absurd h q
    · rename_i q
      rcases (show j = i ∨ i + 1 ≤ j by omega) with rfl | h3
      · exact Decidable.not_not.1 q
      · exact heldFrom0 h j h3 (by omega)
/-- A valid ring. -/
structure RingOk (r : Ring) : Prop where
  cap : 1 ≤ r.1 ∧ r.1 ≤ 32
  next : 1 ≤ r.2.1 ∧ r.2.1 ≤ 1099511627777
  len : (r.2.2.1.length : Int) ≤ r.1
  nums : ∀ i, i < r.2.2.1.length → 1 ≤ (r.2.2.1.getD i zH).1 ∧ (r.2.2.1.getD i zH).1 < r.2.1
  step : ∀ i, 0 < i → i < r.2.2.1.length → (r.2.2.1.getD (i - 1) zH).1 < (r.2.2.1.getD i zH).1
theorem ring_ok {r : Ring} (h : (ringC r).1 = 0) : RingOk r := by
  rw [ringC] at h
  split at h
  · cases h
  · rename_i q1
    split at h
    · cases h
    · rename_i q2
      have hb := heldFrom0 h
      refine ⟨by omega, by omega, by omega, fun i hi => ?_, fun i h0 hi => ?_⟩
      · have := hb i (by omega) (by omega)
        rw [heldBad] at this
        split at this
        · cases this
        · omega
      · have := hb i (by omega) (by omega)
        rw [heldBad] at this
        split at this
        · cases this
        · split at this
          · cases this
          · omega
theorem RingOk.check {r : Ring} (h : RingOk r) : ringC r = (0, 0) := by
  have h1 := h.cap
  have h2 := h.next
  have h3 := h.len
  rw [ringC, if_neg (by omega), if_neg (by omega)]
  have : ∀ n i, i + n ≤ r.2.2.1.length → heldFrom r.2.1 r.2.2.1 n i = (0, 0) := by
    intro n
    induction n with
    | zero => intro i _; rfl
    | succ n ih =>
      intro i hi
      have hb : heldBad r.2.1 r.2.2.1 i = 0 := by
        have q1 := h.nums i (by omega)
        rw [heldBad, if_neg (by omega), if_neg]
        rintro ⟨q2, q3⟩
        have := h.step i q2 (by omega)
        omega
      rw [heldFrom, if_neg (by rw [hb]; decide)]
      exact ih (i + 1) (by omega)
  exact this _ 0 (by omega)
theorem asc_of {l : List Held} (h : ∀ i, 0 < i → i < l.length → (l.getD (i - 1) zH).1 < (l.getD i zH).1) : Asc l := by
  intro i j hij hj
  induction j with
  | zero => omega
  | succ j ih =>
    have h1 := h (j + 1) (by omega) hj
    rw [Nat.add_sub_cancel] at h1
    rcases (show i < j ∨ i = j by omega) with q | rfl
    · exact Int.lt_trans (ih q (by omega)) h1
    · exact h1
def findR (r : Ring) (x : Int) : Int × Int := if (ringC r).1 ≠ 0 then (0, (ringC r).1) else if hitB r.2.2.1 x = true then (nI (lowI r.2.2.1 x), 0) else (0, 6)
def S7 : List AV → Option FOut := sigSpec [RingK, U64] [I64, I64] (fun x : Ring × Int × Unit => ((findR x.1 x.2.1).1, (findR x.1 x.2.1).2, ())) (fun x : Ring × Int × Unit => x.1.2.2.1.length ≤ 1000000)
theorem fn7 : FnOk Try.prog 7 S7 := by
  refine fn_of (rs := [.tmp 4, .tmp 5]) (env [(17, S17), (21, S21)] ⟨fn17, fn21, trivial⟩) Try.func7 (by kernel_rfl) rfl rfl Try.ntmps7 ?_
  rintro ⟨⟨(cap : Int), (next : Int), (l : List Held), ⟨⟩⟩, (x : Int), u2⟩ hl G hG hQ
  simp only at hl
  refine AM.run2 hG 100 (by cbv) ?_ ?_
  · (simp only [sxs, sxb, and_self, and_true, true_and, implies_true, imp_self, bne_eq_false_iff_eq, Nat.zero_add, Nat.le_refl, Int.toNat_natCast, Int.ofNat_lt, Int.natCast_nonneg, decide_eq_true_eq, decide_eq_false_iff_not, bne_iff_ne, ne_eq]; try dsimp only [Kd.T, Kds.T, AK.T, AKs.T])
    exact hl
  refine AM.case 16 rfl (fun c => ?_) (fun c => ?_) <;> (simp only [sxs, sxb, and_self, and_true, true_and, implies_true, imp_self, bne_eq_false_iff_eq, Nat.zero_add, Nat.le_refl, Int.toNat_natCast, Int.ofNat_lt, Int.natCast_nonneg, decide_eq_true_eq, decide_eq_false_iff_not, bne_iff_ne, ne_eq] at c; try dsimp only [Kd.T, Kds.T, AK.T, AKs.T] at c)
  · replace c : ¬ (ringC (cap, next, l, ())).1 = 0 := c
    refine AM.run2 hG 100 (by cbv) ?_ ?_
    · (simp only [sxs, sxb, and_self, and_true, true_and, implies_true, imp_self, bne_eq_false_iff_eq, Nat.zero_add, Nat.le_refl, Int.toNat_natCast, Int.ofNat_lt, Int.natCast_nonneg, decide_eq_true_eq, decide_eq_false_iff_not, bne_iff_ne, ne_eq]; try dsimp only [Kd.T, Kds.T, AK.T, AKs.T])
    refine AM.ret2 hG (by cbv) (by (simp only [sxs, sxb, and_self, and_true, true_and, implies_true, imp_self, bne_eq_false_iff_eq, Nat.zero_add, Nat.le_refl, Int.toNat_natCast, Int.ofNat_lt, Int.natCast_nonneg, decide_eq_true_eq, decide_eq_false_iff_not, bne_iff_ne, ne_eq]; try dsimp only [Kd.T, Kds.T, AK.T, AKs.T])) (hQ _ _ (FinRo.of (by cbv) (by cbv) ?_ ?_))
    · (simp only [sxs, sxb, and_self, and_true, true_and, implies_true, imp_self, bne_eq_false_iff_eq, Nat.zero_add, Nat.le_refl, Int.toNat_natCast, Int.ofNat_lt, Int.natCast_nonneg, decide_eq_true_eq, decide_eq_false_iff_not, bne_iff_ne, ne_eq]; try dsimp only [Kd.T, Kds.T, AK.T, AKs.T])
    try (simp only [sxs, sxb, and_self, and_true, true_and, implies_true, imp_self, bne_eq_false_iff_eq, Nat.zero_add, Nat.le_refl, Int.toNat_natCast, Int.ofNat_lt, Int.natCast_nonneg, decide_eq_true_eq, decide_eq_false_iff_not, bne_iff_ne, ne_eq]; try dsimp only [Kd.T, Kds.T, AK.T, AKs.T])
    rw [findR, if_pos c]
    exact ⟨rfl, rfl⟩
  replace c : (ringC (cap, next, l, ())).1 = 0 := c
  refine AM.run2 hG 100 (by cbv) ?_ ?_
  · (simp only [sxs, sxb, and_self, and_true, true_and, implies_true, imp_self, bne_eq_false_iff_eq, Nat.zero_add, Nat.le_refl, Int.toNat_natCast, Int.ofNat_lt, Int.natCast_nonneg, decide_eq_true_eq, decide_eq_false_iff_not, bne_iff_ne, ne_eq]; try dsimp only [Kd.T, Kds.T, AK.T, AKs.T])
    exact ⟨hl, asc_of (ring_ok c).step⟩
  refine AM.case 26 rfl (fun (h : (!hitB l x) = true) => ?_) (fun (h : (!hitB l x) = false) => ?_)
  · rw [Bool.not_eq_true'] at h
    refine AM.run2 hG 100 (by cbv) ?_ ?_
    · (simp only [sxs, sxb, and_self, and_true, true_and, implies_true, imp_self, bne_eq_false_iff_eq, Nat.zero_add, Nat.le_refl, Int.toNat_natCast, Int.ofNat_lt, Int.natCast_nonneg, decide_eq_true_eq, decide_eq_false_iff_not, bne_iff_ne, ne_eq]; try dsimp only [Kd.T, Kds.T, AK.T, AKs.T])
    refine AM.ret2 hG (by cbv) (by (simp only [sxs, sxb, and_self, and_true, true_and, implies_true, imp_self, bne_eq_false_iff_eq, Nat.zero_add, Nat.le_refl, Int.toNat_natCast, Int.ofNat_lt, Int.natCast_nonneg, decide_eq_true_eq, decide_eq_false_iff_not, bne_iff_ne, ne_eq]; try dsimp only [Kd.T, Kds.T, AK.T, AKs.T])) (hQ _ _ (FinRo.of (by cbv) (by cbv) ?_ ?_))
    · (simp only [sxs, sxb, and_self, and_true, true_and, implies_true, imp_self, bne_eq_false_iff_eq, Nat.zero_add, Nat.le_refl, Int.toNat_natCast, Int.ofNat_lt, Int.natCast_nonneg, decide_eq_true_eq, decide_eq_false_iff_not, bne_iff_ne, ne_eq]; try dsimp only [Kd.T, Kds.T, AK.T, AKs.T])
    try (simp only [sxs, sxb, and_self, and_true, true_and, implies_true, imp_self, bne_eq_false_iff_eq, Nat.zero_add, Nat.le_refl, Int.toNat_natCast, Int.ofNat_lt, Int.natCast_nonneg, decide_eq_true_eq, decide_eq_false_iff_not, bne_iff_ne, ne_eq]; try dsimp only [Kd.T, Kds.T, AK.T, AKs.T])
    rw [findR, if_neg (by rw [c]; decide), if_neg (by simp only; rw [h]; decide)]
    exact ⟨rfl, rfl⟩
  rw [Bool.not_eq_false'] at h
  refine AM.run2 hG 100 (by cbv) ?_ ?_
  · (simp only [sxs, sxb, and_self, and_true, true_and, implies_true, imp_self, bne_eq_false_iff_eq, Nat.zero_add, Nat.le_refl, Int.toNat_natCast, Int.ofNat_lt, Int.natCast_nonneg, decide_eq_true_eq, decide_eq_false_iff_not, bne_iff_ne, ne_eq]; try dsimp only [Kd.T, Kds.T, AK.T, AKs.T])
  refine AM.ret2 hG (by cbv) (by (simp only [sxs, sxb, and_self, and_true, true_and, implies_true, imp_self, bne_eq_false_iff_eq, Nat.zero_add, Nat.le_refl, Int.toNat_natCast, Int.ofNat_lt, Int.natCast_nonneg, decide_eq_true_eq, decide_eq_false_iff_not, bne_iff_ne, ne_eq]; try dsimp only [Kd.T, Kds.T, AK.T, AKs.T])) (hQ _ _ (FinRo.of (by cbv) (by cbv) ?_ ?_))
  · (simp only [sxs, sxb, and_self, and_true, true_and, implies_true, imp_self, bne_eq_false_iff_eq, Nat.zero_add, Nat.le_refl, Int.toNat_natCast, Int.ofNat_lt, Int.natCast_nonneg, decide_eq_true_eq, decide_eq_false_iff_not, bne_iff_ne, ne_eq]; try dsimp only [Kd.T, Kds.T, AK.T, AKs.T])
  try (simp only [sxs, sxb, and_self, and_true, true_and, implies_true, imp_self, bne_eq_false_iff_eq, Nat.zero_add, Nat.le_refl, Int.toNat_natCast, Int.ofNat_lt, Int.natCast_nonneg, decide_eq_true_eq, decide_eq_false_iff_not, bne_iff_ne, ne_eq]; try dsimp only [Kd.T, Kds.T, AK.T, AKs.T])
  rw [findR, if_neg (by rw [c]; decide), if_pos h]
  exact ⟨rfl, rfl⟩
def ageR (r : Ring) (x : Int) : Int × Int := if (findR r x).2 ≠ 0 then (0, (findR r x).2) else (IntKind.u64.wrap (IntKind.u64.wrap (r.2.1 - 1) - x), 0)
def S10 : List AV → Option FOut := sigSpec [RingK, U64] [U64, I64] (fun x : Ring × Int × Unit => ((ageR x.1 x.2.1).1, (ageR x.1 x.2.1).2, ())) (fun x : Ring × Int × Unit => x.1.2.2.1.length ≤ 1000000)
theorem fn10 : FnOk Try.prog 10 S10 := by
  refine fn_of (rs := [.tmp 4, .tmp 5]) (env [(7, S7)] ⟨fn7, trivial⟩) Try.func10 (by kernel_rfl) rfl rfl Try.ntmps10 ?_
  rintro ⟨⟨(cap : Int), (next : Int), (l : List Held), ⟨⟩⟩, (x : Int), u2⟩ hl G hG hQ
  simp only at hl
  refine AM.run2 hG 100 (by cbv) ?_ ?_
  · (simp only [sxs, sxb, and_self, and_true, true_and, implies_true, imp_self, bne_eq_false_iff_eq, Nat.zero_add, Nat.le_refl, Int.toNat_natCast, Int.ofNat_lt, Int.natCast_nonneg, decide_eq_true_eq, decide_eq_false_iff_not, bne_iff_ne, ne_eq]; try dsimp only [Kd.T, Kds.T, AK.T, AKs.T])
    exact hl
  refine AM.case 15 rfl (fun c => ?_) (fun c => ?_) <;> (simp only [sxs, sxb, and_self, and_true, true_and, implies_true, imp_self, bne_eq_false_iff_eq, Nat.zero_add, Nat.le_refl, Int.toNat_natCast, Int.ofNat_lt, Int.natCast_nonneg, decide_eq_true_eq, decide_eq_false_iff_not, bne_iff_ne, ne_eq] at c; try dsimp only [Kd.T, Kds.T, AK.T, AKs.T] at c)
  · replace c : ¬ (findR (cap, next, l, ()) x).2 = 0 := c
    refine AM.run2 hG 100 (by cbv) ?_ ?_
    · (simp only [sxs, sxb, and_self, and_true, true_and, implies_true, imp_self, bne_eq_false_iff_eq, Nat.zero_add, Nat.le_refl, Int.toNat_natCast, Int.ofNat_lt, Int.natCast_nonneg, decide_eq_true_eq, decide_eq_false_iff_not, bne_iff_ne, ne_eq]; try dsimp only [Kd.T, Kds.T, AK.T, AKs.T])
    refine AM.ret2 hG (by cbv) (by (simp only [sxs, sxb, and_self, and_true, true_and, implies_true, imp_self, bne_eq_false_iff_eq, Nat.zero_add, Nat.le_refl, Int.toNat_natCast, Int.ofNat_lt, Int.natCast_nonneg, decide_eq_true_eq, decide_eq_false_iff_not, bne_iff_ne, ne_eq]; try dsimp only [Kd.T, Kds.T, AK.T, AKs.T])) (hQ _ _ (FinRo.of (by cbv) (by cbv) ?_ ?_))
    · (simp only [sxs, sxb, and_self, and_true, true_and, implies_true, imp_self, bne_eq_false_iff_eq, Nat.zero_add, Nat.le_refl, Int.toNat_natCast, Int.ofNat_lt, Int.natCast_nonneg, decide_eq_true_eq, decide_eq_false_iff_not, bne_iff_ne, ne_eq]; try dsimp only [Kd.T, Kds.T, AK.T, AKs.T])
    try (simp only [sxs, sxb, and_self, and_true, true_and, implies_true, imp_self, bne_eq_false_iff_eq, Nat.zero_add, Nat.le_refl, Int.toNat_natCast, Int.ofNat_lt, Int.natCast_nonneg, decide_eq_true_eq, decide_eq_false_iff_not, bne_iff_ne, ne_eq]; try dsimp only [Kd.T, Kds.T, AK.T, AKs.T])
    rw [ageR, if_pos c]
    exact ⟨rfl, rfl⟩
  replace c : (findR (cap, next, l, ()) x).2 = 0 := c
  refine AM.run2 hG 100 (by cbv) ?_ ?_
  · (simp only [sxs, sxb, and_self, and_true, true_and, implies_true, imp_self, bne_eq_false_iff_eq, Nat.zero_add, Nat.le_refl, Int.toNat_natCast, Int.ofNat_lt, Int.natCast_nonneg, decide_eq_true_eq, decide_eq_false_iff_not, bne_iff_ne, ne_eq]; try dsimp only [Kd.T, Kds.T, AK.T, AKs.T])
  refine AM.ret2 hG (by cbv) (by (simp only [sxs, sxb, and_self, and_true, true_and, implies_true, imp_self, bne_eq_false_iff_eq, Nat.zero_add, Nat.le_refl, Int.toNat_natCast, Int.ofNat_lt, Int.natCast_nonneg, decide_eq_true_eq, decide_eq_false_iff_not, bne_iff_ne, ne_eq]; try dsimp only [Kd.T, Kds.T, AK.T, AKs.T])) (hQ _ _ (FinRo.of (by cbv) (by cbv) ?_ ?_))
  · (simp only [sxs, sxb, and_self, and_true, true_and, implies_true, imp_self, bne_eq_false_iff_eq, Nat.zero_add, Nat.le_refl, Int.toNat_natCast, Int.ofNat_lt, Int.natCast_nonneg, decide_eq_true_eq, decide_eq_false_iff_not, bne_iff_ne, ne_eq]; try dsimp only [Kd.T, Kds.T, AK.T, AKs.T])
  try (simp only [sxs, sxb, and_self, and_true, true_and, implies_true, imp_self, bne_eq_false_iff_eq, Nat.zero_add, Nat.le_refl, Int.toNat_natCast, Int.ofNat_lt, Int.natCast_nonneg, decide_eq_true_eq, decide_eq_false_iff_not, bne_iff_ne, ne_eq]; try dsimp only [Kd.T, Kds.T, AK.T, AKs.T])
  rw [ageR, if_neg (by rw [c]; decide)]
  exact ⟨rfl, rfl⟩
def restR (r : Ring) : Int × Int := if (ringC r).1 ≠ 0 then (0, (ringC r).1) else (IntKind.i64.wrap (r.1 - nI r.2.2.1.length), 0)
def S13 : List AV → Option FOut := sigSpec [RingK] [I64, I64] (fun x : Ring × Unit => ((restR x.1).1, (restR x.1).2, ())) (fun x : Ring × Unit => x.1.2.2.1.length ≤ 1000000)
theorem fn13 : FnOk Try.prog 13 S13 := by
  refine fn_of (rs := [.tmp 2, .tmp 3]) (env [(17, S17)] ⟨fn17, trivial⟩) Try.func13 (by kernel_rfl) rfl rfl Try.ntmps13 ?_
  rintro ⟨⟨(cap : Int), (next : Int), (l : List Held), ⟨⟩⟩, u2⟩ hl G hG hQ
  simp only at hl
  refine AM.run2 hG 100 (by cbv) ?_ ?_
  · (simp only [sxs, sxb, and_self, and_true, true_and, implies_true, imp_self, bne_eq_false_iff_eq, Nat.zero_add, Nat.le_refl, Int.toNat_natCast, Int.ofNat_lt, Int.natCast_nonneg, decide_eq_true_eq, decide_eq_false_iff_not, bne_iff_ne, ne_eq]; try dsimp only [Kd.T, Kds.T, AK.T, AKs.T])
    exact hl
  refine AM.case 12 rfl (fun c => ?_) (fun c => ?_) <;> (simp only [sxs, sxb, and_self, and_true, true_and, implies_true, imp_self, bne_eq_false_iff_eq, Nat.zero_add, Nat.le_refl, Int.toNat_natCast, Int.ofNat_lt, Int.natCast_nonneg, decide_eq_true_eq, decide_eq_false_iff_not, bne_iff_ne, ne_eq] at c; try dsimp only [Kd.T, Kds.T, AK.T, AKs.T] at c)
  · replace c : ¬ (ringC (cap, next, l, ())).1 = 0 := c
    refine AM.run2 hG 100 (by cbv) ?_ ?_
    · (simp only [sxs, sxb, and_self, and_true, true_and, implies_true, imp_self, bne_eq_false_iff_eq, Nat.zero_add, Nat.le_refl, Int.toNat_natCast, Int.ofNat_lt, Int.natCast_nonneg, decide_eq_true_eq, decide_eq_false_iff_not, bne_iff_ne, ne_eq]; try dsimp only [Kd.T, Kds.T, AK.T, AKs.T])
    refine AM.ret2 hG (by cbv) (by (simp only [sxs, sxb, and_self, and_true, true_and, implies_true, imp_self, bne_eq_false_iff_eq, Nat.zero_add, Nat.le_refl, Int.toNat_natCast, Int.ofNat_lt, Int.natCast_nonneg, decide_eq_true_eq, decide_eq_false_iff_not, bne_iff_ne, ne_eq]; try dsimp only [Kd.T, Kds.T, AK.T, AKs.T])) (hQ _ _ (FinRo.of (by cbv) (by cbv) ?_ ?_))
    · (simp only [sxs, sxb, and_self, and_true, true_and, implies_true, imp_self, bne_eq_false_iff_eq, Nat.zero_add, Nat.le_refl, Int.toNat_natCast, Int.ofNat_lt, Int.natCast_nonneg, decide_eq_true_eq, decide_eq_false_iff_not, bne_iff_ne, ne_eq]; try dsimp only [Kd.T, Kds.T, AK.T, AKs.T])
    try (simp only [sxs, sxb, and_self, and_true, true_and, implies_true, imp_self, bne_eq_false_iff_eq, Nat.zero_add, Nat.le_refl, Int.toNat_natCast, Int.ofNat_lt, Int.natCast_nonneg, decide_eq_true_eq, decide_eq_false_iff_not, bne_iff_ne, ne_eq]; try dsimp only [Kd.T, Kds.T, AK.T, AKs.T])
    rw [restR, if_pos c]
    exact ⟨rfl, rfl⟩
  replace c : (ringC (cap, next, l, ())).1 = 0 := c
  refine AM.run2 hG 100 (by cbv) ?_ ?_
  · (simp only [sxs, sxb, and_self, and_true, true_and, implies_true, imp_self, bne_eq_false_iff_eq, Nat.zero_add, Nat.le_refl, Int.toNat_natCast, Int.ofNat_lt, Int.natCast_nonneg, decide_eq_true_eq, decide_eq_false_iff_not, bne_iff_ne, ne_eq]; try dsimp only [Kd.T, Kds.T, AK.T, AKs.T])
  refine AM.ret2 hG (by cbv) (by (simp only [sxs, sxb, and_self, and_true, true_and, implies_true, imp_self, bne_eq_false_iff_eq, Nat.zero_add, Nat.le_refl, Int.toNat_natCast, Int.ofNat_lt, Int.natCast_nonneg, decide_eq_true_eq, decide_eq_false_iff_not, bne_iff_ne, ne_eq]; try dsimp only [Kd.T, Kds.T, AK.T, AKs.T])) (hQ _ _ (FinRo.of (by cbv) (by cbv) ?_ ?_))
  · (simp only [sxs, sxb, and_self, and_true, true_and, implies_true, imp_self, bne_eq_false_iff_eq, Nat.zero_add, Nat.le_refl, Int.toNat_natCast, Int.ofNat_lt, Int.natCast_nonneg, decide_eq_true_eq, decide_eq_false_iff_not, bne_iff_ne, ne_eq]; try dsimp only [Kd.T, Kds.T, AK.T, AKs.T])
  try (simp only [sxs, sxb, and_self, and_true, true_and, implies_true, imp_self, bne_eq_false_iff_eq, Nat.zero_add, Nat.le_refl, Int.toNat_natCast, Int.ofNat_lt, Int.natCast_nonneg, decide_eq_true_eq, decide_eq_false_iff_not, bne_iff_ne, ne_eq]; try dsimp only [Kd.T, Kds.T, AK.T, AKs.T])
  rw [restR, if_neg (by rw [c]; decide)]
  exact ⟨rfl, rfl⟩
def newR (n : Int) : Ring × Int := if n < 1 ∨ 32 < n then (zRing, 2) else ((n, 1, [], ()), 0)
def S16 : List AV → Option FOut := sigSpec [I64] [RingK, I64] (fun x : Int × Unit => ((newR x.1).1, (newR x.1).2, ())) (fun _ => True)
theorem fn16 : FnOk Try.prog 16 S16 := by
  refine fn_of (rs := [.cell 2 27, .tmp 3]) (env [] trivial) Try.func16 (by kernel_rfl) rfl rfl Try.ntmps16 ?_
  rintro ⟨(n : Int), u2⟩ _ G hG hQ
  refine AM.run2 hG 100 (by cbv) ?_ ?_
  · (simp only [sxs, sxb, and_self, and_true, true_and, implies_true, imp_self, bne_eq_false_iff_eq, Nat.zero_add, Nat.le_refl, Int.toNat_natCast, Int.ofNat_lt, Int.natCast_nonneg, decide_eq_true_eq, decide_eq_false_iff_not, bne_iff_ne, ne_eq]; try dsimp only [Kd.T, Kds.T, AK.T, AKs.T])
  refine AM.case 9 rfl (fun c => ?_) (fun c => ?_) <;> (simp only [sxs, sxb, and_self, and_true, true_and, implies_true, imp_self, bne_eq_false_iff_eq, Nat.zero_add, Nat.le_refl, Int.toNat_natCast, Int.ofNat_lt, Int.natCast_nonneg, decide_eq_true_eq, decide_eq_false_iff_not, bne_iff_ne, ne_eq] at c; try dsimp only [Kd.T, Kds.T, AK.T, AKs.T] at c)
  · refine AM.run2 hG 100 (by cbv) ?_ ?_
    · (simp only [sxs, sxb, and_self, and_true, true_and, implies_true, imp_self, bne_eq_false_iff_eq, Nat.zero_add, Nat.le_refl, Int.toNat_natCast, Int.ofNat_lt, Int.natCast_nonneg, decide_eq_true_eq, decide_eq_false_iff_not, bne_iff_ne, ne_eq]; try dsimp only [Kd.T, Kds.T, AK.T, AKs.T])
    refine AM.ret2 hG (by cbv) (by (simp only [sxs, sxb, and_self, and_true, true_and, implies_true, imp_self, bne_eq_false_iff_eq, Nat.zero_add, Nat.le_refl, Int.toNat_natCast, Int.ofNat_lt, Int.natCast_nonneg, decide_eq_true_eq, decide_eq_false_iff_not, bne_iff_ne, ne_eq]; try dsimp only [Kd.T, Kds.T, AK.T, AKs.T])) (hQ _ _ (FinRo.of (by cbv) (by cbv) ?_ ?_))
    · (simp only [sxs, sxb, and_self, and_true, true_and, implies_true, imp_self, bne_eq_false_iff_eq, Nat.zero_add, Nat.le_refl, Int.toNat_natCast, Int.ofNat_lt, Int.natCast_nonneg, decide_eq_true_eq, decide_eq_false_iff_not, bne_iff_ne, ne_eq]; try dsimp only [Kd.T, Kds.T, AK.T, AKs.T])
    try (simp only [sxs, sxb, and_self, and_true, true_and, implies_true, imp_self, bne_eq_false_iff_eq, Nat.zero_add, Nat.le_refl, Int.toNat_natCast, Int.ofNat_lt, Int.natCast_nonneg, decide_eq_true_eq, decide_eq_false_iff_not, bne_iff_ne, ne_eq]; try dsimp only [Kd.T, Kds.T, AK.T, AKs.T])
    rw [newR, if_pos c]
    exact ⟨⟨rfl, rfl, rfl⟩, rfl⟩
  refine AM.run2 hG 100 (by cbv) ?_ ?_
  · (simp only [sxs, sxb, and_self, and_true, true_and, implies_true, imp_self, bne_eq_false_iff_eq, Nat.zero_add, Nat.le_refl, Int.toNat_natCast, Int.ofNat_lt, Int.natCast_nonneg, decide_eq_true_eq, decide_eq_false_iff_not, bne_iff_ne, ne_eq]; try dsimp only [Kd.T, Kds.T, AK.T, AKs.T])
  refine AM.ret2 hG (by cbv) (by (simp only [sxs, sxb, and_self, and_true, true_and, implies_true, imp_self, bne_eq_false_iff_eq, Nat.zero_add, Nat.le_refl, Int.toNat_natCast, Int.ofNat_lt, Int.natCast_nonneg, decide_eq_true_eq, decide_eq_false_iff_not, bne_iff_ne, ne_eq]; try dsimp only [Kd.T, Kds.T, AK.T, AKs.T])) (hQ _ _ (FinRo.of (by cbv) (by cbv) ?_ ?_))
  · (simp only [sxs, sxb, and_self, and_true, true_and, implies_true, imp_self, bne_eq_false_iff_eq, Nat.zero_add, Nat.le_refl, Int.toNat_natCast, Int.ofNat_lt, Int.natCast_nonneg, decide_eq_true_eq, decide_eq_false_iff_not, bne_iff_ne, ne_eq]; try dsimp only [Kd.T, Kds.T, AK.T, AKs.T])
  try (simp only [sxs, sxb, and_self, and_true, true_and, implies_true, imp_self, bne_eq_false_iff_eq, Nat.zero_add, Nat.le_refl, Int.toNat_natCast, Int.ofNat_lt, Int.natCast_nonneg, decide_eq_true_eq, decide_eq_false_iff_not, bne_iff_ne, ne_eq]; try dsimp only [Kd.T, Kds.T, AK.T, AKs.T])
  rw [newR, if_neg (by omega)]
  exact ⟨⟨rfl, rfl, rfl⟩, rfl⟩
theorem eqK_held (a b : Held) : eqK HeldK a b = decide (a = b) := by
  obtain ⟨a1, a2, ⟨⟩⟩ := a
  obtain ⟨b1, b2, ⟨⟩⟩ := b
  rw [Bool.eq_iff_iff]
  simp [eqK, eqKs, eqI, Prod.ext_iff]
def S8 : List AV → Option FOut := sigSpec [HeldsK, HeldsK] [.bool] (fun x : List Held × List Held × Unit => (decide (x.1 = x.2.1), ())) (fun x : List Held × List Held × Unit => x.1.length ≤ 1000000 ∧ x.2.1.length ≤ 1000000)
theorem fn8 : FnOk Try.prog 8 S8 := by
  refine fn_of (rs := [.tmp 4]) (env [] trivial) Try.func8 (by kernel_rfl) rfl rfl Try.ntmps8 ?_
  rintro ⟨(a : List Held), (b : List Held), u⟩ ⟨ha, hb⟩ G hG hQ
  simp only at ha hb
  refine AM.run2 hG 100 (by cbv) ?_ ?_
  · (simp only [sxs, sxb, and_self, and_true, true_and, implies_true, imp_self, bne_eq_false_iff_eq, Nat.zero_add, Nat.le_refl, Int.toNat_natCast, Int.ofNat_lt, Int.natCast_nonneg, decide_eq_true_eq, decide_eq_false_iff_not, bne_iff_ne, ne_eq]; try dsimp only [Kd.T, Kds.T, AK.T, AKs.T])
  refine AM.case 10 rfl (fun h => ?_) (fun h => ?_)
  · refine AM.run2 hG 100 (by cbv) ?_ ?_
    · (simp only [sxs, sxb, and_self, and_true, true_and, implies_true, imp_self, bne_eq_false_iff_eq, Nat.zero_add, Nat.le_refl, Int.toNat_natCast, Int.ofNat_lt, Int.natCast_nonneg, decide_eq_true_eq, decide_eq_false_iff_not, bne_iff_ne, ne_eq]; try dsimp only [Kd.T, Kds.T, AK.T, AKs.T])
    refine AM.ret2 hG (by cbv) (by (simp only [sxs, sxb, and_self, and_true, true_and, implies_true, imp_self, bne_eq_false_iff_eq, Nat.zero_add, Nat.le_refl, Int.toNat_natCast, Int.ofNat_lt, Int.natCast_nonneg, decide_eq_true_eq, decide_eq_false_iff_not, bne_iff_ne, ne_eq]; try dsimp only [Kd.T, Kds.T, AK.T, AKs.T])) (hQ _ _ (FinRo.of (by cbv) (by cbv) ?_ ?_))
    · (simp only [sxs, sxb, and_self, and_true, true_and, implies_true, imp_self, bne_eq_false_iff_eq, Nat.zero_add, Nat.le_refl, Int.toNat_natCast, Int.ofNat_lt, Int.natCast_nonneg, decide_eq_true_eq, decide_eq_false_iff_not, bne_iff_ne, ne_eq]; try dsimp only [Kd.T, Kds.T, AK.T, AKs.T])
    try (simp only [sxs, sxb, and_self, and_true, true_and, implies_true, imp_self, bne_eq_false_iff_eq, Nat.zero_add, Nat.le_refl, Int.toNat_natCast, Int.ofNat_lt, Int.natCast_nonneg, decide_eq_true_eq, decide_eq_false_iff_not, bne_iff_ne, ne_eq] at h ⊢; try dsimp only [Kd.T, Kds.T, AK.T, AKs.T] at h ⊢)
    try rw [eq_comm, decide_eq_false_iff_not]
    rintro rfl
    simp at h
  · refine AM.run2 hG 100 (by cbv) ?_ ?_
    · (simp only [sxs, sxb, and_self, and_true, true_and, implies_true, imp_self, bne_eq_false_iff_eq, Nat.zero_add, Nat.le_refl, Int.toNat_natCast, Int.ofNat_lt, Int.natCast_nonneg, decide_eq_true_eq, decide_eq_false_iff_not, bne_iff_ne, ne_eq]; try dsimp only [Kd.T, Kds.T, AK.T, AKs.T])
    refine AM.loopI (fun i : Nat => (frame 26 [(0, .ro HeldK fun _ => a), (1, .ro HeldK fun _ => b), (5, .int .i64 (.t fun _ => nI i))], [])) (fun i => i ≤ a.length ∧ a.take i = b.take i) (fun i => a.length - i) 0 ⟨by simp, rfl⟩ ?_ ?_ ?_
    · cbv; (simp only [sxs, sxb, and_self, and_true, true_and, implies_true, imp_self, bne_eq_false_iff_eq, Nat.zero_add, Nat.le_refl, Int.toNat_natCast, Int.ofNat_lt, Int.natCast_nonneg, decide_eq_true_eq, decide_eq_false_iff_not, bne_iff_ne, ne_eq]; try dsimp only [Kd.T, Kds.T, AK.T, AKs.T]); rfl
    · cbv
    · rintro i ⟨hi, he⟩ ih
      refine AM.run2 hG 100 (by cbv) ?_ ?_
      · (simp only [sxs, sxb, and_self, and_true, true_and, implies_true, imp_self, bne_eq_false_iff_eq, Nat.zero_add, Nat.le_refl, Int.toNat_natCast, Int.ofNat_lt, Int.natCast_nonneg, decide_eq_true_eq, decide_eq_false_iff_not, bne_iff_ne, ne_eq]; try dsimp only [Kd.T, Kds.T, AK.T, AKs.T])
      refine AM.case 14 rfl (fun h1 => ?_) (fun h1 => ?_)
      · refine AM.run2 hG 100 (by cbv) ?_ ?_
        · (simp only [sxs, sxb, and_self, and_true, true_and, implies_true, imp_self, bne_eq_false_iff_eq, Nat.zero_add, Nat.le_refl, Int.toNat_natCast, Int.ofNat_lt, Int.natCast_nonneg, decide_eq_true_eq, decide_eq_false_iff_not, bne_iff_ne, ne_eq] at h h1 ⊢; try dsimp only [Kd.T, Kds.T, AK.T, AKs.T] at h h1 ⊢)
          omega
        refine AM.case 25 rfl (fun h2 => ?_) (fun h2 => ?_)
        · replace h2 : (!eqK HeldK (a.getD i zH) (b.getD i zH)) = true := h2
          rw [eqK_held, Bool.not_eq_true', decide_eq_false_iff_not] at h2
          refine AM.run2 hG 100 (by cbv) ?_ ?_
          · (simp only [sxs, sxb, and_self, and_true, true_and, implies_true, imp_self, bne_eq_false_iff_eq, Nat.zero_add, Nat.le_refl, Int.toNat_natCast, Int.ofNat_lt, Int.natCast_nonneg, decide_eq_true_eq, decide_eq_false_iff_not, bne_iff_ne, ne_eq]; try dsimp only [Kd.T, Kds.T, AK.T, AKs.T])
          refine AM.ret2 hG (by cbv) (by (simp only [sxs, sxb, and_self, and_true, true_and, implies_true, imp_self, bne_eq_false_iff_eq, Nat.zero_add, Nat.le_refl, Int.toNat_natCast, Int.ofNat_lt, Int.natCast_nonneg, decide_eq_true_eq, decide_eq_false_iff_not, bne_iff_ne, ne_eq]; try dsimp only [Kd.T, Kds.T, AK.T, AKs.T])) (hQ _ _ (FinRo.of (by cbv) (by cbv) ?_ ?_))
          · (simp only [sxs, sxb, and_self, and_true, true_and, implies_true, imp_self, bne_eq_false_iff_eq, Nat.zero_add, Nat.le_refl, Int.toNat_natCast, Int.ofNat_lt, Int.natCast_nonneg, decide_eq_true_eq, decide_eq_false_iff_not, bne_iff_ne, ne_eq]; try dsimp only [Kd.T, Kds.T, AK.T, AKs.T])
          try (simp only [sxs, sxb, and_self, and_true, true_and, implies_true, imp_self, bne_eq_false_iff_eq, Nat.zero_add, Nat.le_refl, Int.toNat_natCast, Int.ofNat_lt, Int.natCast_nonneg, decide_eq_true_eq, decide_eq_false_iff_not, bne_iff_ne, ne_eq] at h1 ⊢; try dsimp only [Kd.T, Kds.T, AK.T, AKs.T] at h1 ⊢)
          try rw [eq_comm, decide_eq_false_iff_not]
          rintro rfl
          exact h2 rfl
        · replace h2 : (!eqK HeldK (a.getD i zH) (b.getD i zH)) = false := h2
          rw [eqK_held, Bool.not_eq_false', decide_eq_true_eq] at h2
          refine AM.run2 hG 100 (by cbv) ?_ ?_
          · (simp only [sxs, sxb, and_self, and_true, true_and, implies_true, imp_self, bne_eq_false_iff_eq, Nat.zero_add, Nat.le_refl, Int.toNat_natCast, Int.ofNat_lt, Int.natCast_nonneg, decide_eq_true_eq, decide_eq_false_iff_not, bne_iff_ne, ne_eq]; try dsimp only [Kd.T, Kds.T, AK.T, AKs.T])
          (simp only [sxs, sxb, and_self, and_true, true_and, implies_true, imp_self, bne_eq_false_iff_eq, Nat.zero_add, Nat.le_refl, Int.toNat_natCast, Int.ofNat_lt, Int.natCast_nonneg, decide_eq_true_eq, decide_eq_false_iff_not, bne_iff_ne, ne_eq] at h h1; try dsimp only [Kd.T, Kds.T, AK.T, AKs.T] at h h1)
          refine AM.imp2 (by cbv) (by cbv) ?_ (by (simp only [sxs, sxb, and_self, and_true, true_and, implies_true, imp_self, bne_eq_false_iff_eq, Nat.zero_add, Nat.le_refl, Int.toNat_natCast, Int.ofNat_lt, Int.natCast_nonneg, decide_eq_true_eq, decide_eq_false_iff_not, bne_iff_ne, ne_eq]; try dsimp only [Kd.T, Kds.T, AK.T, AKs.T])) (ih (i + 1) ⟨by omega, take_sameG zH he h1 (by omega) h2⟩ (by omega))
          (simp only [sxs, sxb, and_self, and_true, true_and, implies_true, imp_self, bne_eq_false_iff_eq, Nat.zero_add, Nat.le_refl, Int.toNat_natCast, Int.ofNat_lt, Int.natCast_nonneg, decide_eq_true_eq, decide_eq_false_iff_not, bne_iff_ne, ne_eq]; try dsimp only [Kd.T, Kds.T, AK.T, AKs.T])
          rw [w64s (by omega)]
      · refine AM.run2 hG 100 (by cbv) ?_ ?_
        · (simp only [sxs, sxb, and_self, and_true, true_and, implies_true, imp_self, bne_eq_false_iff_eq, Nat.zero_add, Nat.le_refl, Int.toNat_natCast, Int.ofNat_lt, Int.natCast_nonneg, decide_eq_true_eq, decide_eq_false_iff_not, bne_iff_ne, ne_eq]; try dsimp only [Kd.T, Kds.T, AK.T, AKs.T])
        refine AM.ret2 hG (by cbv) (by (simp only [sxs, sxb, and_self, and_true, true_and, implies_true, imp_self, bne_eq_false_iff_eq, Nat.zero_add, Nat.le_refl, Int.toNat_natCast, Int.ofNat_lt, Int.natCast_nonneg, decide_eq_true_eq, decide_eq_false_iff_not, bne_iff_ne, ne_eq]; try dsimp only [Kd.T, Kds.T, AK.T, AKs.T])) (hQ _ _ (FinRo.of (by cbv) (by cbv) ?_ ?_))
        · (simp only [sxs, sxb, and_self, and_true, true_and, implies_true, imp_self, bne_eq_false_iff_eq, Nat.zero_add, Nat.le_refl, Int.toNat_natCast, Int.ofNat_lt, Int.natCast_nonneg, decide_eq_true_eq, decide_eq_false_iff_not, bne_iff_ne, ne_eq]; try dsimp only [Kd.T, Kds.T, AK.T, AKs.T])
        try (simp only [sxs, sxb, and_self, and_true, true_and, implies_true, imp_self, bne_eq_false_iff_eq, Nat.zero_add, Nat.le_refl, Int.toNat_natCast, Int.ofNat_lt, Int.natCast_nonneg, decide_eq_true_eq, decide_eq_false_iff_not, bne_iff_ne, ne_eq] at h h1 ⊢; try dsimp only [Kd.T, Kds.T, AK.T, AKs.T] at h h1 ⊢)
        clear ih
        try rw [eq_comm, decide_eq_true_eq]
        rwa [List.take_of_length_le (by omega), List.take_of_length_le (by omega)] at he
end Go.Sx.Ytfnjijnaogbgmaa
