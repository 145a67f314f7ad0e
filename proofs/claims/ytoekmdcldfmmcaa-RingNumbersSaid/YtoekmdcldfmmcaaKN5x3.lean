/- Part 3 of N5: what the functions reckon, step by step, and plain laws. No condition. -/
import Derived.Test.YtoekmdcldfmmcaaKN5x2
section
namespace Go.Proofs.Ytoekmdcldfmmcaa.F
open Go.RowKit Go.Proofs.YtoekmdcldfmmcaaW.PrintWords Go.Proofs.YtoekmdcldfmmcaaW.PrintLast Go.Proofs.YtoekmdcldfmmcaaW.PrintMore
theorem le_fuel {α : Type} {f : Nat → Option α} (hm : ∀ k, LeO (f k) (f (k + 1))) {a b : Nat} (h : a ≤ b) {r : α} (e : f a = some r) : f b = some r := by
  induction h with
  | refl => exact e
  | step _ ih => exact hm _ _ ih
end Go.Proofs.Ytoekmdcldfmmcaa.F
end
section
namespace Go.Proofs.Ytoekmdcldfmmcaa.F
open Go.RowKit Go.Proofs.YtoekmdcldfmmcaaW.PrintWords Go.Proofs.YtoekmdcldfmmcaaW.PrintLast Go.Proofs.YtoekmdcldfmmcaaW.PrintMore
theorem ringKnown_true {k : Nat} {t : Bool} (h : L05_RingKnown.f k = some t) : t = true := by
  rcases Nat.le_total k 300 with hk | hk
  · have h1 := le_fuel L05_RingKnown.mono hk h
    rw [ringKnown_300] at h1
    exact (Option.some.inj h1).symm
  · have h1 := le_fuel L05_RingKnown.mono hk ringKnown_300
    rw [h] at h1
    exact Option.some.inj h1
end Go.Proofs.Ytoekmdcldfmmcaa.F
end
section
namespace Go.Proofs.Ytoekmdcldfmmcaa.Pure
open Go.RowKit Go.Proofs.Ytoekmdcldfmmcaa.F Go.Proofs.YtoekmdcldfmmcaaW.PrintWords Go.Proofs.YtoekmdcldfmmcaaW.PrintLast
set_option linter.unusedVariables false
set_option linter.unusedSimpArgs false
theorem rdg {l : List S35} {i : Nat} (h : i < l.length) : rd_T35 l (i : Int) = l[i] := by simp [rd_T35, List.getD_eq_getElem?_getD, List.getElem?_eq_getElem h]
end Go.Proofs.Ytoekmdcldfmmcaa.Pure
end
section
namespace Go.Proofs.Ytoekmdcldfmmcaa.Pure
open Go.RowKit Go.Proofs.Ytoekmdcldfmmcaa.F Go.Proofs.YtoekmdcldfmmcaaW.PrintWords Go.Proofs.YtoekmdcldfmmcaaW.PrintLast
set_option linter.unusedVariables false
set_option linter.unusedSimpArgs false
theorem w_next {i : Nat} (h : i ≤ 4096) : wrap64 ((i : Int) + 1) = ((i + 1 : Nat) : Int) := by unfold wrap64; omega
end Go.Proofs.Ytoekmdcldfmmcaa.Pure
end
section
namespace Go.Proofs.Ytoekmdcldfmmcaa.Pure
open Go.RowKit Go.Proofs.Ytoekmdcldfmmcaa.F Go.Proofs.YtoekmdcldfmmcaaW.PrintWords Go.Proofs.YtoekmdcldfmmcaaW.PrintLast
set_option linter.unusedVariables false
set_option linter.unusedSimpArgs false
theorem w_prev {i : Nat} (h0 : 0 < i) (h : i ≤ 4096) : wrap64 ((i : Int) - 1) = ((i - 1 : Nat) : Int) := by unfold wrap64; omega
end Go.Proofs.Ytoekmdcldfmmcaa.Pure
end
section
namespace Go.Proofs.Ytoekmdcldfmmcaa.Pure
open Go.RowKit Go.Proofs.Ytoekmdcldfmmcaa.F Go.Proofs.YtoekmdcldfmmcaaW.PrintWords Go.Proofs.YtoekmdcldfmmcaaW.PrintLast
set_option linter.unusedVariables false
set_option linter.unusedSimpArgs false
def ckFrom (nx : Int) : Int → Nat → List S35 → Int × Int
  | _, _, [] => (0, 0)
  | pv, i, x :: r => if x.f0 < 1 ∨ x.f0 ≥ nx then (2, (i : Int)) else if x.f0 ≤ pv then (8, (i : Int)) else ckFrom nx x.f0 (i + 1) r
end Go.Proofs.Ytoekmdcldfmmcaa.Pure
end
section
namespace Go.Proofs.Ytoekmdcldfmmcaa.Pure
open Go.RowKit Go.Proofs.Ytoekmdcldfmmcaa.F Go.Proofs.YtoekmdcldfmmcaaW.PrintWords Go.Proofs.YtoekmdcldfmmcaaW.PrintLast
set_option linter.unusedVariables false
set_option linter.unusedSimpArgs false
def ckS (a0 a1 : Int) (l : List S35) : Int × Int := if a0 < 1 ∨ a0 > 32 ∨ a1 < 1 ∨ a1 > 1099511627777 then (2, 0) else if (l.length : Int) > a0 then (5, 0) else ckFrom a1 0 0 l
end Go.Proofs.Ytoekmdcldfmmcaa.Pure
end
section
namespace Go.Proofs.Ytoekmdcldfmmcaa.Pure
open Go.RowKit Go.Proofs.Ytoekmdcldfmmcaa.F Go.Proofs.YtoekmdcldfmmcaaW.PrintWords Go.Proofs.YtoekmdcldfmmcaaW.PrintLast
set_option linter.unusedVariables false
set_option linter.unusedSimpArgs false
def pvOf (l : List S35) (i : Nat) : Int := if i = 0 then 0 else (rd_T35 l ((i - 1 : Nat) : Int)).f0
end Go.Proofs.Ytoekmdcldfmmcaa.Pure
end
section
namespace Go.Proofs.Ytoekmdcldfmmcaa.Pure
open Go.RowKit Go.Proofs.Ytoekmdcldfmmcaa.F Go.Proofs.YtoekmdcldfmmcaaW.PrintWords Go.Proofs.YtoekmdcldfmmcaaW.PrintLast
set_option linter.unusedVariables false
set_option linter.unusedSimpArgs false
theorem chkl (nx a0 : Int) (l : List S35) (hl : l.length ≤ 32) : ∀ (m k i : Nat), m = l.length - i → i ≤ l.length → 2 * m + 1 ≤ k → ring_Check.l0 k l (l.length : Int) (i : Int) a0 nx l = some (ckFrom nx (pvOf l i) i (l.drop i)) := by
  intro m
  induction m with
  | zero =>
    intro k i hm hi hk
    obtain ⟨k, rfl⟩ : ∃ k', k = k' + 1 := ⟨k - 1, by omega⟩
    obtain rfl : i = l.length := by omega
    simp only [ring_Check.l0]
    rw [if_neg (by omega), List.drop_length]
    rfl
  | succ m ih =>
    intro k i hm hi hk
    obtain ⟨k, rfl⟩ : ∃ k', k = k' + 2 := ⟨k - 2, by omega⟩
    have hlt : i < l.length := by omega
    rw [List.drop_eq_getElem_cons hlt, ← rdg hlt]
    simp only [ring_Check.l0, ckFrom]
    rw [if_pos (by omega), if_pos (by omega), if_pos (by omega)]
    have hnx := ih k (i + 1) (by omega) (by omega) (by omega)
    have hpv : pvOf l (i + 1) = (rd_T35 l (i : Int)).f0 := by unfold pvOf; rw [if_neg (by omega)]; rfl
    rw [hpv] at hnx
    by_cases c1 : (rd_T35 l (i : Int)).f0 < 1
    · rw [if_pos c1, if_pos (Or.inl c1)]
      simp only [ring_Check.j2]
      rfl
    · rw [if_neg c1]
      by_cases c2 : (rd_T35 l (i : Int)).f0 ≥ nx
      · rw [if_pos (Or.inr c2), decide_eq_true c2]
        simp only [ring_Check.j2]
        rfl
      · rw [if_neg (show ¬ ((rd_T35 l (i : Int)).f0 < 1 ∨ (rd_T35 l (i : Int)).f0 ≥ nx) by omega), decide_eq_false c2]
        simp only [ring_Check.j2]
        rw [if_neg (by decide)]
        rw [w_next (by omega), hnx]
        by_cases c3 : i = 0
        · subst c3
          rw [if_neg (by omega), if_neg (show ¬ (rd_T35 l ((0 : Nat) : Int)).f0 ≤ pvOf l 0 by unfold pvOf; simp only [↓reduceIte]; omega)]
        · rw [if_pos (by omega), w_prev (by omega) (by omega), if_pos (by omega), if_pos (by omega)]
          have hp : pvOf l i = (rd_T35 l ((i - 1 : Nat) : Int)).f0 := by unfold pvOf; rw [if_neg c3]
          rw [hp]
          by_cases c4 : (rd_T35 l (i : Int)).f0 ≤ (rd_T35 l ((i - 1 : Nat) : Int)).f0
          · rw [if_pos c4, if_pos c4]
          · rw [if_neg c4, if_neg c4]
end Go.Proofs.Ytoekmdcldfmmcaa.Pure
end
section
namespace Go.Proofs.Ytoekmdcldfmmcaa.Pure
open Go.RowKit Go.Proofs.Ytoekmdcldfmmcaa.F Go.Proofs.YtoekmdcldfmmcaaW.PrintWords Go.Proofs.YtoekmdcldfmmcaaW.PrintLast
set_option linter.unusedVariables false
set_option linter.unusedSimpArgs false
theorem chk (k : Nat) (hk : 100 ≤ k) (a0 a1 : Int) (l : List S35) : ring_Check.f k a0 a1 l = some (ckS a0 a1 l) := by
  have hT : ring_Check.j0 k true a0 a1 l = some (2, 0) := by
    obtain ⟨k, rfl⟩ : ∃ k', k = k' + 1 := ⟨k - 1, by omega⟩
    simp [ring_Check.j0]
  unfold ring_Check.f ckS
  by_cases c1 : a0 < 1
  · rw [if_pos c1, if_pos (Or.inl c1), hT]
  · rw [if_neg c1]
    by_cases c2 : a0 > 32
    · rw [if_pos c2, if_pos (Or.inr (Or.inl c2)), hT]
    · rw [if_neg c2]
      by_cases c3 : a1 < 1
      · rw [if_pos c3, if_pos (Or.inr (Or.inr (Or.inl c3))), hT]
      · rw [if_neg c3]
        by_cases c4 : a1 > 1099511627777
        · rw [decide_eq_true c4, if_pos (Or.inr (Or.inr (Or.inr c4))), hT]
        · rw [decide_eq_false c4, if_neg (show ¬ (a0 < 1 ∨ a0 > 32 ∨ a1 < 1 ∨ a1 > 1099511627777) by omega)]
          obtain ⟨k, rfl⟩ : ∃ k', k = k' + 1 := ⟨k - 1, by omega⟩
          simp only [ring_Check.j0]
          rw [if_neg (by decide)]
          by_cases c5 : (l.length : Int) > a0
          · rw [if_pos c5, if_pos c5]
          · rw [if_neg c5, if_neg c5]
            exact chkl a1 a0 l (by omega) l.length k 0 rfl (Nat.zero_le _) (by omega)
end Go.Proofs.Ytoekmdcldfmmcaa.Pure
end
section
namespace Go.Proofs.Ytoekmdcldfmmcaa.Pure
open Go.RowKit Go.Proofs.Ytoekmdcldfmmcaa.F Go.Proofs.YtoekmdcldfmmcaaW.PrintWords Go.Proofs.YtoekmdcldfmmcaaW.PrintLast
set_option linter.unusedVariables false
set_option linter.unusedSimpArgs false
/-- Numbers ascend, between lo and hi. -/
def Asc (lo hi : Int) (l : List S35) : Prop := l.Pairwise (fun x y => x.f0 < y.f0) ∧ ∀ x ∈ l, lo < x.f0 ∧ x.f0 < hi
end Go.Proofs.Ytoekmdcldfmmcaa.Pure
end
section
namespace Go.Proofs.Ytoekmdcldfmmcaa.Pure
open Go.RowKit Go.Proofs.Ytoekmdcldfmmcaa.F Go.Proofs.YtoekmdcldfmmcaaW.PrintWords Go.Proofs.YtoekmdcldfmmcaaW.PrintLast
set_option linter.unusedVariables false
set_option linter.unusedSimpArgs false
theorem ckFrom_asc (nx : Int) (l : List S35) : ∀ (pv : Int) (i : Nat), 0 ≤ pv → ((ckFrom nx pv i l).1 = 0 ↔ Asc pv nx l) := by
  induction l with
  | nil => intro pv i h; simp [ckFrom, Asc]
  | cons x r ih =>
    intro pv i h
    simp only [ckFrom]
    by_cases c1 : x.f0 < 1 ∨ x.f0 ≥ nx
    · rw [if_pos c1]
      refine ⟨fun e => by simp at e, fun e => ?_⟩
      have := e.2 x List.mem_cons_self
      omega
    · rw [if_neg c1]
      by_cases c2 : x.f0 ≤ pv
      · rw [if_pos c2]
        refine ⟨fun e => by simp at e, fun e => ?_⟩
        have := e.2 x List.mem_cons_self
        omega
      · rw [if_neg c2, ih x.f0 (i + 1) (by omega)]
        unfold Asc
        rw [List.pairwise_cons]
        constructor
        · rintro ⟨h1, h2⟩
          refine ⟨⟨fun y hy => (h2 y hy).1, h1⟩, fun y hy => ?_⟩
          rcases List.mem_cons.1 hy with rfl | hy
          · omega
          · have := h2 y hy; omega
        · rintro ⟨⟨h1, h2⟩, h3⟩
          exact ⟨h2, fun y hy => ⟨h1 y hy, (h3 y (List.mem_cons_of_mem _ hy)).2⟩⟩
end Go.Proofs.Ytoekmdcldfmmcaa.Pure
end
section
namespace Go.Proofs.Ytoekmdcldfmmcaa.Pure
open Go.RowKit Go.Proofs.Ytoekmdcldfmmcaa.F Go.Proofs.YtoekmdcldfmmcaaW.PrintWords Go.Proofs.YtoekmdcldfmmcaaW.PrintLast
set_option linter.unusedVariables false
set_option linter.unusedSimpArgs false
theorem ckFrom_zero (nx : Int) (l : List S35) : ∀ (pv : Int) (i : Nat), (ckFrom nx pv i l).1 = 0 → ckFrom nx pv i l = (0, 0) := by
  induction l with
  | nil => intro pv i h; rfl
  | cons x r ih =>
    intro pv i h
    simp only [ckFrom] at h ⊢
    split at h
    · simp at h
    · split at h
      · simp at h
      · rename_i a b
        rw [if_neg a, if_neg b]
        exact ih _ _ h
end Go.Proofs.Ytoekmdcldfmmcaa.Pure
end
section
namespace Go.Proofs.Ytoekmdcldfmmcaa.Pure
open Go.RowKit Go.Proofs.Ytoekmdcldfmmcaa.F Go.Proofs.YtoekmdcldfmmcaaW.PrintWords Go.Proofs.YtoekmdcldfmmcaaW.PrintLast
set_option linter.unusedVariables false
set_option linter.unusedSimpArgs false
/-- What a valid ring is. -/
def Valid (a0 a1 : Int) (l : List S35) : Prop := 1 ≤ a0 ∧ a0 ≤ 32 ∧ 1 ≤ a1 ∧ a1 ≤ 1099511627777 ∧ (l.length : Int) ≤ a0 ∧ Asc 0 a1 l
end Go.Proofs.Ytoekmdcldfmmcaa.Pure
end
section
namespace Go.Proofs.Ytoekmdcldfmmcaa.Pure
open Go.RowKit Go.Proofs.Ytoekmdcldfmmcaa.F Go.Proofs.YtoekmdcldfmmcaaW.PrintWords Go.Proofs.YtoekmdcldfmmcaaW.PrintLast
set_option linter.unusedVariables false
set_option linter.unusedSimpArgs false
theorem ckS_zero {a0 a1 : Int} {l : List S35} (h : (ckS a0 a1 l).1 = 0) : Valid a0 a1 l := by
  unfold ckS at h
  split at h
  · simp at h
  · split at h
    · simp at h
    · rename_i a b
      exact ⟨by omega, by omega, by omega, by omega, by omega, (ckFrom_asc a1 l 0 0 (by omega)).1 h⟩
end Go.Proofs.Ytoekmdcldfmmcaa.Pure
end
section
namespace Go.Proofs.Ytoekmdcldfmmcaa.Pure
open Go.RowKit Go.Proofs.Ytoekmdcldfmmcaa.F Go.Proofs.YtoekmdcldfmmcaaW.PrintWords Go.Proofs.YtoekmdcldfmmcaaW.PrintLast
set_option linter.unusedVariables false
set_option linter.unusedSimpArgs false
theorem ckS_valid {a0 a1 : Int} {l : List S35} (h : Valid a0 a1 l) : ckS a0 a1 l = (0, 0) := by
  obtain ⟨h1, h2, h3, h4, h5, h6⟩ := h
  unfold ckS
  rw [if_neg (by omega), if_neg (by omega)]
  exact ckFrom_zero _ _ _ _ ((ckFrom_asc a1 l 0 0 (by omega)).2 h6)
end Go.Proofs.Ytoekmdcldfmmcaa.Pure
end
section
namespace Go.Proofs.Ytoekmdcldfmmcaa.Pure
open Go.RowKit Go.Proofs.Ytoekmdcldfmmcaa.F Go.Proofs.YtoekmdcldfmmcaaW.PrintWords Go.Proofs.YtoekmdcldfmmcaaW.PrintLast
set_option linter.unusedVariables false
set_option linter.unusedSimpArgs false
def findS (a0 a1 : Int) (l : List S35) (n : Int) : Int × Int := if (ckS a0 a1 l).1 = 0 then (if l.findIdx (fun x => x.f0 == n) < l.length then (((l.findIdx (fun x => x.f0 == n) : Nat) : Int), 0) else (0, 6)) else (0, (ckS a0 a1 l).1)
end Go.Proofs.Ytoekmdcldfmmcaa.Pure
end
section
namespace Go.Proofs.Ytoekmdcldfmmcaa.Pure
open Go.RowKit Go.Proofs.Ytoekmdcldfmmcaa.F Go.Proofs.YtoekmdcldfmmcaaW.PrintWords Go.Proofs.YtoekmdcldfmmcaaW.PrintLast
set_option linter.unusedVariables false
set_option linter.unusedSimpArgs false
/-- The binary search finds the border. -/
theorem bs_border (l : List S35) (n : Int) (hp : l.Pairwise (fun x y => x.f0 < y.f0)) : ∀ (k i j : Nat), i ≤ j → j ≤ l.length → j - i ≤ k → (∀ m, m < i → m < l.length → (rd_T35 l (m : Int)).f0 < n) → (∀ m, j ≤ m → m < l.length → n ≤ (rd_T35 l (m : Int)).f0) →
    bsR l n k i j ≤ l.length ∧ (∀ m, m < bsR l n k i j → m < l.length → (rd_T35 l (m : Int)).f0 < n) ∧ (∀ m, bsR l n k i j ≤ m → m < l.length → n ≤ (rd_T35 l (m : Int)).f0) := by
  have hpw : ∀ a b, a < b → b < l.length → (rd_T35 l (a : Int)).f0 < (rd_T35 l (b : Int)).f0 := by
    intro a b h1 h2
    rw [rdg (show a < l.length by omega), rdg h2]
    exact List.pairwise_iff_getElem.1 hp a b (by omega) h2 h1
  intro k
  induction k with
  | zero =>
    intro i j hij hj hk h1 h2
    obtain rfl : i = j := by omega
    exact ⟨hj, h1, h2⟩
  | succ k ih =>
    intro i j hij hj hk h1 h2
    simp only [bsR]
    by_cases c : i < j
    · rw [if_pos c]
      by_cases d : (rd_T35 l (((i + j) / 2 : Nat) : Int)).f0 < n
      · rw [if_pos d]
        refine ih _ _ (by omega) hj (by omega) (fun m hm hml => ?_) h2
        by_cases e : m = (i + j) / 2
        · subst e; exact d
        · have := hpw m ((i + j) / 2) (by omega) (by omega); omega
      · rw [if_neg d]
        refine ih _ _ (by omega) (by omega) (by omega) h1 (fun m hm hml => ?_)
        by_cases e : m = (i + j) / 2
        · subst e; omega
        · have := hpw ((i + j) / 2) m (by omega) hml; omega
    · rw [if_neg c]
      obtain rfl : i = j := by omega
      exact ⟨hj, h1, h2⟩
end Go.Proofs.Ytoekmdcldfmmcaa.Pure
end
section
namespace Go.Proofs.Ytoekmdcldfmmcaa.Pure
open Go.RowKit Go.Proofs.Ytoekmdcldfmmcaa.F Go.Proofs.YtoekmdcldfmmcaaW.PrintWords Go.Proofs.YtoekmdcldfmmcaaW.PrintLast
set_option linter.unusedVariables false
set_option linter.unusedSimpArgs false
theorem find_ (a0 a1 : Int) (l : List S35) (n : Int) : ring_Find.f a0 a1 l n = some (findS a0 a1 l n) := by
  unfold ring_Find.f findS
  rw [chk 4096 (by omega)]
  simp only [Option.bind_some]
  by_cases c : (ckS a0 a1 l).1 = 0
  · have hv := ckS_zero c
    have h5 := hv.2.2.2.2.1
    have h2 := hv.2.1
    rw [if_pos c, if_pos c, if_pos (by omega)]
    obtain ⟨b1, b2, b3⟩ := bs_border l n hv.2.2.2.2.2.1 l.length 0 l.length (Nat.zero_le _) (Nat.le_refl _) (by omega) (fun m h => by omega) (fun m h h' => by omega)
    generalize bsR l n l.length 0 l.length = R at b1 b2 b3 ⊢
    by_cases d : R < l.length ∧ (rd_T35 l (R : Int)).f0 = n
    · have hidx : l.findIdx (fun x => x.f0 == n) = R := by
        rw [List.findIdx_eq d.1]
        refine ⟨by have := d.2; rw [rdg d.1] at this; simpa using this, fun j hj => ?_⟩
        have := b2 j hj (by omega)
        rw [rdg (by omega)] at this
        simp; omega
      rw [if_pos d, hidx, if_pos d.1]
    · rw [if_neg d, if_neg]
      intro hlt
      have hat := List.findIdx_getElem (w := hlt)
      simp only [beq_iff_eq] at hat
      rw [← rdg hlt] at hat
      generalize l.findIdx (fun x => x.f0 == n) = F at hlt hat
      rcases Nat.lt_trichotomy F R with h | h | h
      · have := b2 F h hlt; omega
      · subst h; exact d ⟨hlt, hat⟩
      · have h3 := b3 R (Nat.le_refl _) (by omega)
        have hpw := List.pairwise_iff_getElem.1 hv.2.2.2.2.2.1 R F (by omega) hlt h
        rw [← rdg (show R < l.length by omega), ← rdg hlt] at hpw
        omega
  · rw [if_neg c, if_neg c]
end Go.Proofs.Ytoekmdcldfmmcaa.Pure
end
section
namespace Go.Proofs.Ytoekmdcldfmmcaa.Pure
open Go.RowKit Go.Proofs.Ytoekmdcldfmmcaa.F Go.Proofs.YtoekmdcldfmmcaaW.PrintWords Go.Proofs.YtoekmdcldfmmcaaW.PrintLast
set_option linter.unusedVariables false
set_option linter.unusedSimpArgs false
def putS (a0 a1 : Int) (l : List S35) (w : Int) : Int × Int × List S35 × Int × Int :=
  if (ckS a0 a1 l).1 = 0 then (if (l.length : Int) = a0 then (0, 0, [], 0, 5) else if a1 > 1099511627776 then (0, 0, [], 0, 14) else (a0, a1 + 1, l ++ [⟨a1, w⟩], a1, 0)) else (0, 0, [], 0, (ckS a0 a1 l).1)
end Go.Proofs.Ytoekmdcldfmmcaa.Pure
end
section
namespace Go.Proofs.Ytoekmdcldfmmcaa.Pure
open Go.RowKit Go.Proofs.Ytoekmdcldfmmcaa.F Go.Proofs.YtoekmdcldfmmcaaW.PrintWords Go.Proofs.YtoekmdcldfmmcaaW.PrintLast
set_option linter.unusedVariables false
set_option linter.unusedSimpArgs false
theorem put_ (a0 a1 : Int) (l : List S35) (w : Int) : ring_Put.f a0 a1 l w = some (putS a0 a1 l w) := by
  unfold ring_Put.f putS
  rw [chk 4096 (by omega)]
  simp only [Option.bind_some]
  by_cases c : (ckS a0 a1 l).1 = 0
  · have hv := ckS_zero c
    have h5 := hv.2.2.2.2.1
    have h2 := hv.2.1
    have h3 := hv.2.2.1
    rw [if_pos c, if_pos c]
    by_cases d : (l.length : Int) = a0
    · rw [if_pos d, if_pos d]
    · rw [if_neg d, if_neg d]
      by_cases e : a1 > 1099511627776
      · rw [if_pos e, if_pos e]
      · rw [if_neg e, if_neg e, if_pos (by omega), if_pos (by omega)]
  · rw [if_neg c, if_neg c]
end Go.Proofs.Ytoekmdcldfmmcaa.Pure
end
section
namespace Go.Proofs.Ytoekmdcldfmmcaa.Pure
open Go.RowKit Go.Proofs.Ytoekmdcldfmmcaa.F Go.Proofs.YtoekmdcldfmmcaaW.PrintWords Go.Proofs.YtoekmdcldfmmcaaW.PrintLast
set_option linter.unusedVariables false
set_option linter.unusedSimpArgs false
def dropS (a0 a1 : Int) (l : List S35) (n : Int) : Int × Int × List S35 × Int × Int × Int :=
  if (findS a0 a1 l n).2 = 0 then (a0, a1, l.take (l.findIdx (fun x => x.f0 == n)) ++ l.drop (l.findIdx (fun x => x.f0 == n) + 1), (rd_T35 l (l.findIdx (fun x => x.f0 == n) : Nat)).f0, (rd_T35 l (l.findIdx (fun x => x.f0 == n) : Nat)).f1, 0) else (0, 0, [], 0, 0, (findS a0 a1 l n).2)
end Go.Proofs.Ytoekmdcldfmmcaa.Pure
end
section
namespace Go.Proofs.Ytoekmdcldfmmcaa.Pure
open Go.RowKit Go.Proofs.Ytoekmdcldfmmcaa.F Go.Proofs.YtoekmdcldfmmcaaW.PrintWords Go.Proofs.YtoekmdcldfmmcaaW.PrintLast
set_option linter.unusedVariables false
set_option linter.unusedSimpArgs false
theorem findS_zero {a0 a1 : Int} {l : List S35} {n : Int} (h : (findS a0 a1 l n).2 = 0) : (ckS a0 a1 l).1 = 0 ∧ l.findIdx (fun x => x.f0 == n) < l.length ∧ (findS a0 a1 l n).1 = (l.findIdx (fun x => x.f0 == n) : Nat) := by
  unfold findS at h ⊢
  by_cases c : (ckS a0 a1 l).1 = 0
  · rw [if_pos c] at h ⊢
    by_cases d : l.findIdx (fun x => x.f0 == n) < l.length
    · rw [if_pos d]; exact ⟨c, d, rfl⟩
    · rw [if_neg d] at h; simp at h
  · rw [if_neg c] at h; exact absurd h c
end Go.Proofs.Ytoekmdcldfmmcaa.Pure
end
section
namespace Go.Proofs.Ytoekmdcldfmmcaa.Pure
open Go.RowKit Go.Proofs.Ytoekmdcldfmmcaa.F Go.Proofs.YtoekmdcldfmmcaaW.PrintWords Go.Proofs.YtoekmdcldfmmcaaW.PrintLast
set_option linter.unusedVariables false
set_option linter.unusedSimpArgs false
theorem drop_ (a0 a1 : Int) (l : List S35) (n : Int) : ring_Drop.f a0 a1 l n = some (dropS a0 a1 l n) := by
  unfold ring_Drop.f dropS
  rw [find_]
  simp only [Option.bind_some]
  by_cases c : (findS a0 a1 l n).2 = 0
  · obtain ⟨c1, c2, c3⟩ := findS_zero c
    have hv := ckS_zero c1
    have h5 := hv.2.2.2.2.1
    have h2 := hv.2.1
    rw [if_pos c, if_pos c, c3, if_pos (by omega), if_pos (by omega), if_pos (by omega)]
    rfl
  · rw [if_neg c, if_neg c]
end Go.Proofs.Ytoekmdcldfmmcaa.Pure
end
section
namespace Go.Proofs.Ytoekmdcldfmmcaa.Pure
open Go.RowKit Go.Proofs.Ytoekmdcldfmmcaa.F Go.Proofs.YtoekmdcldfmmcaaW.PrintWords Go.Proofs.YtoekmdcldfmmcaaW.PrintLast
set_option linter.unusedVariables false
set_option linter.unusedSimpArgs false
def wipeS (a0 a1 : Int) (l : List S35) (m : List Int) : Int × Int × List S35 × List S35 × Int :=
  if (ckS a0 a1 l).1 = 0 then (a0, a1, l.filter (fun h => !(m.contains h.f1)), l.filter (fun h => m.contains h.f1), 0) else (0, 0, [], [], (ckS a0 a1 l).1)
end Go.Proofs.Ytoekmdcldfmmcaa.Pure
end
section
namespace Go.Proofs.Ytoekmdcldfmmcaa.Pure
open Go.RowKit Go.Proofs.Ytoekmdcldfmmcaa.F Go.Proofs.YtoekmdcldfmmcaaW.PrintWords Go.Proofs.YtoekmdcldfmmcaaW.PrintLast
set_option linter.unusedVariables false
set_option linter.unusedSimpArgs false
theorem wipe_ (a0 a1 : Int) (l : List S35) (m : List Int) (hm : m.length ≤ 64) (hw : l.all (fun h => wfW h.f1) = true) (hwm : m.all wfW = true) : ring_Wipe.f a0 a1 l m = some (wipeS a0 a1 l m) := by
  unfold ring_Wipe.f wipeS
  rw [chk 4096 (by omega)]
  simp only [Option.bind_some]
  by_cases c : (ckS a0 a1 l).1 = 0
  · have hv := ckS_zero c
    have h5 := hv.2.2.2.2.1
    have h2 := hv.2.1
    rw [if_pos c, if_pos c, if_pos (by omega), if_pos hm, if_pos hw, if_pos hwm]
  · rw [if_neg c, if_neg c]
end Go.Proofs.Ytoekmdcldfmmcaa.Pure
end
section
namespace Go.Proofs.Ytoekmdcldfmmcaa.Pure
open Go.RowKit Go.Proofs.Ytoekmdcldfmmcaa.F Go.Proofs.YtoekmdcldfmmcaaW.PrintWords Go.Proofs.YtoekmdcldfmmcaaW.PrintLast
set_option linter.unusedVariables false
set_option linter.unusedSimpArgs false
/-- The numbers 1 .. n. -/
def nums1 (n : Nat) : List Int := (List.range n).map (fun i => ((i + 1 : Nat) : Int))
end Go.Proofs.Ytoekmdcldfmmcaa.Pure
end
section
namespace Go.Proofs.Ytoekmdcldfmmcaa.Pure
open Go.RowKit Go.Proofs.Ytoekmdcldfmmcaa.F Go.Proofs.YtoekmdcldfmmcaaW.PrintWords Go.Proofs.YtoekmdcldfmmcaaW.PrintLast
set_option linter.unusedVariables false
set_option linter.unusedSimpArgs false
theorem nums1_next (n : Nat) : nums1 (n + 1) = nums1 n ++ [((n + 1 : Nat) : Int)] := by
  unfold nums1
  rw [List.range_succ, List.map_append]
  rfl
end Go.Proofs.Ytoekmdcldfmmcaa.Pure
end
section
namespace Go.Proofs.Ytoekmdcldfmmcaa.Pure
open Go.RowKit Go.Proofs.Ytoekmdcldfmmcaa.F Go.Proofs.YtoekmdcldfmmcaaW.PrintWords Go.Proofs.YtoekmdcldfmmcaaW.PrintLast
set_option linter.unusedVariables false
set_option linter.unusedSimpArgs false
theorem nums1_len (n : Nat) : (nums1 n).length = n := by simp [nums1]
end Go.Proofs.Ytoekmdcldfmmcaa.Pure
end
section
namespace Go.Proofs.Ytoekmdcldfmmcaa.Pure
open Go.RowKit Go.Proofs.Ytoekmdcldfmmcaa.F Go.Proofs.YtoekmdcldfmmcaaW.PrintWords Go.Proofs.YtoekmdcldfmmcaaW.PrintLast
set_option linter.unusedVariables false
set_option linter.unusedSimpArgs false
/-- What a ring made of numbers is like behind some steps: n numbers were given. -/
def Inv (size a0 a1 : Int) (l : List S35) (g : List Int) (n : Nat) : Prop :=
  a0 = size ∧ Valid a0 a1 l ∧ a1 = ((n + 1 : Nat) : Int) ∧ g = nums1 n ∧ l.all (fun h => wfW h.f1) = true
end Go.Proofs.Ytoekmdcldfmmcaa.Pure
end
section
namespace Go.Proofs.Ytoekmdcldfmmcaa.Pure
open Go.RowKit Go.Proofs.Ytoekmdcldfmmcaa.F Go.Proofs.YtoekmdcldfmmcaaW.PrintWords Go.Proofs.YtoekmdcldfmmcaaW.PrintLast
set_option linter.unusedVariables false
set_option linter.unusedSimpArgs false
theorem wf_small {x : Int} (h0 : -1000000 ≤ x) (h1 : x ≤ 1000000) : wfW x = true := by
  unfold wfW
  simp [Lit.wf, IntKind.min, IntKind.max, IntKind.signed, IntKind.bits]
  omega
end Go.Proofs.Ytoekmdcldfmmcaa.Pure
end
section
namespace Go.Proofs.Ytoekmdcldfmmcaa.Pure
open Go.RowKit Go.Proofs.Ytoekmdcldfmmcaa.F Go.Proofs.YtoekmdcldfmmcaaW.PrintWords Go.Proofs.YtoekmdcldfmmcaaW.PrintLast
set_option linter.unusedVariables false
set_option linter.unusedSimpArgs false
theorem mod_some (a m : Int) (h1 : 1 ≤ m) (h2 : m ≤ 1099511627776) : ∃ r, K_Mod.f a m = some r ∧ 0 ≤ r ∧ r < m := by
  unfold K_Mod.f
  rw [if_neg (by omega), if_neg (by omega)]
  have hlt : a.tmod m < m := Int.tmod_lt_of_pos a (by omega)
  have hgt : -m < a.tmod m := by
    have := Int.tmod_lt_of_pos (-a) (show 0 < m by omega)
    rw [Int.neg_tmod] at this
    omega
  by_cases c : a.tmod m < 0
  · rw [if_pos c]
    refine ⟨_, rfl, ?_, ?_⟩ <;> · unfold wrap64; omega
  · rw [if_neg c]
    exact ⟨_, rfl, by omega, hlt⟩
end Go.Proofs.Ytoekmdcldfmmcaa.Pure
end
section
namespace Go.Proofs.Ytoekmdcldfmmcaa.Pure
open Go.RowKit Go.Proofs.Ytoekmdcldfmmcaa.F Go.Proofs.YtoekmdcldfmmcaaW.PrintWords Go.Proofs.YtoekmdcldfmmcaaW.PrintLast
set_option linter.unusedVariables false
set_option linter.unusedSimpArgs false
theorem tmod_small (a m : Int) (h : 0 < m) : -m < a.tmod m ∧ a.tmod m < m := by
  have h1 := Int.tmod_lt_of_pos a h
  have h2 := Int.tmod_lt_of_pos (-a) h
  rw [Int.neg_tmod] at h2
  exact ⟨by omega, h1⟩
end Go.Proofs.Ytoekmdcldfmmcaa.Pure
end
section
namespace Go.Proofs.Ytoekmdcldfmmcaa.Pure
open Go.RowKit Go.Proofs.Ytoekmdcldfmmcaa.F Go.Proofs.YtoekmdcldfmmcaaW.PrintWords Go.Proofs.YtoekmdcldfmmcaaW.PrintLast
set_option linter.unusedVariables false
set_option linter.unusedSimpArgs false
theorem Inv.sub {size a0 a1 : Int} {l l' : List S35} {g : List Int} {n : Nat} (h : Inv size a0 a1 l g n) (hs : l'.Sublist l) : Inv size a0 a1 l' g n := by
  obtain ⟨h1, ⟨v1, v2, v3, v4, v5, v6, v7⟩, h3, h4, h5⟩ := h
  have hl := hs.length_le
  refine ⟨h1, ⟨v1, v2, v3, v4, by omega, v6.sublist hs, fun x hx => v7 x (hs.subset hx)⟩, h3, h4, List.all_eq_true.mpr fun x hx => List.all_eq_true.mp h5 x (hs.subset hx)⟩
end Go.Proofs.Ytoekmdcldfmmcaa.Pure
end
section
namespace Go.Proofs.Ytoekmdcldfmmcaa.Pure
open Go.RowKit Go.Proofs.Ytoekmdcldfmmcaa.F Go.Proofs.YtoekmdcldfmmcaaW.PrintWords Go.Proofs.YtoekmdcldfmmcaaW.PrintLast
set_option linter.unusedVariables false
set_option linter.unusedSimpArgs false
theorem Inv.put {size a0 a1 : Int} {l : List S35} {g : List Int} {n : Nat} (h : Inv size a0 a1 l g n) (hn : n ≤ 100) (hc : ¬ (l.length : Int) = a0) {w : Int} (hw : wfW w = true) : Inv size a0 (a1 + 1) (l ++ [⟨a1, w⟩]) (g ++ [a1]) (n + 1) := by
  obtain ⟨h1, ⟨v1, v2, v3, v4, v5, v6, v7⟩, h3, h4, h5⟩ := h
  refine ⟨h1, ⟨v1, v2, by omega, by omega, by simp; omega, ?_, ?_⟩, by omega, by rw [nums1_next, ← h4, ← h3], ?_⟩
  · rw [List.pairwise_append]
    exact ⟨v6, List.pairwise_singleton _ _, fun x hx y hy => by rw [List.mem_singleton] at hy; subst hy; exact (v7 x hx).2⟩
  · intro x hx
    rcases List.mem_append.1 hx with hx | hx
    · have := v7 x hx; omega
    · rw [List.mem_singleton] at hx; subst hx; exact ⟨by show 0 < a1; omega, by show a1 < a1 + 1; omega⟩
  · rw [List.all_append, h5]
    simp [hw]
end Go.Proofs.Ytoekmdcldfmmcaa.Pure
end
section
namespace Go.Proofs.Ytoekmdcldfmmcaa.Pure
open Go.RowKit Go.Proofs.Ytoekmdcldfmmcaa.F Go.Proofs.YtoekmdcldfmmcaaW.PrintWords Go.Proofs.YtoekmdcldfmmcaaW.PrintLast
set_option linter.unusedVariables false
set_option linter.unusedSimpArgs false
theorem madel (nums : List Int) (size : Int) : ∀ (m k i n : Nat) (a0 a1 : Int) (l : List S35) (g : List Int), m = min 60 nums.length - i → i ≤ min 60 nums.length → 3 * m + 103 ≤ k → n ≤ i → Inv size a0 a1 l g n →
    ∃ b0 b1 l' g' n', L05_made.l0 k nums size g (i : Int) a0 a1 l = some (b0, b1, l', g', true) ∧ Inv size b0 b1 l' g' n' ∧ n' ≤ 60 := by
  intro m
  induction m with
  | zero =>
    intro k i n a0 a1 l g hm hi hk hn hI
    obtain ⟨k, rfl⟩ : ∃ k', k = k' + 2 := ⟨k - 2, by omega⟩
    have h2 : L05_made.j2 (k + 1) nums size g (i : Int) false a0 a1 l = some (a0, a1, l, g, true) := by
      simp only [L05_made.j2]
      rw [if_neg (by decide), chk k (by omega), ckS_valid hI.2.1]
      simp only [Option.bind_some]
      rw [if_pos trivial, hI.1, beq_self_eq_true]
    refine ⟨a0, a1, l, g, n, ?_, hI, by omega⟩
    simp only [L05_made.l0]
    by_cases c : (i : Int) < (nums.length : Int)
    · rw [if_pos c, decide_eq_false (by omega), h2]
    · rw [if_neg c, h2]
  | succ m ih =>
    intro k i n a0 a1 l g hm hi hk hn hI
    obtain ⟨k, rfl⟩ : ∃ k', k = k' + 3 := ⟨k - 3, by omega⟩
    have hlt : i < nums.length := by omega
    have hv := hI.2.1
    have hg : g.length ≤ 60 := by rw [hI.2.2.2.1, nums1_len]; omega
    have hck := ckS_valid hv
    have hck0 : (ckS a0 a1 l).1 = 0 := by rw [hck]
    simp only [L05_made.l0]
    rw [if_pos (by omega), decide_eq_true (by omega)]
    simp only [L05_made.j2]
    rw [if_pos trivial, if_pos (by omega), if_pos (by omega)]
    obtain ⟨t, ht, ht0, ht1⟩ := mod_some (rd nums (i : Int)) 1048576 (by omega) (by omega)
    rw [ht]
    simp only [Option.bind_some]
    -- the next round, at an unchanged ring
    obtain ⟨c0, c1, lc, gc, nc, hnext, hInext⟩ := ih k (i + 1) n a0 a1 l g (by omega) (by omega) (by omega) (by omega) hI
    have h5 : ∀ y0 y1 y2, L05_made.j3 (k + 1) nums size g (i : Int) 5 a0 a1 l y0 y1 y2 = some (c0, c1, lc, gc, true) := by
      intro y0 y1 y2
      simp only [L05_made.j3]
      rw [if_neg (by decide), if_pos trivial, w_next (by omega), hnext]
    have h6 : ∀ y0 y1 y2, L05_made.j3 (k + 1) nums size g (i : Int) 6 a0 a1 l y0 y1 y2 = some (c0, c1, lc, gc, true) := by
      intro y0 y1 y2
      simp only [L05_made.j3]
      rw [if_neg (by decide), if_neg (by decide), if_pos trivial, w_next (by omega), hnext]
    by_cases d1 : t.tmod 6 < 4
    · rw [if_pos d1, put_]
      simp only [Option.bind_some]
      generalize hwd : Int.tmod (wrap64 (Int.tdiv t 6)) 5 = w
      have hw : wfW w = true := by
        have := tmod_small (wrap64 (Int.tdiv t 6)) 5 (by omega)
        rw [hwd] at this
        exact wf_small (by omega) (by omega)
      by_cases e1 : (l.length : Int) = a0
      · have hp : putS a0 a1 l w = (0, 0, [], 0, 5) := by unfold putS; rw [if_pos hck0, if_pos e1]
        rw [hp]
        dsimp only
        rw [if_neg (by decide), h5]
        exact ⟨c0, c1, lc, gc, nc, rfl, hInext⟩
      · have ha1 := hI.2.2.1
        have hp : putS a0 a1 l w = (a0, a1 + 1, l ++ [⟨a1, w⟩], a1, 0) := by unfold putS; rw [if_pos hck0, if_neg e1, if_neg (by omega)]
        rw [hp]
        dsimp only
        rw [if_pos (show (0 : Int) = 0 from rfl), if_pos (by omega)]
        simp only [L05_made.j3]
        rw [if_pos trivial, w_next (by omega)]
        exact ih k (i + 1) (n + 1) a0 (a1 + 1) (l ++ [⟨a1, w⟩]) (g ++ [a1]) (by omega) (by omega) (by omega) (by omega) (hI.put (by omega) e1 hw)
    · rw [if_neg d1]
      by_cases d2 : t.tmod 6 = 4
      · rw [if_pos d2, drop_]
        simp only [Option.bind_some]
        generalize IntKind.u64.wrap (wrap64 (1 + (Int.tmod (wrap64 (Int.tdiv t 6)) 40))) = u
        by_cases e1 : l.findIdx (fun x => x.f0 == u) < l.length
        · have hf : (findS a0 a1 l u).2 = 0 := by unfold findS; rw [if_pos hck0, if_pos e1]
          unfold dropS
          rw [if_pos hf]
          dsimp only
          simp only [L05_made.j3]
          rw [if_pos trivial, w_next (by omega)]
          refine ih k (i + 1) n _ _ _ g (by omega) (by omega) (by omega) (by omega) (hI.sub ?_)
          generalize l.findIdx (fun x => x.f0 == u) = F
          rw [← List.eraseIdx_eq_take_drop_succ]
          exact List.eraseIdx_sublist _ _
        · have hf : (findS a0 a1 l u) = (0, 6) := by unfold findS; rw [if_pos hck0, if_neg e1]
          unfold dropS
          rw [hf, if_neg (by decide)]
          dsimp only
          rw [h6]
          exact ⟨c0, c1, lc, gc, nc, rfl, hInext⟩
      · rw [if_neg d2]
        have hw : wfW (Int.tmod (wrap64 (Int.tdiv t 6)) 9) = true := by
          have := tmod_small (wrap64 (Int.tdiv t 6)) 9 (by omega)
          exact wf_small (by omega) (by omega)
        rw [wipe_ _ _ _ _ (by simp) hI.2.2.2.2 (by simp [hw])]
        simp only [Option.bind_some]
        unfold wipeS
        rw [if_pos hck0]
        dsimp only
        simp only [L05_made.j3]
        rw [if_pos trivial, w_next (by omega)]
        exact ih k (i + 1) n _ _ _ g (by omega) (by omega) (by omega) (by omega) (hI.sub List.filter_sublist)
end Go.Proofs.Ytoekmdcldfmmcaa.Pure
end
section
namespace Go.Proofs.Ytoekmdcldfmmcaa.Pure
open Go.RowKit Go.Proofs.Ytoekmdcldfmmcaa.F Go.Proofs.YtoekmdcldfmmcaaW.PrintWords Go.Proofs.YtoekmdcldfmmcaaW.PrintLast
set_option linter.unusedVariables false
set_option linter.unusedSimpArgs false
theorem made (a0 : Int) (nums : List Int) (k : Nat) (hk : 400 ≤ k) : ∃ size b0 b1 l g n, L05_made.f k a0 nums = some (b0, b1, l, g, true) ∧ Inv size b0 b1 l g n ∧ n ≤ 60 := by
  obtain ⟨t, ht, ht0, ht1⟩ := mod_some a0 32 (by omega) (by omega)
  have hs : wrap64 (1 + t) = 1 + t := by unfold wrap64; omega
  have hnew : ring_New.f (1 + t) = some (1 + t, 1, [], 0) := by unfold ring_New.f; rw [if_neg (by omega), if_neg (by omega)]
  obtain ⟨k, rfl⟩ : ∃ k', k = k' + 1 := ⟨k - 1, by omega⟩
  obtain ⟨b0, b1, l, g, n, h1, h2, h3⟩ := madel nums (1 + t) (min 60 nums.length) k 0 0 (1 + t) 1 [] [] (by omega) (by omega) (by omega) (Nat.le_refl _) ⟨rfl, ⟨by omega, by omega, by omega, by omega, by simp; omega, List.Pairwise.nil, fun x hx => (List.not_mem_nil hx).elim⟩, rfl, rfl, rfl⟩
  refine ⟨1 + t, b0, b1, l, g, n, ?_, h2, h3⟩
  unfold L05_made.f
  rw [ht]
  simp only [Option.bind_some]
  rw [hs, hnew]
  simp only [Option.bind_some]
  rw [if_pos trivial, bne_self_eq_false]
  simp only [L05_made.j0]
  rw [if_neg (by decide)]
  exact h1
end Go.Proofs.Ytoekmdcldfmmcaa.Pure
end
