/- Plain laws of deleting calls from a row. -/
import Derived.Test.YtaijdhocmjnopaaT7
namespace Go.Sx.Ytaijdhocmjnopaa
open Go Go.Sx
set_option linter.unusedVariables false
set_option linter.unusedSimpArgs false

theorem idxOf_spec {p : Call → Bool} : ∀ {l : List Call} {n : Nat}, idxOf p l = n → n < l.length ∧ p (l.getD n zc) = true ∧ ∀ j, j < n → p (l.getD j zc) = false
  | [], n, h => by simp only [idxOf] at h; omega
  | c :: cs, n, h => by
    rw [idxOf] at h
    split at h
    · rename_i hp
      obtain rfl : n = 0 := by omega
      exact ⟨by simp, hp, fun j hj => by omega⟩
    · rename_i hp
      split at h
      · omega
      · obtain ⟨m, hm⟩ : ∃ m : Nat, idxOf p cs = m := ⟨(idxOf p cs).toNat, by omega⟩
        obtain ⟨h1, h2, h3⟩ := idxOf_spec hm
        obtain rfl : n = m + 1 := by omega
        refine ⟨by simpa using h1, by simpa using h2, fun j hj => ?_⟩
        cases j with
        | zero => simpa using hp
        | succ j => simpa using h3 j (by omega)
theorem idxOf_neg {p : Call → Bool} : ∀ {l : List Call}, idxOf p l = -1 → l.filter (fun x => !p x) = l
  | [], _ => rfl
  | c :: cs, h => by
    rw [idxOf] at h
    split at h
    · omega
    · rename_i hp
      have := idxOf_ge p cs
      split at h
      · rw [List.filter_cons_of_pos (by simpa using hp), idxOf_neg (by omega)]
      · omega
/-- The state of DeleteFunc's second loop. -/
structure DelI (p : Call → Bool) (l : List Call) (k : Nat) (R : List Call) (i j : Nat) : Prop where
  len : R.length = l.length + k
  tk : R.take i = (l.take j).filter fun x => !p x
  dr : R.drop j = l.drop j ++ List.replicate k zc
  ij : i < j
  jl : j ≤ l.length
theorem DelI.start {p : Call → Bool} {l : List Call} (k : Nat) {n : Nat} (h : idxOf p l = n) : DelI p l k (l ++ List.replicate k zc) n (n + 1) := by
  obtain ⟨h1, h2, h3⟩ := idxOf_spec h
  refine ⟨by simp, ?_, ?_, by omega, h1⟩
  · rw [take_succD h1, List.filter_append, List.take_append_of_le_length (by omega)]
    rw [List.filter_cons_of_neg (by simp only [h2]; decide), List.filter_nil, List.append_nil]
    rw [List.filter_eq_self.2]
    intro x hx
    obtain ⟨j, hj, rfl⟩ := List.mem_iff_getElem.1 hx
    rw [List.length_take] at hj
    have := h3 j (by omega)
    rw [List.getD_eq_getElem?_getD, List.getElem?_eq_getElem (by omega)] at this
    rw [List.getElem_take]
    simpa using this
  · rw [List.drop_append_of_le_length h1]
theorem DelI.at {p : Call → Bool} {l R : List Call} {k i j : Nat} (h : DelI p l k R i j) (hj : j < l.length) : R.getD j zc = l.getD j zc := by
  have h1 : (R.drop j)[0]? = (l.drop j ++ List.replicate k zc)[0]? := by rw [h.dr]
  rw [List.getElem?_append_left (by simp; omega), List.getElem?_drop, List.getElem?_drop, Nat.add_zero] at h1
  rw [List.getD_eq_getElem?_getD, h1, List.getD_eq_getElem?_getD]
theorem DelI.next {p : Call → Bool} {l R : List Call} {k i j : Nat} (h : DelI p l k R i j) (hj : j < l.length) : R.drop (j + 1) = l.drop (j + 1) ++ List.replicate k zc := by
  rw [← List.drop_drop, h.dr, List.drop_append_of_le_length (by simp; omega), List.drop_drop]
theorem DelI.del {p : Call → Bool} {l R : List Call} {k i j : Nat} (h : DelI p l k R i j) (hj : j < l.length) (hp : p (l.getD j zc) = true) : DelI p l k R i (j + 1) := by
  refine ⟨h.len, ?_, h.next hj, by have := h.ij; omega, hj⟩
  rw [h.tk, take_succD hj, List.filter_append, List.filter_cons_of_neg (by simp only [hp]; decide), List.filter_nil, List.append_nil]
theorem DelI.keep {p : Call → Bool} {l R : List Call} {k i j : Nat} (h : DelI p l k R i j) (hj : j < l.length) (hp : p (l.getD j zc) = false) : DelI p l k (R.set i (l.getD j zc)) (i + 1) (j + 1) := by
  have hl := h.len
  have hij := h.ij
  refine ⟨by rw [List.length_set]; exact hl, ?_, ?_, by omega, hj⟩
  · rw [take_succD hj, List.filter_append, List.filter_cons_of_pos (by simp only [hp]; decide), List.filter_nil, ← h.tk]
    rw [List.take_add_one, List.take_set_of_le (Nat.le_refl _), List.getElem?_set_self (by omega)]
    rfl
  · rw [List.drop_set_of_lt (by omega)]
    exact h.next hj
theorem DelI.fin {p : Call → Bool} {l R : List Call} {k i : Nat} (h : DelI p l k R i l.length) : i = (l.filter fun x => !p x).length ∧ R.take i ++ List.replicate (l.length - i) zc ++ R.drop (i + (l.length - i)) = (l.filter fun x => !p x) ++ List.replicate (l.length - i + k) zc := by
  have h1 := h.tk
  have h2 := h.dr
  have hl := h.len
  have hij := h.ij
  rw [List.take_of_length_le (Nat.le_refl _)] at h1
  rw [List.drop_of_length_le (Nat.le_refl _), List.nil_append] at h2
  refine ⟨?_, ?_⟩
  · rw [← h1, List.length_take]; omega
  · rw [show i + (l.length - i) = l.length by omega, h1, h2, List.append_assoc, List.replicate_append_replicate]
end Go.Sx.Ytaijdhocmjnopaa
