/- Part 4 of LockLooks: what the functions reckon, step by step, and plain laws. No condition. -/
import Derived.Test.YtdkabbjknclifaaKLockLooksx3
section
namespace Go.Proofs.Ytdkabbjknclifaa.Pure
open Go.RowKit Go.Proofs.Ytdkabbjknclifaa.F Go.Proofs.YtdkabbjknclifaaW.PrintWords Go.Proofs.YtdkabbjknclifaaW.PrintLast
set_option linter.unusedVariables false
set_option linter.unusedSimpArgs false
theorem ref_new (n : Int) {k : Nat} (hk : 100 ≤ k) : R17_New.f k n = some (new n) := by
  obtain ⟨k, rfl⟩ : ∃ j, k = j + 1 := ⟨k - 1, by omega⟩
  unfold R17_New.f new
  by_cases h1 : n < 2
  · rw [if_pos h1, if_pos h1]; simp [R17_New.j0]
  · rw [if_neg h1, if_neg h1]
    simp only [R17_New.j0]
    by_cases h2 : n > 64
    · rw [if_pos (decide_eq_true h2), if_pos h2]
    · rw [if_neg (by simpa using h2), if_neg h2, if_pos (by omega), if_pos (by omega)]
      obtain ⟨m, rfl⟩ : ∃ m : Nat, n = m := ⟨n.toNat, by omega⟩
      have := new_l0 (n := m) (by omega) true m k 0 (by omega) (by omega)
      simpa using this
end Go.Proofs.Ytdkabbjknclifaa.Pure
end
section
namespace Go.Proofs.Ytdkabbjknclifaa.Pure
open Go.RowKit Go.Proofs.Ytdkabbjknclifaa.F Go.Proofs.YtdkabbjknclifaaW.PrintWords Go.Proofs.YtdkabbjknclifaaW.PrintLast
set_option linter.unusedVariables false
set_option linter.unusedSimpArgs false
def unl (b : Bool) (l : List Bool) (n : Int) : Bool × List Bool × Int :=
  if chk b l = 0 then (if n < 0 then (false, [], 2) else if (l.length : Int) ≤ n then (false, [], 2) else if (miss b l).length = 0 then (false, l.set n.toNat false, 0) else (false, [], 9)) else (false, [], chk b l)
end Go.Proofs.Ytdkabbjknclifaa.Pure
end
section
namespace Go.Proofs.Ytdkabbjknclifaa.Pure
open Go.RowKit Go.Proofs.Ytdkabbjknclifaa.F Go.Proofs.YtdkabbjknclifaaW.PrintWords Go.Proofs.YtdkabbjknclifaaW.PrintLast
set_option linter.unusedVariables false
set_option linter.unusedSimpArgs false
theorem lock_unlock {l : List Bool} (hl : l.length ≤ 1000) (b : Bool) (n : Int) : lock_Unlock.f b l n = some (unl b l n) := by
  unfold lock_Unlock.f unl
  obtain ⟨F, hF⟩ : ∃ F, F = 4096 := ⟨_, rfl⟩
  rw [← hF, lock_check hl b (by omega)]
  simp only [Option.bind_some]
  by_cases h : chk b l = 0
  · rw [if_pos h, if_pos h]
    by_cases h1 : n < 0
    · rw [if_pos h1, if_pos h1]
    · rw [if_neg h1, if_neg h1]
      by_cases h2 : (l.length : Int) ≤ n
      · rw [if_pos h2, if_pos h2]
      · rw [if_neg h2, if_neg h2, if_pos (chk_zero h).2.1, miss_of]
        split <;> rfl
  · rw [if_neg h, if_neg h]
end Go.Proofs.Ytdkabbjknclifaa.Pure
end
section
namespace Go.Proofs.Ytdkabbjknclifaa.Pure
open Go.RowKit Go.Proofs.Ytdkabbjknclifaa.F Go.Proofs.YtdkabbjknclifaaW.PrintWords Go.Proofs.YtdkabbjknclifaaW.PrintLast
set_option linter.unusedVariables false
set_option linter.unusedSimpArgs false
theorem own_f {l : List Bool} (hl : l.length ≤ 1000) (b : Bool) : R17_own.f b l = some (b, l) := by
  unfold R17_own.f
  simp only [Option.bind_some]
  rw [if_pos (by simp; omega)]
  rfl
end Go.Proofs.Ytdkabbjknclifaa.Pure
end
section
namespace Go.Proofs.Ytdkabbjknclifaa.Pure
open Go.RowKit Go.Proofs.Ytdkabbjknclifaa.F Go.Proofs.YtdkabbjknclifaaW.PrintWords Go.Proofs.YtdkabbjknclifaaW.PrintLast
set_option linter.unusedVariables false
set_option linter.unusedSimpArgs false
theorem ref_unlock {l : List Bool} (hl : l.length ≤ 1000) (b : Bool) (n : Int) {k : Nat} (hk : l.length + 3 ≤ k) : R17_Unlock.f k b l n = some (unl b l n) := by
  obtain ⟨k, rfl⟩ : ∃ j, k = j + 1 := ⟨k - 1, by omega⟩
  unfold R17_Unlock.f unl
  rw [ref_may hl b hk]
  simp only [Option.bind_some]
  by_cases h : chk b l = 0
  · simp only [h, if_true]
    by_cases h1 : n < 0
    · rw [if_pos h1, if_pos h1]; simp [R17_Unlock.j0]
    · rw [if_neg h1, if_neg h1]
      simp only [R17_Unlock.j0]
      by_cases h2 : (l.length : Int) ≤ n
      · rw [if_pos h2, if_pos (decide_eq_true h2)]
      · rw [if_neg h2, if_neg (by simpa using h2)]
        by_cases h3 : (miss b l).length = 0
        · rw [if_pos h3, if_pos (by simpa using h3), own_f hl b]
          simp only [Option.bind_some]
          rw [if_pos (by omega), if_pos (by omega)]
        · rw [if_neg h3, if_neg (by simpa using h3)]
  · simp only [h, if_false]
end Go.Proofs.Ytdkabbjknclifaa.Pure
end
section
namespace Go.Proofs.Ytdkabbjknclifaa.Pure
open Go.RowKit Go.Proofs.Ytdkabbjknclifaa.F Go.Proofs.YtdkabbjknclifaaW.PrintWords Go.Proofs.YtdkabbjknclifaaW.PrintLast
set_option linter.unusedVariables false
set_option linter.unusedSimpArgs false
theorem bools_l0 {l : List Bool} (hl : l.length ≤ 1000) : ∀ (d k i : Nat), i + d = l.length → d + 1 ≤ k → K_SameBools.l0 k l l (i : Int) = some true
  | 0, k, i, hi, hk => by
    obtain ⟨k, rfl⟩ : ∃ j, k = j + 1 := ⟨k - 1, by omega⟩
    simp only [K_SameBools.l0]
    rw [if_neg (by omega)]
  | d + 1, k, i, hi, hk => by
    obtain ⟨k, rfl⟩ : ∃ j, k = j + 1 := ⟨k - 1, by omega⟩
    simp only [K_SameBools.l0]
    rw [if_pos (by omega), if_pos (by omega), if_pos (by omega), if_neg (by simp), w64n (by omega)]
    exact bools_l0 hl d k (i + 1) (by omega) (by omega)
end Go.Proofs.Ytdkabbjknclifaa.Pure
end
section
namespace Go.Proofs.Ytdkabbjknclifaa.Pure
open Go.RowKit Go.Proofs.Ytdkabbjknclifaa.F Go.Proofs.YtdkabbjknclifaaW.PrintWords Go.Proofs.YtdkabbjknclifaaW.PrintLast
set_option linter.unusedVariables false
set_option linter.unusedSimpArgs false
theorem same_chain {l : List Bool} (hl : l.length ≤ 1000) (b : Bool) {k : Nat} (hk : l.length + 1 ≤ k) : K_SameChain.f k b l b l = some true := by
  unfold K_SameChain.f K_SameBools.f
  have := bools_l0 hl l.length k 0 (by omega) hk

  rw [if_pos (by simp), if_pos rfl, show ((0 : Int)) = ((0 : Nat) : Int) from rfl, this]
  rfl
end Go.Proofs.Ytdkabbjknclifaa.Pure
end
section
namespace Go.Proofs.Ytdkabbjknclifaa.Pure
open Go.RowKit Go.Proofs.Ytdkabbjknclifaa.F Go.Proofs.YtdkabbjknclifaaW.PrintWords Go.Proofs.YtdkabbjknclifaaW.PrintLast
set_option linter.unusedVariables false
set_option linter.unusedSimpArgs false
theorem ints_l0 {l : List Int} (hl : l.length ≤ 1000) : ∀ (d k i : Nat), i + d = l.length → d + 1 ≤ k → K_SameInts.l0 k l l (i : Int) = some true
  | 0, k, i, hi, hk => by
    obtain ⟨k, rfl⟩ : ∃ j, k = j + 1 := ⟨k - 1, by omega⟩
    simp only [K_SameInts.l0]
    rw [if_neg (by omega)]
  | d + 1, k, i, hi, hk => by
    obtain ⟨k, rfl⟩ : ∃ j, k = j + 1 := ⟨k - 1, by omega⟩
    simp only [K_SameInts.l0]
    rw [if_pos (by omega), if_pos (by omega), if_pos (by omega), if_pos trivial, w64n (by omega)]
    exact ints_l0 hl d k (i + 1) (by omega) (by omega)
end Go.Proofs.Ytdkabbjknclifaa.Pure
end
section
namespace Go.Proofs.Ytdkabbjknclifaa.Pure
open Go.RowKit Go.Proofs.Ytdkabbjknclifaa.F Go.Proofs.YtdkabbjknclifaaW.PrintWords Go.Proofs.YtdkabbjknclifaaW.PrintLast
set_option linter.unusedVariables false
set_option linter.unusedSimpArgs false
theorem same_ints {l : List Int} (hl : l.length ≤ 1000) {k : Nat} (hk : l.length + 1 ≤ k) : K_SameInts.f k l l = some true := by
  unfold K_SameInts.f
  have := ints_l0 hl l.length k 0 (by omega) hk
  rw [if_pos rfl, show ((0 : Int)) = ((0 : Nat) : Int) from rfl, this]
end Go.Proofs.Ytdkabbjknclifaa.Pure
end
section
namespace Go.Proofs.Ytdkabbjknclifaa.Pure
open Go.RowKit Go.Proofs.Ytdkabbjknclifaa.F Go.Proofs.YtdkabbjknclifaaW.PrintWords Go.Proofs.YtdkabbjknclifaaW.PrintLast
set_option linter.unusedVariables false
theorem awake_true : L17_awake.f = some true := by kernel_rfl
end Go.Proofs.Ytdkabbjknclifaa.Pure
end
section
namespace Go.Proofs.Ytdkabbjknclifaa.Pure
open Go.RowKit Go.Proofs.Ytdkabbjknclifaa.F Go.Proofs.YtdkabbjknclifaaW.PrintWords Go.Proofs.YtdkabbjknclifaaW.PrintLast
set_option linter.unusedVariables false
theorem new_le (n : Int) : (new n).2.1.length ≤ 64 := by
  unfold new
  split
  · simp
  · split
    · simp
    · simp; omega
end Go.Proofs.Ytdkabbjknclifaa.Pure
end
section
namespace Go.Proofs.Ytdkabbjknclifaa.Pure
open Go.RowKit Go.Proofs.Ytdkabbjknclifaa.F Go.Proofs.YtdkabbjknclifaaW.PrintWords Go.Proofs.YtdkabbjknclifaaW.PrintLast
set_option linter.unusedVariables false
theorem unl_le {b : Bool} {l : List Bool} (hl : l.length ≤ 1000) (n : Int) : (unl b l n).2.1.length ≤ 1000 := by
  unfold unl
  repeat' split
  all_goals simp
  all_goals omega
end Go.Proofs.Ytdkabbjknclifaa.Pure
end
section
namespace Go.Proofs.Ytdkabbjknclifaa.Pure
open Go.RowKit Go.Proofs.Ytdkabbjknclifaa.F Go.Proofs.YtdkabbjknclifaaW.PrintWords Go.Proofs.YtdkabbjknclifaaW.PrintLast
set_option linter.unusedVariables false
/-- What Of tells. -/
def ofc (n x p : Int) : Bool × List Bool × Int :=
  if (new n).2.2 = 0 then (if x < 0 ∨ x ≥ n ∨ p < 0 ∨ p > 20 then (false, [], 2) else if p = 0 then ((new n).1, (new n).2.1, 0) else unl (new n).1 (new n).2.1 x) else (false, [], (new n).2.2)
end Go.Proofs.Ytdkabbjknclifaa.Pure
end
section
namespace Go.Proofs.Ytdkabbjknclifaa.Pure
open Go.RowKit Go.Proofs.Ytdkabbjknclifaa.F Go.Proofs.YtdkabbjknclifaaW.PrintWords Go.Proofs.YtdkabbjknclifaaW.PrintLast
set_option linter.unusedVariables false
theorem ofc_bad (n x p : Int) (h : x < 0 ∨ x ≥ n ∨ p < 0 ∨ p > 20) (h0 : (new n).2.2 = 0) : ofc n x p = (false, [], 2) := by
  unfold ofc; rw [if_pos h0, if_pos h]
end Go.Proofs.Ytdkabbjknclifaa.Pure
end
section
namespace Go.Proofs.Ytdkabbjknclifaa.Pure
open Go.RowKit Go.Proofs.Ytdkabbjknclifaa.F Go.Proofs.YtdkabbjknclifaaW.PrintWords Go.Proofs.YtdkabbjknclifaaW.PrintLast
set_option linter.unusedVariables false
theorem ofc_good (n x p : Int) (h : ¬ (x < 0 ∨ x ≥ n ∨ p < 0 ∨ p > 20)) (h0 : (new n).2.2 = 0) : ofc n x p = if p = 0 then ((new n).1, (new n).2.1, 0) else unl (new n).1 (new n).2.1 x := by
  unfold ofc; rw [if_pos h0, if_neg h]
end Go.Proofs.Ytdkabbjknclifaa.Pure
end
section
namespace Go.Proofs.Ytdkabbjknclifaa.Pure
open Go.RowKit Go.Proofs.Ytdkabbjknclifaa.F Go.Proofs.YtdkabbjknclifaaW.PrintWords Go.Proofs.YtdkabbjknclifaaW.PrintLast
set_option linter.unusedVariables false
theorem new_two {n : Int} (h : ¬ (new n).2.2 = 0) : (new n).2.2 = 2 := by
  unfold new at h ⊢
  split
  · rfl
  · split
    · rfl
    · rename_i h1 h2
      rw [if_neg h1, if_neg h2] at h
      exact absurd rfl h
end Go.Proofs.Ytdkabbjknclifaa.Pure
end
section
namespace Go.Proofs.Ytdkabbjknclifaa.Pure
open Go.RowKit Go.Proofs.Ytdkabbjknclifaa.F Go.Proofs.YtdkabbjknclifaaW.PrintWords Go.Proofs.YtdkabbjknclifaaW.PrintLast
set_option linter.unusedVariables false
theorem lock_of (n x p : Int) {k : Nat} (hk : 10 ≤ k) : lock_Of.f k n x p = some (ofc n x p) := by
  obtain ⟨k, rfl⟩ : ∃ j, k = j + 2 := ⟨k - 2, by omega⟩
  have hnl := new_le n
  unfold lock_Of.f
  rw [lock_new]
  simp only [Option.bind_some]
  have bad : ∀ e, lock_Of.j0 (k + 2) x p e true (new n).1 (new n).2.1 = some (false, [], 2) := by
    intro e
    simp only [lock_Of.j0, lock_Of.j1, if_true]
    rw [if_neg (by decide)]
  by_cases h0 : (new n).2.2 = 0
  · rw [if_pos h0]
    by_cases h1 : x < 0
    · rw [if_pos h1, bad, ofc_bad n x p (.inl h1) h0]
    · rw [if_neg h1]
      by_cases h2 : x ≥ n
      · rw [if_pos h2, bad, ofc_bad n x p (.inr (.inl h2)) h0]
      · rw [if_neg h2]
        by_cases h3 : p < 0
        · rw [if_pos h3, bad, ofc_bad n x p (.inr (.inr (.inl h3))) h0]
        · rw [if_neg h3]
          by_cases h4 : p > 20
          · rw [decide_eq_true h4, bad, ofc_bad n x p (.inr (.inr (.inr h4))) h0]
          · rw [decide_eq_false h4, ofc_good n x p (by omega) h0]
            simp only [lock_Of.j0, lock_Of.j1]
            rw [if_neg (by decide), if_pos h0]
            by_cases h5 : p = 0
            · rw [if_pos h5, if_pos h5]
            · rw [if_neg h5, if_neg h5, lock_unlock (by omega)]
              rfl
  · rw [if_neg h0]
    unfold ofc
    rw [if_neg h0]
    simp only [lock_Of.j0, lock_Of.j1]
    rw [if_neg (by decide), if_neg h0]
end Go.Proofs.Ytdkabbjknclifaa.Pure
end
section
namespace Go.Proofs.Ytdkabbjknclifaa.Pure
open Go.RowKit Go.Proofs.Ytdkabbjknclifaa.F Go.Proofs.YtdkabbjknclifaaW.PrintWords Go.Proofs.YtdkabbjknclifaaW.PrintLast
set_option linter.unusedVariables false
theorem ref_of (n x p : Int) {k : Nat} (hk : 200 ≤ k) : R17_Of.f k n x p = some (ofc n x p) := by
  obtain ⟨k, rfl⟩ : ∃ j, k = j + 1 := ⟨k - 1, by omega⟩
  have hnl := new_le n
  unfold R17_Of.f
  rw [ref_new n (by omega)]
  simp only [Option.bind_some]
  have bad : R17_Of.j0 (k + 1) x p true (new n).1 (new n).2.1 = some (false, [], 2) := by
    simp only [R17_Of.j0, if_true]
  by_cases h0 : (new n).2.2 = 0
  · rw [if_pos h0]
    by_cases h1 : x < 0
    · rw [if_pos h1, bad, ofc_bad n x p (.inl h1) h0]
    · rw [if_neg h1]
      by_cases h2 : x ≥ n
      · rw [if_pos h2, bad, ofc_bad n x p (.inr (.inl h2)) h0]
      · rw [if_neg h2]
        by_cases h3 : p < 0
        · rw [if_pos h3, bad, ofc_bad n x p (.inr (.inr (.inl h3))) h0]
        · rw [if_neg h3]
          by_cases h4 : p > 20
          · rw [decide_eq_true h4, bad, ofc_bad n x p (.inr (.inr (.inr h4))) h0]
          · rw [decide_eq_false h4, ofc_good n x p (by omega) h0]
            simp only [R17_Of.j0]
            rw [if_neg (by decide)]
            by_cases h5 : p = 0
            · rw [if_pos h5, if_pos h5]
            · rw [if_neg h5, if_neg h5, ref_unlock (by omega) _ _ (by omega)]
              rfl
  · rw [if_neg h0, bad]
    unfold ofc
    rw [if_neg h0, new_two h0]
end Go.Proofs.Ytdkabbjknclifaa.Pure
end
section
namespace Go.Proofs.Ytdkabbjknclifaa.Pure
open Go.RowKit Go.Proofs.Ytdkabbjknclifaa.F Go.Proofs.YtdkabbjknclifaaW.PrintWords Go.Proofs.YtdkabbjknclifaaW.PrintLast
set_option linter.unusedVariables false
theorem ofc_le (n x p : Int) : (ofc n x p).2.1.length ≤ 1000 := by
  have h := new_le n
  have h1 := unl_le (b := (new n).1) (l := (new n).2.1) (by omega) x
  unfold ofc
  repeat' split
  all_goals first | (simp; done) | (simp; omega) | exact h1
end Go.Proofs.Ytdkabbjknclifaa.Pure
end
section
namespace Go.Proofs.Ytdkabbjknclifaa.Pure
open Go.RowKit Go.Proofs.Ytdkabbjknclifaa.F Go.Proofs.YtdkabbjknclifaaW.PrintWords Go.Proofs.YtdkabbjknclifaaW.PrintLast
set_option linter.unusedVariables false
theorem miss_le {b : Bool} {l : List Bool} (hl : l.length ≤ 900) : (if chk b l = 0 then (miss b l, 0) else (([] : List Int), chk b l)).1.length ≤ 1000 := by
  have := openFrom_le l 0
  split
  · simp only [miss]; split <;> simp <;> omega
  · simp
end Go.Proofs.Ytdkabbjknclifaa.Pure
end
section
namespace Go.Proofs.Ytdkabbjknclifaa.Pure
open Go.RowKit Go.Proofs.Ytdkabbjknclifaa.F Go.Proofs.YtdkabbjknclifaaW.PrintWords Go.Proofs.YtdkabbjknclifaaW.PrintLast
set_option linter.unusedVariables false
theorem LockLooks : lockLooks.Law := by
  rintro ⟨b, l⟩ n x p - hn hx hp
  obtain ⟨k, hk⟩ : ∃ k, 2000 ≤ k := ⟨2000, Nat.le_refl _⟩
  refine ⟨k, ?_⟩
  unfold L17_LockLooks.f
  by_cases hl : (l.length : Int) > 70
  · rw [if_pos hl, awake_true]; rfl
  · rw [if_neg hl]
    have hl' : l.length ≤ 1000 := by omega
    rw [lock_may hl' b, ref_may hl' b (by omega), lock_missing hl' b, ref_missing hl' b (by omega)]
    simp only [Option.bind_some]
    have hm := miss_le (b := b) (l := l) (by omega)
    rw [if_neg (by simp), if_pos trivial, same_ints hm (by omega)]
    simp only [Option.bind_some, if_true, bne_self_eq_false]
    obtain ⟨k, rfl⟩ : ∃ j, k = j + 1 := ⟨k - 1, by omega⟩
    simp only [L17_LockLooks.j0]
    rw [if_neg (by decide), lock_open hl' b (by omega), ref_Open hl' b (by omega), lock_text hl' b, ref_text hl' b (by omega)]
    simp only [Option.bind_some, if_true, bne_self_eq_false]
    obtain ⟨k, rfl⟩ : ∃ j, k = j + 1 := ⟨k - 1, by omega⟩
    simp only [L17_LockLooks.j1]
    rw [if_neg (by decide), lock_of n x p (by omega), ref_of n x p (by omega)]
    simp only [Option.bind_some]
    have h1 := ofc_le n x p
    rw [same_chain h1 _ (by omega)]
    simp only [Option.bind_some, if_true]
    rw [awake_true]
    rfl
end Go.Proofs.Ytdkabbjknclifaa.Pure
end
section
/- The statement LockLooks holds: the law's function answers true at every input, and the input reads as it did. No condition. (Written by fork.py; its parameters are structs.) -/
namespace Go.Proofs.Ytdkabbjknclifaa.lockLooks
open Go.ChangeShapes Go.WideShapes Go.ChangeAt Go.RowKit Go.Proofs.YtdkabbjknclifaaW.PrintWords
open Go.ChangeMaps (open_string shut_string)
set_option linter.unusedVariables false
theorem own : ownKnob Try.prog.godebug = none := by kernel_rfl
theorem laidOut : laidOutB Try.prog = true := by kernel_rfl
theorem opens25 : F.Opens Try.prog 25 F.k25 Wf25 := by
  have h := F.opens_struct (fun x : F.S25 => (x.f0, x.f1)) (fun y => ⟨y.1, y.2⟩) (fun _ => rfl) Try.underlying25 (by kernel_rfl)
    (F.opensFs_cons rfl (F.opens_bool Try.underlying4 (by kernel_rfl)) (F.opensFs_one rfl (F.opens_slice Try.underlying23 (by kernel_rfl) (F.opens_bool Try.underlying4 (by kernel_rfl)))))
  exact h
set_option maxRecDepth 100000 in
theorem lifted (os : Os) (started : os.Started) (H : Type) (enc : TypeId × Value → H) :
    ReturnsInHanded {} Try.checked os 4 .any (Rows.lockLooksSpec.pre6 enc Try.prog Try.f4 Rows.lockLooksRow.domain false) (Rows.lockLooksSpec.post enc Try.prog Try.f4 false true false false) := by
  refine returnsInHanded_of_change_sized (C := Try.checked) own started (by kernel_rfl) Try.func4
    (ChangeSpec.witness6 (enc := enc) (C := Try.checked) false ⟨#[], #[.agg #[.bool false, .slice none 0 0], .int .i64 0, .int .i64 0, .int .i64 0], []⟩ 8 (by kernel_rfl) (by kernel_rfl) (by kernel_rfl) (by kernel_rfl)) ?_
  intro W base args ds gs before hval0 hW hcnd hsz0 _
  have hval : ∀ (j : Nat) t v, Try.f4.params[j]? = some t → args[j]? = some v → Value.okWide Try.prog W .any base t v := hval0
  have hW' := hW
  obtain ⟨p, q, hA0, hV, rfl, hfz, hnd⟩ := hW
  have hA : DataW.TrodAll enc Try.prog W 0 (fun _ => true) true Try.f4.params.toList args.toList ds p := hA0
  rw [Try.params4] at hA hval
  obtain ⟨v0, vs0, d0, ds0, p0, q0, hargs, rfl, rfl, h0, r0⟩ := trodAll_cons hA
  obtain ⟨v1, vs1, d1, ds1, p1, q1, rfl, rfl, rfl, h1, r1⟩ := trodAll_cons r0
  obtain ⟨v2, vs2, d2, ds2, p2, q2, rfl, rfl, rfl, h2, r2⟩ := trodAll_cons r1
  obtain ⟨v3, vs3, d3, ds3, p3, q3, rfl, rfl, rfl, h3, r3⟩ := trodAll_cons r2
  obtain ⟨rfl, rfl, rfl⟩ := trodAll_nil r3
  obtain rfl : args = #[v0, v1, v2, v3] := by cases args; simp_all
  obtain ⟨rfl, rfl⟩ := trodVars_none hV
  have lt0 : ∀ x ∈ p0, x.block < W.heap.size := by obtain ⟨m, hm⟩ := h0; exact DataW.trod_lt m _ _ _ hm
  have lt1 : ∀ x ∈ p1, x.block < W.heap.size := by obtain ⟨m, hm⟩ := h1; exact DataW.trod_lt m _ _ _ hm
  have lt2 : ∀ x ∈ p2, x.block < W.heap.size := by obtain ⟨m, hm⟩ := h2; exact DataW.trod_lt m _ _ _ hm
  have lt3 : ∀ x ∈ p3, x.block < W.heap.size := by obtain ⟨m, hm⟩ := h3; exact DataW.trod_lt m _ _ _ hm
  obtain ⟨cs0, rfl, _⟩ := okWide_struct Try.underlying25 (hval 0 25 v0 rfl rfl)
  obtain ⟨y0, K0, f0⟩ := opens25.arg h0
  obtain ⟨A0_1, c0_1, e0, l0_1, g0_1⟩ := F.k25_open K0
  obtain rfl : cs0 = #[.bool y0.f0, .slice A0_1 y0.f1.length c0_1] := Array.toList_inj.1 e0
  obtain ⟨y1, rfl, rfl, rfl, f1⟩ := open_int Try.underlying3 (hval 1 3 v1 rfl rfl) h1
  obtain ⟨y2, rfl, rfl, rfl, f2⟩ := open_int Try.underlying3 (hval 2 3 v2 rfl rfl) h2
  obtain ⟨y3, rfl, rfl, rfl, f3⟩ := open_int Try.underlying3 (hval 3 3 v3 rfl rfl) h3
  clear hA0 hval0 hsz0
  obtain ⟨k, hk⟩ := Pure.LockLooks y0 y1 y2 y3 f0 f1 f2 f3
  refine (F.L17_LockLooks.calls k y0.f0 _ _ y0.f1 y1 y2 y3 true W g0_1 l0_1 hk).mono fun e W' ⟨he, bel⟩ => ?_
  subst he
  exact ⟨_, rfl, _, _, _, [], _, [], hW', trodAll_mk1 (shut_bool Try.underlying4 _), (trodAll_cons_mk (Below.trod laidOut (by kernel_rfl) (of_decide_eq_true (by kernel_rfl)) h0 bel lt0) (trodAll_cons_mk (shut_int Try.underlying3 f1) (trodAll_cons_mk (shut_int Try.underlying3 f2) (trodAll_cons_mk (shut_int Try.underlying3 f3) trodAll_mk0)))), rfl, bel.frame _, fun h => by cases h⟩
theorem over : Rows.lockLooksRow.holds Try.pinned (OpenSpec.ofChange Rows.lockLooksSpec) :=
  OpenClaim.holds_of_wide 4 Try.f4 rfl rfl rfl rfl rfl rfl rfl ⟨rfl, rfl, rfl, rfl, rfl⟩ rfl rfl rfl rfl rfl (by kernel_rfl) Try.func4 (by show joinedFacts Try.prog 4 Try.f4 Rows.lockLooksSpec Rows.lockLooksRow = true; unfold joinedFacts; rw [may_enter, lifts_not, make_cut]; kernel_rfl)
    (of_decide_eq_true (by kernel_rfl)) (by unfold Func.isWrapper; first | (rw [if_pos (by decide +kernel)]; kernel_rfl) | (rw [if_neg (by decide +kernel)]; exact ⟨rfl, rfl⟩))
    (fun os started H enc _ => lifted os started H enc)
theorem proved : Rows.LockLooksSaid := over
#print axioms proved
end Go.Proofs.Ytdkabbjknclifaa.lockLooks
namespace Go.Proofs.Ytdkabbjknclifaa
/-- The row, under a short name, for the claim. -/
theorem lockLooks_holds : Rows.LockLooksSaid := lockLooks.proved
end Go.Proofs.Ytdkabbjknclifaa
end
