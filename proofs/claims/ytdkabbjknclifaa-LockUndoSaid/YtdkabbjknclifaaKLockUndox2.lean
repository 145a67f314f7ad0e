/- Part 2 of LockUndo: what the functions reckon, step by step, and plain laws. No condition. -/
import Derived.Test.YtdkabbjknclifaaKLockUndox1
section
namespace Go.Proofs.Ytdkabbjknclifaa.Pure
open Go.RowKit Go.Proofs.Ytdkabbjknclifaa.F Go.Proofs.YtdkabbjknclifaaW.PrintWords Go.Proofs.YtdkabbjknclifaaW.PrintLast
set_option linter.unusedVariables false
set_option linter.unusedSimpArgs false
theorem check_l0 {l : List Bool} (hl : l.length ≤ 1000) (b : Bool) (l' : List Bool) : ∀ (d k i n : Nat), i + d = l.length → n ≤ i → d + 1 ≤ k →
    lock_Check.l0 k (n : Int) l (l.length : Int) (i : Int) b l' = some (fin b ((n : Int) + (openFrom i (l.drop i)).length))
  | 0, k, i, n, hi, hn, hk => by
    obtain ⟨k, rfl⟩ : ∃ j, k = j + 1 := ⟨k - 1, by omega⟩
    obtain rfl : i = l.length := by omega
    simp only [lock_Check.l0]
    rw [if_neg (by omega), List.drop_length]
    have e : (n : Int) + ((openFrom l.length ([] : List Bool)).length : Int) = n := by simp [openFrom]
    rw [e]
    unfold fin
    by_cases h1 : (n : Int) > 1
    · rw [if_pos h1, if_pos h1]
    · rw [if_neg h1, if_neg h1]
      by_cases h2 : (n : Int) = 1
      · rw [if_pos h2, if_pos h2]; split <;> rfl
      · rw [if_neg h2, if_neg h2]
  | d + 1, k, i, n, hi, hn, hk => by
    obtain ⟨k, rfl⟩ : ∃ j, k = j + 1 := ⟨k - 1, by omega⟩
    simp only [lock_Check.l0]
    rw [if_pos (by omega), if_pos (by omega), if_pos (by omega), rd_drop (d := false) (show i < l.length by omega), w64n (by omega)]
    by_cases h : rdOf false l (i : Int) = true
    · rw [if_pos h, check_l0 hl b l' d k (i + 1) n (by omega) (by omega) (by omega)]
      simp only [openFrom, if_pos h]
    · rw [if_neg h, w64n (by omega), check_l0 hl b l' d k (i + 1) (n + 1) (by omega) (by omega) (by omega)]
      simp only [openFrom, if_neg h, List.length_cons]
      congr 2
      omega
end Go.Proofs.Ytdkabbjknclifaa.Pure
end
section
namespace Go.Proofs.Ytdkabbjknclifaa.Pure
open Go.RowKit Go.Proofs.Ytdkabbjknclifaa.F Go.Proofs.YtdkabbjknclifaaW.PrintWords Go.Proofs.YtdkabbjknclifaaW.PrintLast
set_option linter.unusedVariables false
set_option linter.unusedSimpArgs false
theorem lock_check {l : List Bool} (hl : l.length ≤ 1000) (b : Bool) {k : Nat} (hk : l.length + 3 ≤ k) : lock_Check.f k b l = some (chk b l) := by
  obtain ⟨k, rfl⟩ : ∃ j, k = j + 1 := ⟨k - 1, by omega⟩
  unfold lock_Check.f chk
  by_cases h1 : l.length < 2
  · rw [if_pos (by omega), if_pos h1]; simp [lock_Check.j0]
  · rw [if_neg (by omega), if_neg h1]
    by_cases h2 : 64 < l.length
    · rw [if_pos h2]; simp only [lock_Check.j0]; rw [if_pos (decide_eq_true (by omega))]
    · rw [if_neg h2]
      simp only [lock_Check.j0]
      rw [if_neg (by simp; omega)]
      have := check_l0 hl b l l.length k 0 0 (by omega) (by omega) (by omega)
      simpa using this
end Go.Proofs.Ytdkabbjknclifaa.Pure
end
section
namespace Go.Proofs.Ytdkabbjknclifaa.Pure
open Go.RowKit Go.Proofs.Ytdkabbjknclifaa.F Go.Proofs.YtdkabbjknclifaaW.PrintWords Go.Proofs.YtdkabbjknclifaaW.PrintLast
set_option linter.unusedVariables false
set_option linter.unusedSimpArgs false
theorem chk_zero {b : Bool} {l : List Bool} (h : chk b l = 0) : 2 ≤ l.length ∧ l.length ≤ 64 ∧ (openFrom 0 l).length ≤ 1 ∧ ((openFrom 0 l).length = 1 → b = false) := by
  unfold chk at h
  split at h
  · cases h
  · split at h
    · cases h
    · unfold fin at h
      split at h
      · cases h
      · split at h
        · split at h
          · cases h
          · rename_i _ _ _ _ hb
            exact ⟨by omega, by omega, by omega, fun _ => by simpa using hb⟩
        · exact ⟨by omega, by omega, by omega, fun h => by omega⟩
end Go.Proofs.Ytdkabbjknclifaa.Pure
end
section
namespace Go.Proofs.Ytdkabbjknclifaa.Pure
open Go.RowKit Go.Proofs.Ytdkabbjknclifaa.F Go.Proofs.YtdkabbjknclifaaW.PrintWords Go.Proofs.YtdkabbjknclifaaW.PrintLast
set_option linter.unusedVariables false
set_option linter.unusedSimpArgs false
theorem chk_ok {b : Bool} {l : List Bool} (h1 : 2 ≤ l.length) (h2 : l.length ≤ 64) (h3 : (openFrom 0 l).length = 0 ∨ ((openFrom 0 l).length = 1 ∧ b = false)) : chk b l = 0 := by
  unfold chk fin
  rw [if_neg (by omega), if_neg (by omega)]
  rcases h3 with h | ⟨h, rfl⟩
  · rw [if_neg (by omega), if_neg (by omega)]
  · rw [if_neg (by omega), if_pos (by omega)]; rfl
end Go.Proofs.Ytdkabbjknclifaa.Pure
end
section
namespace Go.Proofs.Ytdkabbjknclifaa.Pure
open Go.RowKit Go.Proofs.Ytdkabbjknclifaa.F Go.Proofs.YtdkabbjknclifaaW.PrintWords Go.Proofs.YtdkabbjknclifaaW.PrintLast
set_option linter.unusedVariables false
set_option linter.unusedSimpArgs false
/-- The contacts that are missing. -/
def miss (b : Bool) (l : List Bool) : List Int := (if b = true then [] else [-1]) ++ openFrom 0 l
end Go.Proofs.Ytdkabbjknclifaa.Pure
end
section
namespace Go.Proofs.Ytdkabbjknclifaa.Pure
open Go.RowKit Go.Proofs.Ytdkabbjknclifaa.F Go.Proofs.YtdkabbjknclifaaW.PrintWords Go.Proofs.YtdkabbjknclifaaW.PrintLast
set_option linter.unusedVariables false
set_option linter.unusedSimpArgs false
theorem miss_landings : ∀ (l : List Bool) (i : Nat) (acc : List Int), (landings i l).foldl missStep acc = acc ++ openFrom i l
  | [], _, acc => by simp [landings, openFrom]
  | x :: r, i, acc => by
    simp only [landings, List.foldl_cons]
    rw [miss_landings r (i + 1)]
    unfold missStep
    simp only [openFrom]
    by_cases h : x = true
    · simp [h]
    · simp [h]
end Go.Proofs.Ytdkabbjknclifaa.Pure
end
section
namespace Go.Proofs.Ytdkabbjknclifaa.Pure
open Go.RowKit Go.Proofs.Ytdkabbjknclifaa.F Go.Proofs.YtdkabbjknclifaaW.PrintWords Go.Proofs.YtdkabbjknclifaaW.PrintLast
set_option linter.unusedVariables false
set_option linter.unusedSimpArgs false
theorem miss_of (b : Bool) (l : List Bool) : missOf (contactsOf b l) = miss b l := by
  unfold missOf contactsOf miss
  rw [List.foldl_cons, miss_landings]
  unfold missStep
  split <;> simp
end Go.Proofs.Ytdkabbjknclifaa.Pure
end
section
namespace Go.Proofs.Ytdkabbjknclifaa.Pure
open Go.RowKit Go.Proofs.Ytdkabbjknclifaa.F Go.Proofs.YtdkabbjknclifaaW.PrintWords Go.Proofs.YtdkabbjknclifaaW.PrintLast
set_option linter.unusedVariables false
set_option linter.unusedSimpArgs false
theorem lock_missing {l : List Bool} (hl : l.length ≤ 1000) (b : Bool) : lock_Missing.f b l = some (if chk b l = 0 then (miss b l, 0) else ([], chk b l)) := by
  unfold lock_Missing.f
  obtain ⟨F, hF⟩ : ∃ F, F = 4096 := ⟨_, rfl⟩
  rw [← hF, lock_check hl b (by omega)]
  simp only [Option.bind_some]
  by_cases h : chk b l = 0
  · rw [if_pos h, if_pos (chk_zero h).2.1, if_pos h, miss_of]
  · rw [if_neg h, if_neg h]
end Go.Proofs.Ytdkabbjknclifaa.Pure
end
section
namespace Go.Proofs.Ytdkabbjknclifaa.Pure
open Go.RowKit Go.Proofs.Ytdkabbjknclifaa.F Go.Proofs.YtdkabbjknclifaaW.PrintWords Go.Proofs.YtdkabbjknclifaaW.PrintLast
set_option linter.unusedVariables false
set_option linter.unusedSimpArgs false
theorem lock_may {l : List Bool} (hl : l.length ≤ 1000) (b : Bool) : lock_May.f b l = some (if chk b l = 0 then (((miss b l).length : Int) == 0, 0) else (false, chk b l)) := by
  unfold lock_May.f
  rw [lock_missing hl b]
  simp only [Option.bind_some]
  by_cases h : chk b l = 0
  · simp only [h, if_true]
  · simp only [h, if_false]
end Go.Proofs.Ytdkabbjknclifaa.Pure
end
section
namespace Go.Proofs.Ytdkabbjknclifaa.Pure
open Go.RowKit Go.Proofs.Ytdkabbjknclifaa.F Go.Proofs.YtdkabbjknclifaaW.PrintWords Go.Proofs.YtdkabbjknclifaaW.PrintLast
set_option linter.unusedVariables false
set_option linter.unusedSimpArgs false
theorem lock_new (n : Int) : lock_New.f n = some (new n) := by
  unfold lock_New.f new
  by_cases h1 : n < 2
  · rw [if_pos h1, if_pos h1]
  · rw [if_neg h1, if_neg h1]
    by_cases h2 : n > 64
    · rw [if_pos h2, if_pos h2]
    · rw [if_neg h2, if_neg h2]
      unfold slices_Repeat_bool_bool.f
      rw [if_pos rfl, if_pos (by omega), if_pos (by omega)]
      rfl
end Go.Proofs.Ytdkabbjknclifaa.Pure
end
section
namespace Go.Proofs.Ytdkabbjknclifaa.Pure
open Go.RowKit Go.Proofs.Ytdkabbjknclifaa.F Go.Proofs.YtdkabbjknclifaaW.PrintWords Go.Proofs.YtdkabbjknclifaaW.PrintLast
set_option linter.unusedVariables false
set_option linter.unusedSimpArgs false
def unl (b : Bool) (l : List Bool) (n : Int) : Bool × List Bool × Int :=
  if chk b l = 0 then (if n < 0 then (false, [], 2) else if (l.length : Int) ≤ n then (false, [], 2) else if (miss b l).length = 0 then (false, l.set n.toNat false, 0) else (false, [], 9)) else (false, [], chk b l)
end Go.Proofs.Ytdkabbjknclifaa.Pure
end
section
namespace Go.Proofs.Ytdkabbjknclifaa.Pure
open Go.RowKit Go.Proofs.Ytdkabbjknclifaa.F Go.Proofs.YtdkabbjknclifaaW.PrintWords Go.Proofs.YtdkabbjknclifaaW.PrintLast
set_option linter.unusedVariables false
set_option linter.unusedSimpArgs false
theorem lock_unlock {l : List Bool} (hl : l.length ≤ 1000) (b : Bool) (n : Int) : lock_Unlock.f b l n = some (unl b l n) := by
  unfold lock_Unlock.f unl
  obtain ⟨F, hF⟩ : ∃ F, F = 4096 := ⟨_, rfl⟩
  rw [← hF, lock_check hl b (by omega)]
  simp only [Option.bind_some]
  by_cases h : chk b l = 0
  · rw [if_pos h, if_pos h]
    by_cases h1 : n < 0
    · rw [if_pos h1, if_pos h1]
    · rw [if_neg h1, if_neg h1]
      by_cases h2 : (l.length : Int) ≤ n
      · rw [if_pos h2, if_pos h2]
      · rw [if_neg h2, if_neg h2, if_pos (chk_zero h).2.1, miss_of]
        split <;> rfl
  · rw [if_neg h, if_neg h]
end Go.Proofs.Ytdkabbjknclifaa.Pure
end
section
namespace Go.Proofs.Ytdkabbjknclifaa.Pure
open Go.RowKit Go.Proofs.Ytdkabbjknclifaa.F Go.Proofs.YtdkabbjknclifaaW.PrintWords Go.Proofs.YtdkabbjknclifaaW.PrintLast
set_option linter.unusedVariables false
set_option linter.unusedSimpArgs false
def lck (b : Bool) (l : List Bool) : Bool × List Bool × Int := if chk b l = 0 then new l.length else (false, [], chk b l)
end Go.Proofs.Ytdkabbjknclifaa.Pure
end
section
namespace Go.Proofs.Ytdkabbjknclifaa.Pure
open Go.RowKit Go.Proofs.Ytdkabbjknclifaa.F Go.Proofs.YtdkabbjknclifaaW.PrintWords Go.Proofs.YtdkabbjknclifaaW.PrintLast
set_option linter.unusedVariables false
set_option linter.unusedSimpArgs false
theorem lock_lock {l : List Bool} (hl : l.length ≤ 1000) (b : Bool) {k : Nat} (hk : l.length + 3 ≤ k) : lock_Lock.f k b l = some (lck b l) := by
  unfold lock_Lock.f lck
  rw [lock_check hl b hk, lock_new]
  simp only [Option.bind_some]
  split <;> rfl
end Go.Proofs.Ytdkabbjknclifaa.Pure
end
section
namespace Go.Proofs.Ytdkabbjknclifaa.Pure
open Go.RowKit Go.Proofs.Ytdkabbjknclifaa.F Go.Proofs.YtdkabbjknclifaaW.PrintWords Go.Proofs.YtdkabbjknclifaaW.PrintLast
set_option linter.unusedVariables false
set_option linter.unusedSimpArgs false
theorem index_l0 {l : List Bool} (hl : l.length ≤ 1000) : ∀ (d k i : Nat), i + d = l.length → d + 1 ≤ k →
    slices_Index_bool_bool.l0 k l false (l.length : Int) (i : Int) = some ((openFrom i (l.drop i)).head?.getD (-1))
  | 0, k, i, hi, hk => by
    obtain ⟨k, rfl⟩ : ∃ j, k = j + 1 := ⟨k - 1, by omega⟩
    obtain rfl : i = l.length := by omega
    simp only [slices_Index_bool_bool.l0]
    rw [if_neg (by omega), List.drop_length]
    simp [openFrom]
  | d + 1, k, i, hi, hk => by
    obtain ⟨k, rfl⟩ : ∃ j, k = j + 1 := ⟨k - 1, by omega⟩
    simp only [slices_Index_bool_bool.l0]
    rw [if_pos (by omega), if_pos (by omega), if_pos (by omega), rd_drop (d := false) (show i < l.length by omega), w64n (by omega)]
    by_cases h : rdOf false l (i : Int) = true
    · rw [if_neg (by rw [h]; decide), index_l0 hl d k (i + 1) (by omega) (by omega)]
      simp only [openFrom, if_pos h]
    · rw [if_pos (by rw [Bool.not_eq_true] at h; rw [h]; rfl)]
      simp only [openFrom, if_neg h, List.head?_cons, Option.getD_some]
end Go.Proofs.Ytdkabbjknclifaa.Pure
end
section
namespace Go.Proofs.Ytdkabbjknclifaa.Pure
open Go.RowKit Go.Proofs.Ytdkabbjknclifaa.F Go.Proofs.YtdkabbjknclifaaW.PrintWords Go.Proofs.YtdkabbjknclifaaW.PrintLast
set_option linter.unusedVariables false
set_option linter.unusedSimpArgs false
def slm (b : Bool) (l : List Bool) : Bool × List Bool × Int × Int :=
  if chk b l = 0 then (if (openFrom 0 l).length = 0 then (false, [], 0, 6) else (b, l.set ((openFrom 0 l).head?.getD (-1)).toNat true, (openFrom 0 l).head?.getD (-1), 0)) else (false, [], 0, chk b l)
end Go.Proofs.Ytdkabbjknclifaa.Pure
end
section
namespace Go.Proofs.Ytdkabbjknclifaa.Pure
open Go.RowKit Go.Proofs.Ytdkabbjknclifaa.F Go.Proofs.YtdkabbjknclifaaW.PrintWords Go.Proofs.YtdkabbjknclifaaW.PrintLast
set_option linter.unusedVariables false
set_option linter.unusedSimpArgs false
theorem open_head {l : List Bool} (h : ¬ (openFrom 0 l).length = 0) : 0 ≤ (openFrom 0 l).head?.getD (-1) ∧ (openFrom 0 l).head?.getD (-1) < (l.length : Int) := by
  cases hx : openFrom 0 l with
  | nil => rw [hx] at h; simp at h
  | cons x r =>
    have := openFrom_mem l 0 x (by rw [hx]; simp)
    simp
    omega
end Go.Proofs.Ytdkabbjknclifaa.Pure
end
section
namespace Go.Proofs.Ytdkabbjknclifaa.Pure
open Go.RowKit Go.Proofs.Ytdkabbjknclifaa.F Go.Proofs.YtdkabbjknclifaaW.PrintWords Go.Proofs.YtdkabbjknclifaaW.PrintLast
set_option linter.unusedVariables false
set_option linter.unusedSimpArgs false
theorem lock_slam {l : List Bool} (hl : l.length ≤ 1000) (b : Bool) : lock_Slam.f b l = some (slm b l) := by
  unfold lock_Slam.f slm
  obtain ⟨F, hF⟩ : ∃ F, F = 4096 := ⟨_, rfl⟩
  rw [← hF, lock_check hl b (by omega)]
  simp only [Option.bind_some]
  by_cases h : chk b l = 0
  · rw [if_pos h, if_pos h]
    have hi := index_l0 hl l.length F 0 (by omega) (by omega)
    unfold slices_Index_bool_bool.f
    rw [List.drop_zero] at hi
    rw [show ((0 : Int)) = ((0 : Nat) : Int) from rfl, hi]
    simp only [Option.bind_some]
    by_cases h1 : (openFrom 0 l).length = 0
    · rw [if_pos h1, List.eq_nil_of_length_eq_zero h1]
      simp
    · have := open_head h1
      rw [if_neg h1, if_neg (by omega), if_pos (chk_zero h).2.1, if_pos this.2]
  · rw [if_neg h, if_neg h]
end Go.Proofs.Ytdkabbjknclifaa.Pure
end
section
namespace Go.Proofs.Ytdkabbjknclifaa.Pure
open Go.RowKit Go.Proofs.Ytdkabbjknclifaa.F Go.Proofs.YtdkabbjknclifaaW.PrintWords Go.Proofs.YtdkabbjknclifaaW.PrintLast
set_option linter.unusedVariables false
set_option linter.unusedSimpArgs false
theorem bools_l0 {l : List Bool} (hl : l.length ≤ 1000) : ∀ (d k i : Nat), i + d = l.length → d + 1 ≤ k → K_SameBools.l0 k l l (i : Int) = some true
  | 0, k, i, hi, hk => by
    obtain ⟨k, rfl⟩ : ∃ j, k = j + 1 := ⟨k - 1, by omega⟩
    simp only [K_SameBools.l0]
    rw [if_neg (by omega)]
  | d + 1, k, i, hi, hk => by
    obtain ⟨k, rfl⟩ : ∃ j, k = j + 1 := ⟨k - 1, by omega⟩
    simp only [K_SameBools.l0]
    rw [if_pos (by omega), if_pos (by omega), if_pos (by omega), if_neg (by simp), w64n (by omega)]
    exact bools_l0 hl d k (i + 1) (by omega) (by omega)
end Go.Proofs.Ytdkabbjknclifaa.Pure
end
section
namespace Go.Proofs.Ytdkabbjknclifaa.Pure
open Go.RowKit Go.Proofs.Ytdkabbjknclifaa.F Go.Proofs.YtdkabbjknclifaaW.PrintWords Go.Proofs.YtdkabbjknclifaaW.PrintLast
set_option linter.unusedVariables false
set_option linter.unusedSimpArgs false
theorem same_chain {l : List Bool} (hl : l.length ≤ 1000) (b : Bool) {k : Nat} (hk : l.length + 1 ≤ k) : K_SameChain.f k b l b l = some true := by
  unfold K_SameChain.f K_SameBools.f
  have := bools_l0 hl l.length k 0 (by omega) hk

  rw [if_pos (by simp), if_pos rfl, show ((0 : Int)) = ((0 : Nat) : Int) from rfl, this]
  rfl
end Go.Proofs.Ytdkabbjknclifaa.Pure
end
section
namespace Go.Proofs.Ytdkabbjknclifaa.Pure
open Go.RowKit Go.Proofs.Ytdkabbjknclifaa.F Go.Proofs.YtdkabbjknclifaaW.PrintWords Go.Proofs.YtdkabbjknclifaaW.PrintLast
set_option linter.unusedVariables false
set_option linter.unusedSimpArgs false
theorem ints_l0 {l : List Int} (hl : l.length ≤ 1000) : ∀ (d k i : Nat), i + d = l.length → d + 1 ≤ k → K_SameInts.l0 k l l (i : Int) = some true
  | 0, k, i, hi, hk => by
    obtain ⟨k, rfl⟩ : ∃ j, k = j + 1 := ⟨k - 1, by omega⟩
    simp only [K_SameInts.l0]
    rw [if_neg (by omega)]
  | d + 1, k, i, hi, hk => by
    obtain ⟨k, rfl⟩ : ∃ j, k = j + 1 := ⟨k - 1, by omega⟩
    simp only [K_SameInts.l0]
    rw [if_pos (by omega), if_pos (by omega), if_pos (by omega), if_pos trivial, w64n (by omega)]
    exact ints_l0 hl d k (i + 1) (by omega) (by omega)
end Go.Proofs.Ytdkabbjknclifaa.Pure
end
section
namespace Go.Proofs.Ytdkabbjknclifaa.Pure
open Go.RowKit Go.Proofs.Ytdkabbjknclifaa.F Go.Proofs.YtdkabbjknclifaaW.PrintWords Go.Proofs.YtdkabbjknclifaaW.PrintLast
set_option linter.unusedVariables false
set_option linter.unusedSimpArgs false
theorem same_ints {l : List Int} (hl : l.length ≤ 1000) {k : Nat} (hk : l.length + 1 ≤ k) : K_SameInts.f k l l = some true := by
  unfold K_SameInts.f
  have := ints_l0 hl l.length k 0 (by omega) hk
  rw [if_pos rfl, show ((0 : Int)) = ((0 : Nat) : Int) from rfl, this]
end Go.Proofs.Ytdkabbjknclifaa.Pure
end
section
namespace Go.Proofs.Ytdkabbjknclifaa.Pure
open Go.RowKit Go.Proofs.Ytdkabbjknclifaa.F Go.Proofs.YtdkabbjknclifaaW.PrintWords Go.Proofs.YtdkabbjknclifaaW.PrintLast
set_option linter.unusedVariables false
theorem awake_true : L17_awake.f = some true := by kernel_rfl
end Go.Proofs.Ytdkabbjknclifaa.Pure
end
section
namespace Go.Proofs.Ytdkabbjknclifaa.Pure
open Go.RowKit Go.Proofs.Ytdkabbjknclifaa.F Go.Proofs.YtdkabbjknclifaaW.PrintWords Go.Proofs.YtdkabbjknclifaaW.PrintLast
set_option linter.unusedVariables false
theorem mod_f (a : Int) {m : Int} (h1 : 1 ≤ m) (h2 : m ≤ 1000) : ∃ r, K_Mod.f a m = some r ∧ 0 ≤ r ∧ r < m := by
  unfold K_Mod.f
  rw [if_neg (by omega), if_neg (by omega)]
  have hlt := Int.tmod_lt_of_pos a (show 0 < m by omega)
  have hgt := Int.lt_tmod_of_pos a (show 0 < m by omega)
  split
  · refine ⟨_, rfl, ?_, ?_⟩
    · rw [w64s (by omega) (by omega)]; omega
    · rw [w64s (by omega) (by omega)]; omega
  · exact ⟨_, rfl, by omega, by omega⟩
end Go.Proofs.Ytdkabbjknclifaa.Pure
end
section
namespace Go.Proofs.Ytdkabbjknclifaa.Pure
open Go.RowKit Go.Proofs.Ytdkabbjknclifaa.F Go.Proofs.YtdkabbjknclifaaW.PrintWords Go.Proofs.YtdkabbjknclifaaW.PrintLast
set_option linter.unusedVariables false
theorem open_rep : ∀ (n i : Nat), openFrom i (List.replicate n true) = []
  | 0, _ => rfl
  | n + 1, i => by simp only [List.replicate_succ, openFrom, if_true]; exact open_rep n (i + 1)
end Go.Proofs.Ytdkabbjknclifaa.Pure
end
section
namespace Go.Proofs.Ytdkabbjknclifaa.Pure
open Go.RowKit Go.Proofs.Ytdkabbjknclifaa.F Go.Proofs.YtdkabbjknclifaaW.PrintWords Go.Proofs.YtdkabbjknclifaaW.PrintLast
set_option linter.unusedVariables false
theorem open_set : ∀ (n i j : Nat), j < n → openFrom i ((List.replicate n true).set j false) = [((i + j : Nat) : Int)]
  | 0, _, _, h => by omega
  | n + 1, i, 0, _ => by simp only [List.replicate_succ, List.set_cons_zero, openFrom]; rw [if_neg (by decide), open_rep]; simp
  | n + 1, i, j + 1, h => by
    simp only [List.replicate_succ, List.set_cons_succ, openFrom, if_true]
    rw [open_set n (i + 1) j (by omega)]
    congr 2; omega
end Go.Proofs.Ytdkabbjknclifaa.Pure
end
section
namespace Go.Proofs.Ytdkabbjknclifaa.Pure
open Go.RowKit Go.Proofs.Ytdkabbjknclifaa.F Go.Proofs.YtdkabbjknclifaaW.PrintWords Go.Proofs.YtdkabbjknclifaaW.PrintLast
set_option linter.unusedVariables false
theorem set_back (n j : Nat) (h : j < n) : ((List.replicate n true).set j false).set j true = List.replicate n true := by
  apply List.ext_getElem?
  intro i
  simp only [List.getElem?_set, List.getElem?_replicate, List.length_set, List.length_replicate]
  by_cases e : j = i
  · subst e; simp [h]
  · simp [e]
end Go.Proofs.Ytdkabbjknclifaa.Pure
end
section
namespace Go.Proofs.Ytdkabbjknclifaa.Pure
open Go.RowKit Go.Proofs.Ytdkabbjknclifaa.F Go.Proofs.YtdkabbjknclifaaW.PrintWords Go.Proofs.YtdkabbjknclifaaW.PrintLast
set_option linter.unusedVariables false
/-- A closed chain; an open landing; slammed. -/
inductive St (n : Nat) : Bool → List Bool → Prop
  | closed : St n true (List.replicate n true)
  | opened (j : Nat) (h : j < n) : St n false ((List.replicate n true).set j false)
  | slammed : St n false (List.replicate n true)
end Go.Proofs.Ytdkabbjknclifaa.Pure
end
section
namespace Go.Proofs.Ytdkabbjknclifaa.Pure
open Go.RowKit Go.Proofs.Ytdkabbjknclifaa.F Go.Proofs.YtdkabbjknclifaaW.PrintWords Go.Proofs.YtdkabbjknclifaaW.PrintLast
set_option linter.unusedVariables false
theorem St.len {n : Nat} {b : Bool} {l : List Bool} (h : St n b l) : l.length = n := by cases h <;> simp
end Go.Proofs.Ytdkabbjknclifaa.Pure
end
section
namespace Go.Proofs.Ytdkabbjknclifaa.Pure
open Go.RowKit Go.Proofs.Ytdkabbjknclifaa.F Go.Proofs.YtdkabbjknclifaaW.PrintWords Go.Proofs.YtdkabbjknclifaaW.PrintLast
set_option linter.unusedVariables false
theorem St.chk {n : Nat} (h1 : 2 ≤ n) (h2 : n ≤ 64) {b : Bool} {l : List Bool} (h : St n b l) : chk b l = 0 := by
  have hl := h.len
  cases h with
  | closed => exact chk_ok (by omega) (by omega) (.inl (by rw [open_rep]; rfl))
  | opened j hj => exact chk_ok (by omega) (by omega) (.inr ⟨by rw [open_set _ _ _ hj]; rfl, rfl⟩)
  | slammed => exact chk_ok (by omega) (by omega) (.inl (by rw [open_rep]; rfl))
end Go.Proofs.Ytdkabbjknclifaa.Pure
end
section
namespace Go.Proofs.Ytdkabbjknclifaa.Pure
open Go.RowKit Go.Proofs.Ytdkabbjknclifaa.F Go.Proofs.YtdkabbjknclifaaW.PrintWords Go.Proofs.YtdkabbjknclifaaW.PrintLast
set_option linter.unusedVariables false
theorem new_ok {n : Nat} (h1 : 2 ≤ n) (h2 : n ≤ 64) : new (n : Int) = (true, List.replicate n true, 0) := by
  unfold new
  rw [if_neg (by omega), if_neg (by omega)]
  rfl
end Go.Proofs.Ytdkabbjknclifaa.Pure
end
section
namespace Go.Proofs.Ytdkabbjknclifaa.Pure
open Go.RowKit Go.Proofs.Ytdkabbjknclifaa.F Go.Proofs.YtdkabbjknclifaaW.PrintWords Go.Proofs.YtdkabbjknclifaaW.PrintLast
set_option linter.unusedVariables false
theorem unl_closed {n j : Nat} (h1 : 2 ≤ n) (h2 : n ≤ 64) (hj : j < n) : unl true (List.replicate n true) (j : Int) = (false, (List.replicate n true).set j false, 0) := by
  unfold unl
  rw [if_pos (St.chk h1 h2 .closed), if_neg (by omega), if_neg (by simp; omega), if_pos (by simp [miss, open_rep])]
  rfl
end Go.Proofs.Ytdkabbjknclifaa.Pure
end
section
namespace Go.Proofs.Ytdkabbjknclifaa.Pure
open Go.RowKit Go.Proofs.Ytdkabbjknclifaa.F Go.Proofs.YtdkabbjknclifaaW.PrintWords Go.Proofs.YtdkabbjknclifaaW.PrintLast
set_option linter.unusedVariables false
theorem slm_opened {n j : Nat} (h1 : 2 ≤ n) (h2 : n ≤ 64) (hj : j < n) : slm false ((List.replicate n true).set j false) = (false, List.replicate n true, (j : Int), 0) := by
  unfold slm
  rw [if_pos (St.chk h1 h2 (.opened j hj)), open_set _ _ _ hj, if_neg (by simp)]
  simp [set_back n j hj]
end Go.Proofs.Ytdkabbjknclifaa.Pure
end
section
namespace Go.Proofs.Ytdkabbjknclifaa.Pure
open Go.RowKit Go.Proofs.Ytdkabbjknclifaa.F Go.Proofs.YtdkabbjknclifaaW.PrintWords Go.Proofs.YtdkabbjknclifaaW.PrintLast
set_option linter.unusedVariables false
theorem lck_any {n : Nat} (h1 : 2 ≤ n) (h2 : n ≤ 64) {b : Bool} {l : List Bool} (h : St n b l) : lck b l = (true, List.replicate n true, 0) := by
  unfold lck
  rw [if_pos (h.chk h1 h2), h.len, new_ok h1 h2]
end Go.Proofs.Ytdkabbjknclifaa.Pure
end
section
namespace Go.Proofs.Ytdkabbjknclifaa.Pure
open Go.RowKit Go.Proofs.Ytdkabbjknclifaa.F Go.Proofs.YtdkabbjknclifaaW.PrintWords Go.Proofs.YtdkabbjknclifaaW.PrintLast
set_option linter.unusedVariables false
theorem LockUndo : L17_LockUndo.Pure := by
  intro a x ha hx
  obtain ⟨k, hk⟩ : ∃ k, 2000 ≤ k := ⟨2000, Nat.le_refl _⟩
  refine ⟨k, ?_⟩
  unfold L17_LockUndo.f
  obtain ⟨r, hr, hr0, hr1⟩ := mod_f a (m := 63) (by decide) (by decide)
  rw [hr]
  simp only [Option.bind_some]
  rw [w64s (x := 2 + r) (by omega) (by omega)]
  obtain ⟨n, hn⟩ : ∃ n : Nat, 2 + r = n := ⟨(2 + r).toNat, by omega⟩
  rw [hn]
  obtain ⟨f, hf, hf0, hf1⟩ := mod_f x (m := (n : Int)) (by omega) (by omega)
  rw [hf, lock_new, new_ok (by omega) (by omega)]
  simp only [Option.bind_some]
  obtain ⟨j, rfl⟩ : ∃ j : Nat, f = j := ⟨f.toNat, by omega⟩
  have n2 : 2 ≤ n := by omega
  have n64 : n ≤ 64 := by omega
  have hj : j < n := by omega
  clear hr hf hr0 hr1 hf0 hf1 hn ha hx
  have ho := St.opened j hj
  rw [lock_unlock (by simp; omega), unl_closed n2 n64 hj]
  simp only [Option.bind_some]
  rw [lock_lock (by simp; omega) _ (by simp; omega), lck_any n2 n64 ho, lock_missing (by simp; omega), lock_slam (by simp; omega), slm_opened n2 n64 hj]
  simp only [Option.bind_some]
  rw [lock_may (by simp; omega)]
  simp only [Option.bind_some]
  rw [if_pos (ho.chk n2 n64), if_pos (St.chk n2 n64 .slammed)]
  simp only [if_true]
  rw [same_chain (by simp; omega) _ (by simp; omega)]
  simp only [Option.bind_some, if_true]
  have hm : miss false ((List.replicate n true).set j false) = [-1, (j : Int)] := by
    unfold miss
    rw [open_set _ _ _ hj]
    simp
  rw [hm, same_ints (by simp) (by simp; omega)]
  simp only [Option.bind_some, if_true]
  have hm2 : miss false (List.replicate n true) = [-1] := by
    unfold miss
    rw [open_rep]
    simp
  rw [hm2, if_neg (by decide), awake_true]
  rfl
end Go.Proofs.Ytdkabbjknclifaa.Pure
end
section
/- The statement LockUndo holds: the law's function answers true at every input, and the input reads as it did. No condition. (Written by fork.py over the kit's print.) -/
namespace Go.Proofs.Ytdkabbjknclifaa.lockUndo
open Go.ChangeShapes Go.WideShapes Go.ChangeAt Go.RowKit
open Go.ChangeMaps (open_string shut_string)
set_option linter.unusedVariables false
theorem own : ownKnob Try.prog.godebug = none := by kernel_rfl
set_option maxRecDepth 100000 in
theorem lifted (os : Os) (started : os.Started) (H : Type) (enc : TypeId × Value → H) :
    ReturnsInHanded {} Try.checked os 6 .any (Rows.lockUndoSpec.pre6 enc Try.prog Try.f6 Rows.lockUndoRow.domain false) (Rows.lockUndoSpec.post enc Try.prog Try.f6 false true false false) := by
  refine returnsInHanded_of_change_sized (C := Try.checked) own started (by kernel_rfl) Try.func6
    (ChangeSpec.witness6 (enc := enc) (C := Try.checked) false ⟨#[], #[.int .i64 0, .int .i64 0], []⟩ 8 (by kernel_rfl) (by kernel_rfl) (by kernel_rfl) (by kernel_rfl)) ?_
  intro W base args ds gs before hval0 hW hcnd hsz0 _
  have hsz : (DataW.weightsEach Try.prog (Try.f6.params.toList ++ Rows.lockUndoSpec.plain.varTypes Try.prog) (ds ++ gs)).all (· ≤ reachBytes) = true := hsz0
  have hval : ∀ (j : Nat) t v, Try.f6.params[j]? = some t → args[j]? = some v → Value.okWide Try.prog W .any base t v := hval0
  have hW' := hW
  obtain ⟨p, q, hA0, hV, rfl, hfz, hnd⟩ := hW
  have hA : DataW.TrodAll enc Try.prog W 0 (fun _ => true) true Try.f6.params.toList args.toList ds p := hA0
  rw [Try.params6] at hA hval hsz
  obtain ⟨v0, vs0, d0, ds0, p0, q0, hargs, rfl, rfl, h0, r0⟩ := trodAll_cons hA
  obtain ⟨v1, vs1, d1, ds1, p1, q1, rfl, rfl, rfl, h1, r1⟩ := trodAll_cons r0
  obtain ⟨rfl, rfl, rfl⟩ := trodAll_nil r1
  obtain rfl : args = #[v0, v1] := by cases args; simp_all
  obtain ⟨rfl, rfl⟩ := trodVars_none hV
  obtain ⟨a0, rfl, rfl, rfl, w0⟩ := open_int Try.underlying3 (hval 0 3 v0 rfl rfl) h0
  obtain ⟨a1, rfl, rfl, rfl, w1⟩ := open_int Try.underlying3 (hval 1 3 v1 rfl rfl) h1
  clear hA0 hval0 hsz0 hsz
  refine (F.L17_LockUndo.walk Pure.LockUndo a0 a1 W w0 w1).mono fun e W' ⟨he, bel⟩ => ?_
  subst he
  exact ⟨_, rfl, _, _, _, [], _, [], hW', trodAll_mk1 (shut_bool Try.underlying4 _), (trodAll_cons_mk (shut_int Try.underlying3 w0) (trodAll_cons_mk (shut_int Try.underlying3 w1) trodAll_mk0)), rfl, bel.frame _, fun h => by cases h⟩
theorem over : Rows.lockUndoRow.holds Try.pinned (OpenSpec.ofChange Rows.lockUndoSpec) :=
  OpenClaim.holds_of_wide 6 Try.f6 rfl rfl rfl rfl rfl rfl rfl ⟨rfl, rfl, rfl, rfl, rfl⟩ rfl rfl rfl rfl rfl (by kernel_rfl) Try.func6 (by show joinedFacts Try.prog 6 Try.f6 Rows.lockUndoSpec Rows.lockUndoRow = true; unfold joinedFacts; rw [may_enter, lifts_not, make_cut]; kernel_rfl)
    (of_decide_eq_true (by kernel_rfl)) (by unfold Func.isWrapper; first | (rw [if_pos (by decide +kernel)]; kernel_rfl) | (rw [if_neg (by decide +kernel)]; exact ⟨rfl, rfl⟩))
    (fun os started H enc _ => lifted os started H enc)
theorem proved : Rows.LockUndoSaid := over
#print axioms proved
end Go.Proofs.Ytdkabbjknclifaa.lockUndo
namespace Go.Proofs.Ytdkabbjknclifaa
/-- The row, under a short name, for the claim. -/
theorem lockUndo_holds : Rows.LockUndoSaid := lockUndo.proved
end Go.Proofs.Ytdkabbjknclifaa
end
