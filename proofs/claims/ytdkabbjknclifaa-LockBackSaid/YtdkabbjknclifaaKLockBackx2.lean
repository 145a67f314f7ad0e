/- Part 2 of LockBack: what the functions reckon, step by step, and plain laws. No condition. -/
import Derived.Test.YtdkabbjknclifaaKLockBackx1
section
namespace Go.Proofs.Ytdkabbjknclifaa.Pure
open Go.RowKit Go.Proofs.Ytdkabbjknclifaa.F Go.Proofs.YtdkabbjknclifaaW.PrintWords Go.Proofs.YtdkabbjknclifaaW.PrintLast
set_option linter.unusedVariables false
set_option linter.unusedSimpArgs false
def chk (b : Bool) (l : List Bool) : Int := if l.length < 2 then 2 else if 64 < l.length then 2 else fin b (openFrom 0 l).length
end Go.Proofs.Ytdkabbjknclifaa.Pure
end
section
namespace Go.Proofs.Ytdkabbjknclifaa.Pure
open Go.RowKit Go.Proofs.Ytdkabbjknclifaa.F Go.Proofs.YtdkabbjknclifaaW.PrintWords Go.Proofs.YtdkabbjknclifaaW.PrintLast
set_option linter.unusedVariables false
set_option linter.unusedSimpArgs false
theorem check_l0 {l : List Bool} (hl : l.length ≤ 1000) (b : Bool) (l' : List Bool) : ∀ (d k i n : Nat), i + d = l.length → n ≤ i → d + 1 ≤ k →
    lock_Check.l0 k (n : Int) l (l.length : Int) (i : Int) b l' = some (fin b ((n : Int) + (openFrom i (l.drop i)).length))
  | 0, k, i, n, hi, hn, hk => by
    obtain ⟨k, rfl⟩ : ∃ j, k = j + 1 := ⟨k - 1, by omega⟩
    obtain rfl : i = l.length := by omega
    simp only [lock_Check.l0]
    rw [if_neg (by omega), List.drop_length]
    have e : (n : Int) + ((openFrom l.length ([] : List Bool)).length : Int) = n := by simp [openFrom]
    rw [e]
    unfold fin
    by_cases h1 : (n : Int) > 1
    · rw [if_pos h1, if_pos h1]
    · rw [if_neg h1, if_neg h1]
      by_cases h2 : (n : Int) = 1
      · rw [if_pos h2, if_pos h2]; split <;> rfl
      · rw [if_neg h2, if_neg h2]
  | d + 1, k, i, n, hi, hn, hk => by
    obtain ⟨k, rfl⟩ : ∃ j, k = j + 1 := ⟨k - 1, by omega⟩
    simp only [lock_Check.l0]
    rw [if_pos (by omega), if_pos (by omega), if_pos (by omega), rd_drop (d := false) (show i < l.length by omega), w64n (by omega)]
    by_cases h : rdOf false l (i : Int) = true
    · rw [if_pos h, check_l0 hl b l' d k (i + 1) n (by omega) (by omega) (by omega)]
      simp only [openFrom, if_pos h]
    · rw [if_neg h, w64n (by omega), check_l0 hl b l' d k (i + 1) (n + 1) (by omega) (by omega) (by omega)]
      simp only [openFrom, if_neg h, List.length_cons]
      congr 2
      omega
end Go.Proofs.Ytdkabbjknclifaa.Pure
end
section
namespace Go.Proofs.Ytdkabbjknclifaa.Pure
open Go.RowKit Go.Proofs.Ytdkabbjknclifaa.F Go.Proofs.YtdkabbjknclifaaW.PrintWords Go.Proofs.YtdkabbjknclifaaW.PrintLast
set_option linter.unusedVariables false
set_option linter.unusedSimpArgs false
theorem lock_check {l : List Bool} (hl : l.length ≤ 1000) (b : Bool) {k : Nat} (hk : l.length + 3 ≤ k) : lock_Check.f k b l = some (chk b l) := by
  obtain ⟨k, rfl⟩ : ∃ j, k = j + 1 := ⟨k - 1, by omega⟩
  unfold lock_Check.f chk
  by_cases h1 : l.length < 2
  · rw [if_pos (by omega), if_pos h1]; simp [lock_Check.j0]
  · rw [if_neg (by omega), if_neg h1]
    by_cases h2 : 64 < l.length
    · rw [if_pos h2]; simp only [lock_Check.j0]; rw [if_pos (decide_eq_true (by omega))]
    · rw [if_neg h2]
      simp only [lock_Check.j0]
      rw [if_neg (by simp; omega)]
      have := check_l0 hl b l l.length k 0 0 (by omega) (by omega) (by omega)
      simpa using this
end Go.Proofs.Ytdkabbjknclifaa.Pure
end
section
namespace Go.Proofs.Ytdkabbjknclifaa.Pure
open Go.RowKit Go.Proofs.Ytdkabbjknclifaa.F Go.Proofs.YtdkabbjknclifaaW.PrintWords Go.Proofs.YtdkabbjknclifaaW.PrintLast
set_option linter.unusedVariables false
set_option linter.unusedSimpArgs false
theorem chk_zero {b : Bool} {l : List Bool} (h : chk b l = 0) : 2 ≤ l.length ∧ l.length ≤ 64 ∧ (openFrom 0 l).length ≤ 1 ∧ ((openFrom 0 l).length = 1 → b = false) := by
  unfold chk at h
  split at h
  · cases h
  · split at h
    · cases h
    · unfold fin at h
      split at h
      · cases h
      · split at h
        · split at h
          · cases h
          · rename_i _ _ _ _ hb
            exact ⟨by omega, by omega, by omega, fun _ => by simpa using hb⟩
        · exact ⟨by omega, by omega, by omega, fun h => by omega⟩
end Go.Proofs.Ytdkabbjknclifaa.Pure
end
section
namespace Go.Proofs.Ytdkabbjknclifaa.Pure
open Go.RowKit Go.Proofs.Ytdkabbjknclifaa.F Go.Proofs.YtdkabbjknclifaaW.PrintWords Go.Proofs.YtdkabbjknclifaaW.PrintLast
set_option linter.unusedVariables false
set_option linter.unusedSimpArgs false
theorem chk_ok {b : Bool} {l : List Bool} (h1 : 2 ≤ l.length) (h2 : l.length ≤ 64) (h3 : (openFrom 0 l).length = 0 ∨ ((openFrom 0 l).length = 1 ∧ b = false)) : chk b l = 0 := by
  unfold chk fin
  rw [if_neg (by omega), if_neg (by omega)]
  rcases h3 with h | ⟨h, rfl⟩
  · rw [if_neg (by omega), if_neg (by omega)]
  · rw [if_neg (by omega), if_pos (by omega)]; rfl
end Go.Proofs.Ytdkabbjknclifaa.Pure
end
section
namespace Go.Proofs.Ytdkabbjknclifaa.Pure
open Go.RowKit Go.Proofs.Ytdkabbjknclifaa.F Go.Proofs.YtdkabbjknclifaaW.PrintWords Go.Proofs.YtdkabbjknclifaaW.PrintLast
set_option linter.unusedVariables false
set_option linter.unusedSimpArgs false
/-- The contacts that are missing. -/
def miss (b : Bool) (l : List Bool) : List Int := (if b = true then [] else [-1]) ++ openFrom 0 l
end Go.Proofs.Ytdkabbjknclifaa.Pure
end
section
namespace Go.Proofs.Ytdkabbjknclifaa.Pure
open Go.RowKit Go.Proofs.Ytdkabbjknclifaa.F Go.Proofs.YtdkabbjknclifaaW.PrintWords Go.Proofs.YtdkabbjknclifaaW.PrintLast
set_option linter.unusedVariables false
set_option linter.unusedSimpArgs false
theorem miss_landings : ∀ (l : List Bool) (i : Nat) (acc : List Int), (landings i l).foldl missStep acc = acc ++ openFrom i l
  | [], _, acc => by simp [landings, openFrom]
  | x :: r, i, acc => by
    simp only [landings, List.foldl_cons]
    rw [miss_landings r (i + 1)]
    unfold missStep
    simp only [openFrom]
    by_cases h : x = true
    · simp [h]
    · simp [h]
end Go.Proofs.Ytdkabbjknclifaa.Pure
end
section
namespace Go.Proofs.Ytdkabbjknclifaa.Pure
open Go.RowKit Go.Proofs.Ytdkabbjknclifaa.F Go.Proofs.YtdkabbjknclifaaW.PrintWords Go.Proofs.YtdkabbjknclifaaW.PrintLast
set_option linter.unusedVariables false
set_option linter.unusedSimpArgs false
theorem miss_of (b : Bool) (l : List Bool) : missOf (contactsOf b l) = miss b l := by
  unfold missOf contactsOf miss
  rw [List.foldl_cons, miss_landings]
  unfold missStep
  split <;> simp
end Go.Proofs.Ytdkabbjknclifaa.Pure
end
section
namespace Go.Proofs.Ytdkabbjknclifaa.Pure
open Go.RowKit Go.Proofs.Ytdkabbjknclifaa.F Go.Proofs.YtdkabbjknclifaaW.PrintWords Go.Proofs.YtdkabbjknclifaaW.PrintLast
set_option linter.unusedVariables false
set_option linter.unusedSimpArgs false
/-- The letter of a lock. -/
def mk (x : Bool) : UInt8 := if x = true then 120 else 111
end Go.Proofs.Ytdkabbjknclifaa.Pure
end
section
namespace Go.Proofs.Ytdkabbjknclifaa.Pure
open Go.RowKit Go.Proofs.Ytdkabbjknclifaa.F Go.Proofs.YtdkabbjknclifaaW.PrintWords Go.Proofs.YtdkabbjknclifaaW.PrintLast
set_option linter.unusedVariables false
set_option linter.unusedSimpArgs false
theorem writ_landings : ∀ (l : List Bool) (i : Nat) (acc : List UInt8), 1 ≤ i → (landings i l).foldl writStep acc = acc ++ l.map mk
  | [], _, acc, _ => by simp [landings]
  | x :: r, i, acc, h => by
    simp only [landings, List.foldl_cons]
    rw [writ_landings r (i + 1) _ (by omega)]
    unfold writStep
    rw [if_neg (by show ¬ (i : Int) = 0; omega)]
    simp [mk]
end Go.Proofs.Ytdkabbjknclifaa.Pure
end
section
namespace Go.Proofs.Ytdkabbjknclifaa.Pure
open Go.RowKit Go.Proofs.Ytdkabbjknclifaa.F Go.Proofs.YtdkabbjknclifaaW.PrintWords Go.Proofs.YtdkabbjknclifaaW.PrintLast
set_option linter.unusedVariables false
set_option linter.unusedSimpArgs false
def textL (b : Bool) (l : List Bool) : List UInt8 := mk b :: 124 :: l.map mk
end Go.Proofs.Ytdkabbjknclifaa.Pure
end
section
namespace Go.Proofs.Ytdkabbjknclifaa.Pure
open Go.RowKit Go.Proofs.Ytdkabbjknclifaa.F Go.Proofs.YtdkabbjknclifaaW.PrintWords Go.Proofs.YtdkabbjknclifaaW.PrintLast
set_option linter.unusedVariables false
set_option linter.unusedSimpArgs false
theorem writ_of (b : Bool) {l : List Bool} (h : 0 < l.length) : writOf (contactsOf b l) = textL b l := by
  cases l with
  | nil => simp at h
  | cons x r =>
    unfold writOf contactsOf
    simp only [landings, List.foldl_cons]
    rw [writ_landings r 1 _ (by omega)]
    simp [writStep, textL, mk]
end Go.Proofs.Ytdkabbjknclifaa.Pure
end
section
namespace Go.Proofs.Ytdkabbjknclifaa.Pure
open Go.RowKit Go.Proofs.Ytdkabbjknclifaa.F Go.Proofs.YtdkabbjknclifaaW.PrintWords Go.Proofs.YtdkabbjknclifaaW.PrintLast
set_option linter.unusedVariables false
set_option linter.unusedSimpArgs false
theorem lock_text {l : List Bool} (hl : l.length ≤ 1000) (b : Bool) : lock_Text.f b l = some (if chk b l = 0 then (⟨(textL b l).toArray⟩, 0) else (⟨#[]⟩, chk b l)) := by
  unfold lock_Text.f
  obtain ⟨F, hF⟩ : ∃ F, F = 4096 := ⟨_, rfl⟩
  rw [← hF, lock_check hl b (by omega)]
  simp only [Option.bind_some]
  by_cases h : chk b l = 0
  · have := chk_zero h
    rw [if_pos h, if_pos this.2.1, if_pos h, writ_of b (by omega)]
  · rw [if_neg h, if_neg h]
end Go.Proofs.Ytdkabbjknclifaa.Pure
end
section
namespace Go.Proofs.Ytdkabbjknclifaa.Pure
open Go.RowKit Go.Proofs.Ytdkabbjknclifaa.F Go.Proofs.YtdkabbjknclifaaW.PrintWords Go.Proofs.YtdkabbjknclifaaW.PrintLast
set_option linter.unusedVariables false
set_option linter.unusedSimpArgs false
theorem lock_new (n : Int) : lock_New.f n = some (new n) := by
  unfold lock_New.f new
  by_cases h1 : n < 2
  · rw [if_pos h1, if_pos h1]
  · rw [if_neg h1, if_neg h1]
    by_cases h2 : n > 64
    · rw [if_pos h2, if_pos h2]
    · rw [if_neg h2, if_neg h2]
      unfold slices_Repeat_bool_bool.f
      rw [if_pos rfl, if_pos (by omega), if_pos (by omega)]
      rfl
end Go.Proofs.Ytdkabbjknclifaa.Pure
end
section
namespace Go.Proofs.Ytdkabbjknclifaa.Pure
open Go.RowKit Go.Proofs.Ytdkabbjknclifaa.F Go.Proofs.YtdkabbjknclifaaW.PrintWords Go.Proofs.YtdkabbjknclifaaW.PrintLast
set_option linter.unusedVariables false
set_option linter.unusedSimpArgs false
def unl (b : Bool) (l : List Bool) (n : Int) : Bool × List Bool × Int :=
  if chk b l = 0 then (if n < 0 then (false, [], 2) else if (l.length : Int) ≤ n then (false, [], 2) else if (miss b l).length = 0 then (false, l.set n.toNat false, 0) else (false, [], 9)) else (false, [], chk b l)
end Go.Proofs.Ytdkabbjknclifaa.Pure
end
section
namespace Go.Proofs.Ytdkabbjknclifaa.Pure
open Go.RowKit Go.Proofs.Ytdkabbjknclifaa.F Go.Proofs.YtdkabbjknclifaaW.PrintWords Go.Proofs.YtdkabbjknclifaaW.PrintLast
set_option linter.unusedVariables false
set_option linter.unusedSimpArgs false
theorem lock_unlock {l : List Bool} (hl : l.length ≤ 1000) (b : Bool) (n : Int) : lock_Unlock.f b l n = some (unl b l n) := by
  unfold lock_Unlock.f unl
  obtain ⟨F, hF⟩ : ∃ F, F = 4096 := ⟨_, rfl⟩
  rw [← hF, lock_check hl b (by omega)]
  simp only [Option.bind_some]
  by_cases h : chk b l = 0
  · rw [if_pos h, if_pos h]
    by_cases h1 : n < 0
    · rw [if_pos h1, if_pos h1]
    · rw [if_neg h1, if_neg h1]
      by_cases h2 : (l.length : Int) ≤ n
      · rw [if_pos h2, if_pos h2]
      · rw [if_neg h2, if_neg h2, if_pos (chk_zero h).2.1, miss_of]
        split <;> rfl
  · rw [if_neg h, if_neg h]
end Go.Proofs.Ytdkabbjknclifaa.Pure
end
section
namespace Go.Proofs.Ytdkabbjknclifaa.Pure
open Go.RowKit Go.Proofs.Ytdkabbjknclifaa.F Go.Proofs.YtdkabbjknclifaaW.PrintWords Go.Proofs.YtdkabbjknclifaaW.PrintLast
set_option linter.unusedVariables false
set_option linter.unusedSimpArgs false
theorem index_l0 {l : List Bool} (hl : l.length ≤ 1000) : ∀ (d k i : Nat), i + d = l.length → d + 1 ≤ k →
    slices_Index_bool_bool.l0 k l false (l.length : Int) (i : Int) = some ((openFrom i (l.drop i)).head?.getD (-1))
  | 0, k, i, hi, hk => by
    obtain ⟨k, rfl⟩ : ∃ j, k = j + 1 := ⟨k - 1, by omega⟩
    obtain rfl : i = l.length := by omega
    simp only [slices_Index_bool_bool.l0]
    rw [if_neg (by omega), List.drop_length]
    simp [openFrom]
  | d + 1, k, i, hi, hk => by
    obtain ⟨k, rfl⟩ : ∃ j, k = j + 1 := ⟨k - 1, by omega⟩
    simp only [slices_Index_bool_bool.l0]
    rw [if_pos (by omega), if_pos (by omega), if_pos (by omega), rd_drop (d := false) (show i < l.length by omega), w64n (by omega)]
    by_cases h : rdOf false l (i : Int) = true
    · rw [if_neg (by rw [h]; decide), index_l0 hl d k (i + 1) (by omega) (by omega)]
      simp only [openFrom, if_pos h]
    · rw [if_pos (by rw [Bool.not_eq_true] at h; rw [h]; rfl)]
      simp only [openFrom, if_neg h, List.head?_cons, Option.getD_some]
end Go.Proofs.Ytdkabbjknclifaa.Pure
end
section
namespace Go.Proofs.Ytdkabbjknclifaa.Pure
open Go.RowKit Go.Proofs.Ytdkabbjknclifaa.F Go.Proofs.YtdkabbjknclifaaW.PrintWords Go.Proofs.YtdkabbjknclifaaW.PrintLast
set_option linter.unusedVariables false
set_option linter.unusedSimpArgs false
def slm (b : Bool) (l : List Bool) : Bool × List Bool × Int × Int :=
  if chk b l = 0 then (if (openFrom 0 l).length = 0 then (false, [], 0, 6) else (b, l.set ((openFrom 0 l).head?.getD (-1)).toNat true, (openFrom 0 l).head?.getD (-1), 0)) else (false, [], 0, chk b l)
end Go.Proofs.Ytdkabbjknclifaa.Pure
end
section
namespace Go.Proofs.Ytdkabbjknclifaa.Pure
open Go.RowKit Go.Proofs.Ytdkabbjknclifaa.F Go.Proofs.YtdkabbjknclifaaW.PrintWords Go.Proofs.YtdkabbjknclifaaW.PrintLast
set_option linter.unusedVariables false
set_option linter.unusedSimpArgs false
theorem open_head {l : List Bool} (h : ¬ (openFrom 0 l).length = 0) : 0 ≤ (openFrom 0 l).head?.getD (-1) ∧ (openFrom 0 l).head?.getD (-1) < (l.length : Int) := by
  cases hx : openFrom 0 l with
  | nil => rw [hx] at h; simp at h
  | cons x r =>
    have := openFrom_mem l 0 x (by rw [hx]; simp)
    simp
    omega
end Go.Proofs.Ytdkabbjknclifaa.Pure
end
section
namespace Go.Proofs.Ytdkabbjknclifaa.Pure
open Go.RowKit Go.Proofs.Ytdkabbjknclifaa.F Go.Proofs.YtdkabbjknclifaaW.PrintWords Go.Proofs.YtdkabbjknclifaaW.PrintLast
set_option linter.unusedVariables false
set_option linter.unusedSimpArgs false
theorem lock_slam {l : List Bool} (hl : l.length ≤ 1000) (b : Bool) : lock_Slam.f b l = some (slm b l) := by
  unfold lock_Slam.f slm
  obtain ⟨F, hF⟩ : ∃ F, F = 4096 := ⟨_, rfl⟩
  rw [← hF, lock_check hl b (by omega)]
  simp only [Option.bind_some]
  by_cases h : chk b l = 0
  · rw [if_pos h, if_pos h]
    have hi := index_l0 hl l.length F 0 (by omega) (by omega)
    unfold slices_Index_bool_bool.f
    rw [List.drop_zero] at hi
    rw [show ((0 : Int)) = ((0 : Nat) : Int) from rfl, hi]
    simp only [Option.bind_some]
    by_cases h1 : (openFrom 0 l).length = 0
    · rw [if_pos h1, List.eq_nil_of_length_eq_zero h1]
      simp
    · have := open_head h1
      rw [if_neg h1, if_neg (by omega), if_pos (chk_zero h).2.1, if_pos this.2]
  · rw [if_neg h, if_neg h]
end Go.Proofs.Ytdkabbjknclifaa.Pure
end
section
namespace Go.Proofs.Ytdkabbjknclifaa.Pure
open Go.RowKit Go.Proofs.Ytdkabbjknclifaa.F Go.Proofs.YtdkabbjknclifaaW.PrintWords Go.Proofs.YtdkabbjknclifaaW.PrintLast
set_option linter.unusedVariables false
set_option linter.unusedSimpArgs false
theorem bools_l0 {l : List Bool} (hl : l.length ≤ 1000) : ∀ (d k i : Nat), i + d = l.length → d + 1 ≤ k → K_SameBools.l0 k l l (i : Int) = some true
  | 0, k, i, hi, hk => by
    obtain ⟨k, rfl⟩ : ∃ j, k = j + 1 := ⟨k - 1, by omega⟩
    simp only [K_SameBools.l0]
    rw [if_neg (by omega)]
  | d + 1, k, i, hi, hk => by
    obtain ⟨k, rfl⟩ : ∃ j, k = j + 1 := ⟨k - 1, by omega⟩
    simp only [K_SameBools.l0]
    rw [if_pos (by omega), if_pos (by omega), if_pos (by omega), if_neg (by simp), w64n (by omega)]
    exact bools_l0 hl d k (i + 1) (by omega) (by omega)
end Go.Proofs.Ytdkabbjknclifaa.Pure
end
section
namespace Go.Proofs.Ytdkabbjknclifaa.Pure
open Go.RowKit Go.Proofs.Ytdkabbjknclifaa.F Go.Proofs.YtdkabbjknclifaaW.PrintWords Go.Proofs.YtdkabbjknclifaaW.PrintLast
set_option linter.unusedVariables false
set_option linter.unusedSimpArgs false
theorem same_chain {l : List Bool} (hl : l.length ≤ 1000) (b : Bool) {k : Nat} (hk : l.length + 1 ≤ k) : K_SameChain.f k b l b l = some true := by
  unfold K_SameChain.f K_SameBools.f
  have := bools_l0 hl l.length k 0 (by omega) hk

  rw [if_pos (by simp), if_pos rfl, show ((0 : Int)) = ((0 : Nat) : Int) from rfl, this]
  rfl
end Go.Proofs.Ytdkabbjknclifaa.Pure
end
section
namespace Go.Proofs.Ytdkabbjknclifaa.Pure
open Go.RowKit Go.Proofs.Ytdkabbjknclifaa.F Go.Proofs.YtdkabbjknclifaaW.PrintWords Go.Proofs.YtdkabbjknclifaaW.PrintLast
set_option linter.unusedVariables false
theorem awake_true : L17_awake.f = some true := by kernel_rfl
end Go.Proofs.Ytdkabbjknclifaa.Pure
end
section
namespace Go.Proofs.Ytdkabbjknclifaa.Pure
open Go.RowKit Go.Proofs.Ytdkabbjknclifaa.F Go.Proofs.YtdkabbjknclifaaW.PrintWords Go.Proofs.YtdkabbjknclifaaW.PrintLast
set_option linter.unusedVariables false
theorem mod_f (a : Int) {m : Int} (h1 : 1 ≤ m) (h2 : m ≤ 1000) : ∃ r, K_Mod.f a m = some r ∧ 0 ≤ r ∧ r < m := by
  unfold K_Mod.f
  rw [if_neg (by omega), if_neg (by omega)]
  have hlt := Int.tmod_lt_of_pos a (show 0 < m by omega)
  have hgt := Int.lt_tmod_of_pos a (show 0 < m by omega)
  split
  · refine ⟨_, rfl, ?_, ?_⟩
    · rw [w64s (by omega) (by omega)]; omega
    · rw [w64s (by omega) (by omega)]; omega
  · exact ⟨_, rfl, by omega, by omega⟩
end Go.Proofs.Ytdkabbjknclifaa.Pure
end
section
namespace Go.Proofs.Ytdkabbjknclifaa.Pure
open Go.RowKit Go.Proofs.Ytdkabbjknclifaa.F Go.Proofs.YtdkabbjknclifaaW.PrintWords Go.Proofs.YtdkabbjknclifaaW.PrintLast
set_option linter.unusedVariables false
theorem open_rep : ∀ (n i : Nat), openFrom i (List.replicate n true) = []
  | 0, _ => rfl
  | n + 1, i => by simp only [List.replicate_succ, openFrom, if_true]; exact open_rep n (i + 1)
end Go.Proofs.Ytdkabbjknclifaa.Pure
end
section
namespace Go.Proofs.Ytdkabbjknclifaa.Pure
open Go.RowKit Go.Proofs.Ytdkabbjknclifaa.F Go.Proofs.YtdkabbjknclifaaW.PrintWords Go.Proofs.YtdkabbjknclifaaW.PrintLast
set_option linter.unusedVariables false
theorem open_set : ∀ (n i j : Nat), j < n → openFrom i ((List.replicate n true).set j false) = [((i + j : Nat) : Int)]
  | 0, _, _, h => by omega
  | n + 1, i, 0, _ => by simp only [List.replicate_succ, List.set_cons_zero, openFrom]; rw [if_neg (by decide), open_rep]; simp
  | n + 1, i, j + 1, h => by
    simp only [List.replicate_succ, List.set_cons_succ, openFrom, if_true]
    rw [open_set n (i + 1) j (by omega)]
    congr 2; omega
end Go.Proofs.Ytdkabbjknclifaa.Pure
end
section
namespace Go.Proofs.Ytdkabbjknclifaa.Pure
open Go.RowKit Go.Proofs.Ytdkabbjknclifaa.F Go.Proofs.YtdkabbjknclifaaW.PrintWords Go.Proofs.YtdkabbjknclifaaW.PrintLast
set_option linter.unusedVariables false
theorem set_back (n j : Nat) (h : j < n) : ((List.replicate n true).set j false).set j true = List.replicate n true := by
  apply List.ext_getElem?
  intro i
  simp only [List.getElem?_set, List.getElem?_replicate, List.length_set, List.length_replicate]
  by_cases e : j = i
  · subst e; simp [h]
  · simp [e]
end Go.Proofs.Ytdkabbjknclifaa.Pure
end
section
namespace Go.Proofs.Ytdkabbjknclifaa.Pure
open Go.RowKit Go.Proofs.Ytdkabbjknclifaa.F Go.Proofs.YtdkabbjknclifaaW.PrintWords Go.Proofs.YtdkabbjknclifaaW.PrintLast
set_option linter.unusedVariables false
/-- A closed chain; an open landing; slammed. -/
inductive St (n : Nat) : Bool → List Bool → Prop
  | closed : St n true (List.replicate n true)
  | opened (j : Nat) (h : j < n) : St n false ((List.replicate n true).set j false)
  | slammed : St n false (List.replicate n true)
end Go.Proofs.Ytdkabbjknclifaa.Pure
end
section
namespace Go.Proofs.Ytdkabbjknclifaa.Pure
open Go.RowKit Go.Proofs.Ytdkabbjknclifaa.F Go.Proofs.YtdkabbjknclifaaW.PrintWords Go.Proofs.YtdkabbjknclifaaW.PrintLast
set_option linter.unusedVariables false
theorem St.len {n : Nat} {b : Bool} {l : List Bool} (h : St n b l) : l.length = n := by cases h <;> simp
end Go.Proofs.Ytdkabbjknclifaa.Pure
end
section
namespace Go.Proofs.Ytdkabbjknclifaa.Pure
open Go.RowKit Go.Proofs.Ytdkabbjknclifaa.F Go.Proofs.YtdkabbjknclifaaW.PrintWords Go.Proofs.YtdkabbjknclifaaW.PrintLast
set_option linter.unusedVariables false
theorem St.chk {n : Nat} (h1 : 2 ≤ n) (h2 : n ≤ 64) {b : Bool} {l : List Bool} (h : St n b l) : chk b l = 0 := by
  have hl := h.len
  cases h with
  | closed => exact chk_ok (by omega) (by omega) (.inl (by rw [open_rep]; rfl))
  | opened j hj => exact chk_ok (by omega) (by omega) (.inr ⟨by rw [open_set _ _ _ hj]; rfl, rfl⟩)
  | slammed => exact chk_ok (by omega) (by omega) (.inl (by rw [open_rep]; rfl))
end Go.Proofs.Ytdkabbjknclifaa.Pure
end
section
namespace Go.Proofs.Ytdkabbjknclifaa.Pure
open Go.RowKit Go.Proofs.Ytdkabbjknclifaa.F Go.Proofs.YtdkabbjknclifaaW.PrintWords Go.Proofs.YtdkabbjknclifaaW.PrintLast
set_option linter.unusedVariables false
theorem new_ok {n : Nat} (h1 : 2 ≤ n) (h2 : n ≤ 64) : new (n : Int) = (true, List.replicate n true, 0) := by
  unfold new
  rw [if_neg (by omega), if_neg (by omega)]
  rfl
end Go.Proofs.Ytdkabbjknclifaa.Pure
end
section
namespace Go.Proofs.Ytdkabbjknclifaa.Pure
open Go.RowKit Go.Proofs.Ytdkabbjknclifaa.F Go.Proofs.YtdkabbjknclifaaW.PrintWords Go.Proofs.YtdkabbjknclifaaW.PrintLast
set_option linter.unusedVariables false
theorem unl_closed {n j : Nat} (h1 : 2 ≤ n) (h2 : n ≤ 64) (hj : j < n) : unl true (List.replicate n true) (j : Int) = (false, (List.replicate n true).set j false, 0) := by
  unfold unl
  rw [if_pos (St.chk h1 h2 .closed), if_neg (by omega), if_neg (by simp; omega), if_pos (by simp [miss, open_rep])]
  rfl
end Go.Proofs.Ytdkabbjknclifaa.Pure
end
section
namespace Go.Proofs.Ytdkabbjknclifaa.Pure
open Go.RowKit Go.Proofs.Ytdkabbjknclifaa.F Go.Proofs.YtdkabbjknclifaaW.PrintWords Go.Proofs.YtdkabbjknclifaaW.PrintLast
set_option linter.unusedVariables false
theorem slm_opened {n j : Nat} (h1 : 2 ≤ n) (h2 : n ≤ 64) (hj : j < n) : slm false ((List.replicate n true).set j false) = (false, List.replicate n true, (j : Int), 0) := by
  unfold slm
  rw [if_pos (St.chk h1 h2 (.opened j hj)), open_set _ _ _ hj, if_neg (by simp)]
  simp [set_back n j hj]
end Go.Proofs.Ytdkabbjknclifaa.Pure
end
section
namespace Go.Proofs.Ytdkabbjknclifaa.Pure
open Go.RowKit Go.Proofs.Ytdkabbjknclifaa.F Go.Proofs.YtdkabbjknclifaaW.PrintWords Go.Proofs.YtdkabbjknclifaaW.PrintLast
set_option linter.unusedVariables false
def pres (n : Nat) : Sum Nat (Bool × List Bool) → Bool × List Bool × Int × Int
  | .inl i => (false, [], 3, (i : Int))
  | .inr (b, l) => if n < 2 then (false, [], 3, (n : Int)) else if chk b l = 0 then (b, l, 0, 0) else (false, [], chk b l, 0)
end Go.Proofs.Ytdkabbjknclifaa.Pure
end
section
namespace Go.Proofs.Ytdkabbjknclifaa.Pure
open Go.RowKit Go.Proofs.Ytdkabbjknclifaa.F Go.Proofs.YtdkabbjknclifaaW.PrintWords Go.Proofs.YtdkabbjknclifaaW.PrintLast
set_option linter.unusedVariables false
theorem parseL_le : ∀ (L : List UInt8) (i : Nat) (b : Bool) (acc : List Bool) (b' : Bool) (l : List Bool), parseL L i b acc = .inr (b', l) → l.length ≤ acc.length + L.length
  | [], i, b, acc, b', l, h => by simp [parseL] at h; obtain ⟨_, rfl⟩ := h; simp
  | c :: r, i, b, acc, b', l, h => by
    unfold parseL at h
    repeat' split at h
    all_goals first | (cases h; done) | (have := parseL_le _ _ _ _ _ _ h; simp at this ⊢; omega)
end Go.Proofs.Ytdkabbjknclifaa.Pure
end
section
namespace Go.Proofs.Ytdkabbjknclifaa.Pure
open Go.RowKit Go.Proofs.Ytdkabbjknclifaa.F Go.Proofs.YtdkabbjknclifaaW.PrintWords Go.Proofs.YtdkabbjknclifaaW.PrintLast
set_option linter.unusedVariables false
theorem lock_parse (a : ByteArray) (h : a.data.toList.length ≤ 100) : lock_Parse.f a = some (pres a.data.toList.length (parseL a.data.toList 0 false [])) := by
  unfold lock_Parse.f
  rw [if_pos h]
  cases hp : parseL a.data.toList 0 false [] with
  | inl i => rfl
  | inr p =>
    obtain ⟨b, l⟩ := p
    have hl := parseL_le _ _ _ _ _ _ hp
    simp only [pres]
    split
    · rfl
    · obtain ⟨F, hF⟩ : ∃ F, F = 4096 := ⟨_, rfl⟩
      have hl2 : l.length ≤ 100 := by have e : ([] : List Bool).length = 0 := rfl; omega
      rw [← hF, lock_check (by omega) b (by omega)]
      simp only [Option.bind_some]
      split <;> rfl
end Go.Proofs.Ytdkabbjknclifaa.Pure
end
section
namespace Go.Proofs.Ytdkabbjknclifaa.Pure
open Go.RowKit Go.Proofs.Ytdkabbjknclifaa.F Go.Proofs.YtdkabbjknclifaaW.PrintWords Go.Proofs.YtdkabbjknclifaaW.PrintLast
set_option linter.unusedVariables false
theorem parse_rest (b : Bool) : ∀ (l : List Bool) (i : Nat) (acc : List Bool), 2 ≤ i → parseL (l.map mk) i b acc = .inr (b, acc ++ l)
  | [], i, acc, _ => by simp [parseL]
  | x :: r, i, acc, h => by
    simp only [List.map_cons, parseL]
    rw [if_neg (by omega), if_neg (by omega)]
    cases x with
    | true =>
      rw [if_pos (by decide), parse_rest b r (i + 1) _ (by omega)]
      simp
    | false =>
      rw [if_neg (by decide), if_pos (by decide), parse_rest b r (i + 1) _ (by omega)]
      simp
end Go.Proofs.Ytdkabbjknclifaa.Pure
end
section
namespace Go.Proofs.Ytdkabbjknclifaa.Pure
open Go.RowKit Go.Proofs.Ytdkabbjknclifaa.F Go.Proofs.YtdkabbjknclifaaW.PrintWords Go.Proofs.YtdkabbjknclifaaW.PrintLast
set_option linter.unusedVariables false
theorem parse_text (b : Bool) (l : List Bool) : parseL (textL b l) 0 false [] = .inr (b, l) := by
  have h2 : ∀ b, parseL (124 :: l.map mk) 1 b [] = .inr (b, l) := by
    intro b
    have := parse_rest b l 2 [] (by omega)
    simpa [parseL] using this
  have h1 : parseL (mk b :: 124 :: l.map mk) 0 false [] = parseL (124 :: l.map mk) 1 b [] := by
    cases b with
    | true => rw [parseL]; simp [mk]
    | false => rw [parseL]; simp [mk]
  unfold textL
  rw [h1, h2]
end Go.Proofs.Ytdkabbjknclifaa.Pure
end
section
namespace Go.Proofs.Ytdkabbjknclifaa.Pure
open Go.RowKit Go.Proofs.Ytdkabbjknclifaa.F Go.Proofs.YtdkabbjknclifaaW.PrintWords Go.Proofs.YtdkabbjknclifaaW.PrintLast
set_option linter.unusedVariables false
theorem back_end {n : Nat} (h1 : 2 ≤ n) (h2 : n ≤ 64) {b : Bool} {l : List Bool} (h : St n b l) {k : Nat} (hk : 200 ≤ k) : L17_LockBack.j3 (k + 1) (n : Int) 0 b l = some true := by
  have hl := h.len
  have hc := h.chk h1 h2
  simp only [L17_LockBack.j3]
  rw [lock_text (by omega), if_pos hc]
  simp only [Option.bind_some]
  have hs : (textL b l).length = n + 2 := by simp [textL]; omega
  rw [lock_parse _ (by show (textL b l).toArray.toList.length ≤ 100; simp; omega)]
  simp only [Option.bind_some]
  have e : pres (textL b l).toArray.toList.length (parseL (textL b l).toArray.toList 0 false []) = (b, l, 0, 0) := by
    rw [show (textL b l).toArray.toList = textL b l by simp, parse_text]
    simp only [pres]
    rw [if_neg (by omega), if_pos hc]
  rw [e]
  simp only [if_true]
  rw [if_pos (by decide), if_pos (by show ((textL b l).toArray.size : Int) = _; rw [w64s (by omega) (by omega)]; simp; omega), same_chain (by omega) _ (by omega)]
  simp only [Option.bind_some, if_true]
  rw [awake_true]
  rfl
end Go.Proofs.Ytdkabbjknclifaa.Pure
end
section
namespace Go.Proofs.Ytdkabbjknclifaa.Pure
open Go.RowKit Go.Proofs.Ytdkabbjknclifaa.F Go.Proofs.YtdkabbjknclifaaW.PrintWords Go.Proofs.YtdkabbjknclifaaW.PrintLast
set_option linter.unusedVariables false
theorem LockBack : L17_LockBack.Pure := by
  intro a x y ha hx hy
  obtain ⟨k, hk⟩ : ∃ k, 2000 ≤ k := ⟨2000, Nat.le_refl _⟩
  refine ⟨k, ?_⟩
  obtain ⟨k, rfl⟩ : ∃ j, k = j + 4 := ⟨k - 4, by omega⟩
  unfold L17_LockBack.f
  obtain ⟨r, hr, hr0, hr1⟩ := mod_f a (m := 63) (by decide) (by decide)
  obtain ⟨t, ht, ht0, ht1⟩ := mod_f y (m := 3) (by decide) (by decide)
  rw [hr]
  simp only [Option.bind_some]
  rw [w64s (x := 2 + r) (by omega) (by omega)]
  obtain ⟨n, hn⟩ : ∃ n : Nat, 2 + r = n := ⟨(2 + r).toNat, by omega⟩
  rw [hn]
  have n2 : 2 ≤ n := by omega
  have n64 : n ≤ 64 := by omega
  rw [lock_new, new_ok n2 n64, ht]
  simp only [Option.bind_some]
  clear hr ht ha hx hy hr0 hr1 hn
  have hclosed := back_end n2 n64 (St.closed (n := n)) (k := k) (by omega)
  by_cases h0 : t > 0
  · rw [if_pos h0]
    simp only [L17_LockBack.j0, beq_self_eq_true, if_true]
    obtain ⟨f, hf, hf0, hf1⟩ := mod_f x (m := (n : Int)) (by omega) (by omega)
    rw [hf]
    simp only [Option.bind_some]
    obtain ⟨j, rfl⟩ : ∃ j : Nat, f = j := ⟨f.toNat, by omega⟩
    have hj : j < n := by omega
    rw [lock_unlock (by simp; omega), unl_closed n2 n64 hj]
    simp only [Option.bind_some, L17_LockBack.j1]
    by_cases h1 : t > 1
    · rw [if_pos h1]
      simp only [L17_LockBack.j2, beq_self_eq_true, if_true]
      rw [lock_slam (by simp; omega), slm_opened n2 n64 hj]
      simp only [Option.bind_some]
      exact back_end n2 n64 .slammed (by omega)
    · rw [if_neg h1]
      simp only [L17_LockBack.j2]
      rw [if_neg (by decide)]
      exact back_end n2 n64 (.opened j hj) (by omega)
  · rw [if_neg h0]
    simp only [L17_LockBack.j0, L17_LockBack.j1, L17_LockBack.j2]
    rw [if_neg (by decide), if_neg (by omega), if_neg (by decide)]
    exact hclosed
end Go.Proofs.Ytdkabbjknclifaa.Pure
end
section
/- The statement LockBack holds: the law's function answers true at every input, and the input reads as it did. No condition. (Written by fork.py over the kit's print.) -/
namespace Go.Proofs.Ytdkabbjknclifaa.lockBack
open Go.ChangeShapes Go.WideShapes Go.ChangeAt Go.RowKit
open Go.ChangeMaps (open_string shut_string)
set_option linter.unusedVariables false
theorem own : ownKnob Try.prog.godebug = none := by kernel_rfl
set_option maxRecDepth 100000 in
theorem lifted (os : Os) (started : os.Started) (H : Type) (enc : TypeId × Value → H) :
    ReturnsInHanded {} Try.checked os 8 .any (Rows.lockBackSpec.pre6 enc Try.prog Try.f8 Rows.lockBackRow.domain false) (Rows.lockBackSpec.post enc Try.prog Try.f8 false true false false) := by
  refine returnsInHanded_of_change_sized (C := Try.checked) own started (by kernel_rfl) Try.func8
    (ChangeSpec.witness6 (enc := enc) (C := Try.checked) false ⟨#[], #[.int .i64 0, .int .i64 0, .int .i64 0], []⟩ 8 (by kernel_rfl) (by kernel_rfl) (by kernel_rfl) (by kernel_rfl)) ?_
  intro W base args ds gs before hval0 hW hcnd hsz0 _
  have hsz : (DataW.weightsEach Try.prog (Try.f8.params.toList ++ Rows.lockBackSpec.plain.varTypes Try.prog) (ds ++ gs)).all (· ≤ reachBytes) = true := hsz0
  have hval : ∀ (j : Nat) t v, Try.f8.params[j]? = some t → args[j]? = some v → Value.okWide Try.prog W .any base t v := hval0
  have hW' := hW
  obtain ⟨p, q, hA0, hV, rfl, hfz, hnd⟩ := hW
  have hA : DataW.TrodAll enc Try.prog W 0 (fun _ => true) true Try.f8.params.toList args.toList ds p := hA0
  rw [Try.params8] at hA hval hsz
  obtain ⟨v0, vs0, d0, ds0, p0, q0, hargs, rfl, rfl, h0, r0⟩ := trodAll_cons hA
  obtain ⟨v1, vs1, d1, ds1, p1, q1, rfl, rfl, rfl, h1, r1⟩ := trodAll_cons r0
  obtain ⟨v2, vs2, d2, ds2, p2, q2, rfl, rfl, rfl, h2, r2⟩ := trodAll_cons r1
  obtain ⟨rfl, rfl, rfl⟩ := trodAll_nil r2
  obtain rfl : args = #[v0, v1, v2] := by cases args; simp_all
  obtain ⟨rfl, rfl⟩ := trodVars_none hV
  obtain ⟨a0, rfl, rfl, rfl, w0⟩ := open_int Try.underlying3 (hval 0 3 v0 rfl rfl) h0
  obtain ⟨a1, rfl, rfl, rfl, w1⟩ := open_int Try.underlying3 (hval 1 3 v1 rfl rfl) h1
  obtain ⟨a2, rfl, rfl, rfl, w2⟩ := open_int Try.underlying3 (hval 2 3 v2 rfl rfl) h2
  clear hA0 hval0 hsz0 hsz
  refine (F.L17_LockBack.walk Pure.LockBack a0 a1 a2 W w0 w1 w2).mono fun e W' ⟨he, bel⟩ => ?_
  subst he
  exact ⟨_, rfl, _, _, _, [], _, [], hW', trodAll_mk1 (shut_bool Try.underlying4 _), (trodAll_cons_mk (shut_int Try.underlying3 w0) (trodAll_cons_mk (shut_int Try.underlying3 w1) (trodAll_cons_mk (shut_int Try.underlying3 w2) trodAll_mk0))), rfl, bel.frame _, fun h => by cases h⟩
theorem over : Rows.lockBackRow.holds Try.pinned (OpenSpec.ofChange Rows.lockBackSpec) :=
  OpenClaim.holds_of_wide 8 Try.f8 rfl rfl rfl rfl rfl rfl rfl ⟨rfl, rfl, rfl, rfl, rfl⟩ rfl rfl rfl rfl rfl (by kernel_rfl) Try.func8 (by show joinedFacts Try.prog 8 Try.f8 Rows.lockBackSpec Rows.lockBackRow = true; unfold joinedFacts; rw [may_enter, lifts_not, make_cut]; kernel_rfl)
    (of_decide_eq_true (by kernel_rfl)) (by unfold Func.isWrapper; first | (rw [if_pos (by decide +kernel)]; kernel_rfl) | (rw [if_neg (by decide +kernel)]; exact ⟨rfl, rfl⟩))
    (fun os started H enc _ => lifted os started H enc)
theorem proved : Rows.LockBackSaid := over
#print axioms proved
end Go.Proofs.Ytdkabbjknclifaa.lockBack
namespace Go.Proofs.Ytdkabbjknclifaa
/-- The row, under a short name, for the claim. -/
theorem lockBack_holds : Rows.LockBackSaid := lockBack.proved
end Go.Proofs.Ytdkabbjknclifaa
end
