/- Part 2 of LockValid: what the functions reckon, step by step, and plain laws. No condition. -/
import Derived.Test.YtdkabbjknclifaaKLockValidx1
section
namespace Go.Proofs.Ytdkabbjknclifaa.Pure
open Go.RowKit Go.Proofs.Ytdkabbjknclifaa.F Go.Proofs.YtdkabbjknclifaaW.PrintWords Go.Proofs.YtdkabbjknclifaaW.PrintLast
set_option linter.unusedVariables false
set_option linter.unusedSimpArgs false
theorem rd_drop {α : Type} {d : α} {l : List α} {i : Nat} (h : i < l.length) : l.drop i = rdOf d l i :: l.drop (i + 1) := by
  have e : rdOf d l i = l[i] := by simp [rdOf, List.getD_eq_getElem?_getD, List.getElem?_eq_getElem h]
  rw [e, List.drop_eq_getElem_cons h]
end Go.Proofs.Ytdkabbjknclifaa.Pure
end
section
namespace Go.Proofs.Ytdkabbjknclifaa.Pure
open Go.RowKit Go.Proofs.Ytdkabbjknclifaa.F Go.Proofs.YtdkabbjknclifaaW.PrintWords Go.Proofs.YtdkabbjknclifaaW.PrintLast
set_option linter.unusedVariables false
set_option linter.unusedSimpArgs false
/-- The landings that are not locked. -/
def openFrom : Nat → List Bool → List Int
  | _, [] => []
  | i, x :: r => if x = true then openFrom (i + 1) r else (i : Int) :: openFrom (i + 1) r
end Go.Proofs.Ytdkabbjknclifaa.Pure
end
section
namespace Go.Proofs.Ytdkabbjknclifaa.Pure
open Go.RowKit Go.Proofs.Ytdkabbjknclifaa.F Go.Proofs.YtdkabbjknclifaaW.PrintWords Go.Proofs.YtdkabbjknclifaaW.PrintLast
set_option linter.unusedVariables false
set_option linter.unusedSimpArgs false
theorem openFrom_mem : ∀ (l : List Bool) (i : Nat) (x : Int), x ∈ openFrom i l → (i : Int) ≤ x ∧ x < (i : Int) + l.length
  | [], _, _, h => by simp [openFrom] at h
  | b :: r, i, x, h => by
    unfold openFrom at h
    have ih := openFrom_mem r (i + 1) x
    split at h
    · have := ih h; simp; omega
    · rcases List.mem_cons.mp h with rfl | h
      · simp; omega
      · have := ih h; simp; omega
end Go.Proofs.Ytdkabbjknclifaa.Pure
end
section
namespace Go.Proofs.Ytdkabbjknclifaa.Pure
open Go.RowKit Go.Proofs.Ytdkabbjknclifaa.F Go.Proofs.YtdkabbjknclifaaW.PrintWords Go.Proofs.YtdkabbjknclifaaW.PrintLast
set_option linter.unusedVariables false
set_option linter.unusedSimpArgs false
def fin (b : Bool) (n : Int) : Int := if n > 1 then 9 else if n = 1 then (if b = true then 9 else 0) else 0
end Go.Proofs.Ytdkabbjknclifaa.Pure
end
section
namespace Go.Proofs.Ytdkabbjknclifaa.Pure
open Go.RowKit Go.Proofs.Ytdkabbjknclifaa.F Go.Proofs.YtdkabbjknclifaaW.PrintWords Go.Proofs.YtdkabbjknclifaaW.PrintLast
set_option linter.unusedVariables false
set_option linter.unusedSimpArgs false
def chk (b : Bool) (l : List Bool) : Int := if l.length < 2 then 2 else if 64 < l.length then 2 else fin b (openFrom 0 l).length
end Go.Proofs.Ytdkabbjknclifaa.Pure
end
section
namespace Go.Proofs.Ytdkabbjknclifaa.Pure
open Go.RowKit Go.Proofs.Ytdkabbjknclifaa.F Go.Proofs.YtdkabbjknclifaaW.PrintWords Go.Proofs.YtdkabbjknclifaaW.PrintLast
set_option linter.unusedVariables false
set_option linter.unusedSimpArgs false
theorem check_l0 {l : List Bool} (hl : l.length ≤ 1000) (b : Bool) (l' : List Bool) : ∀ (d k i n : Nat), i + d = l.length → n ≤ i → d + 1 ≤ k →
    lock_Check.l0 k (n : Int) l (l.length : Int) (i : Int) b l' = some (fin b ((n : Int) + (openFrom i (l.drop i)).length))
  | 0, k, i, n, hi, hn, hk => by
    obtain ⟨k, rfl⟩ : ∃ j, k = j + 1 := ⟨k - 1, by omega⟩
    obtain rfl : i = l.length := by omega
    simp only [lock_Check.l0]
    rw [if_neg (by omega), List.drop_length]
    have e : (n : Int) + ((openFrom l.length ([] : List Bool)).length : Int) = n := by simp [openFrom]
    rw [e]
    unfold fin
    by_cases h1 : (n : Int) > 1
    · rw [if_pos h1, if_pos h1]
    · rw [if_neg h1, if_neg h1]
      by_cases h2 : (n : Int) = 1
      · rw [if_pos h2, if_pos h2]; split <;> rfl
      · rw [if_neg h2, if_neg h2]
  | d + 1, k, i, n, hi, hn, hk => by
    obtain ⟨k, rfl⟩ : ∃ j, k = j + 1 := ⟨k - 1, by omega⟩
    simp only [lock_Check.l0]
    rw [if_pos (by omega), if_pos (by omega), if_pos (by omega), rd_drop (d := false) (show i < l.length by omega), w64n (by omega)]
    by_cases h : rdOf false l (i : Int) = true
    · rw [if_pos h, check_l0 hl b l' d k (i + 1) n (by omega) (by omega) (by omega)]
      simp only [openFrom, if_pos h]
    · rw [if_neg h, w64n (by omega), check_l0 hl b l' d k (i + 1) (n + 1) (by omega) (by omega) (by omega)]
      simp only [openFrom, if_neg h, List.length_cons]
      congr 2
      omega
end Go.Proofs.Ytdkabbjknclifaa.Pure
end
section
namespace Go.Proofs.Ytdkabbjknclifaa.Pure
open Go.RowKit Go.Proofs.Ytdkabbjknclifaa.F Go.Proofs.YtdkabbjknclifaaW.PrintWords Go.Proofs.YtdkabbjknclifaaW.PrintLast
set_option linter.unusedVariables false
set_option linter.unusedSimpArgs false
theorem lock_check {l : List Bool} (hl : l.length ≤ 1000) (b : Bool) {k : Nat} (hk : l.length + 3 ≤ k) : lock_Check.f k b l = some (chk b l) := by
  obtain ⟨k, rfl⟩ : ∃ j, k = j + 1 := ⟨k - 1, by omega⟩
  unfold lock_Check.f chk
  by_cases h1 : l.length < 2
  · rw [if_pos (by omega), if_pos h1]; simp [lock_Check.j0]
  · rw [if_neg (by omega), if_neg h1]
    by_cases h2 : 64 < l.length
    · rw [if_pos h2]; simp only [lock_Check.j0]; rw [if_pos (decide_eq_true (by omega))]
    · rw [if_neg h2]
      simp only [lock_Check.j0]
      rw [if_neg (by simp; omega)]
      have := check_l0 hl b l l.length k 0 0 (by omega) (by omega) (by omega)
      simpa using this
end Go.Proofs.Ytdkabbjknclifaa.Pure
end
section
namespace Go.Proofs.Ytdkabbjknclifaa.Pure
open Go.RowKit Go.Proofs.Ytdkabbjknclifaa.F Go.Proofs.YtdkabbjknclifaaW.PrintWords Go.Proofs.YtdkabbjknclifaaW.PrintLast
set_option linter.unusedVariables false
set_option linter.unusedSimpArgs false
theorem chk_zero {b : Bool} {l : List Bool} (h : chk b l = 0) : 2 ≤ l.length ∧ l.length ≤ 64 ∧ (openFrom 0 l).length ≤ 1 ∧ ((openFrom 0 l).length = 1 → b = false) := by
  unfold chk at h
  split at h
  · cases h
  · split at h
    · cases h
    · unfold fin at h
      split at h
      · cases h
      · split at h
        · split at h
          · cases h
          · rename_i _ _ _ _ hb
            exact ⟨by omega, by omega, by omega, fun _ => by simpa using hb⟩
        · exact ⟨by omega, by omega, by omega, fun h => by omega⟩
end Go.Proofs.Ytdkabbjknclifaa.Pure
end
section
namespace Go.Proofs.Ytdkabbjknclifaa.Pure
open Go.RowKit Go.Proofs.Ytdkabbjknclifaa.F Go.Proofs.YtdkabbjknclifaaW.PrintWords Go.Proofs.YtdkabbjknclifaaW.PrintLast
set_option linter.unusedVariables false
set_option linter.unusedSimpArgs false
theorem chk_ok {b : Bool} {l : List Bool} (h1 : 2 ≤ l.length) (h2 : l.length ≤ 64) (h3 : (openFrom 0 l).length = 0 ∨ ((openFrom 0 l).length = 1 ∧ b = false)) : chk b l = 0 := by
  unfold chk fin
  rw [if_neg (by omega), if_neg (by omega)]
  rcases h3 with h | ⟨h, rfl⟩
  · rw [if_neg (by omega), if_neg (by omega)]
  · rw [if_neg (by omega), if_pos (by omega)]; rfl
end Go.Proofs.Ytdkabbjknclifaa.Pure
end
section
namespace Go.Proofs.Ytdkabbjknclifaa.Pure
open Go.RowKit Go.Proofs.Ytdkabbjknclifaa.F Go.Proofs.YtdkabbjknclifaaW.PrintWords Go.Proofs.YtdkabbjknclifaaW.PrintLast
set_option linter.unusedVariables false
set_option linter.unusedSimpArgs false
/-- The contacts that are missing. -/
def miss (b : Bool) (l : List Bool) : List Int := (if b = true then [] else [-1]) ++ openFrom 0 l
end Go.Proofs.Ytdkabbjknclifaa.Pure
end
section
namespace Go.Proofs.Ytdkabbjknclifaa.Pure
open Go.RowKit Go.Proofs.Ytdkabbjknclifaa.F Go.Proofs.YtdkabbjknclifaaW.PrintWords Go.Proofs.YtdkabbjknclifaaW.PrintLast
set_option linter.unusedVariables false
set_option linter.unusedSimpArgs false
theorem miss_landings : ∀ (l : List Bool) (i : Nat) (acc : List Int), (landings i l).foldl missStep acc = acc ++ openFrom i l
  | [], _, acc => by simp [landings, openFrom]
  | x :: r, i, acc => by
    simp only [landings, List.foldl_cons]
    rw [miss_landings r (i + 1)]
    unfold missStep
    simp only [openFrom]
    by_cases h : x = true
    · simp [h]
    · simp [h]
end Go.Proofs.Ytdkabbjknclifaa.Pure
end
section
namespace Go.Proofs.Ytdkabbjknclifaa.Pure
open Go.RowKit Go.Proofs.Ytdkabbjknclifaa.F Go.Proofs.YtdkabbjknclifaaW.PrintWords Go.Proofs.YtdkabbjknclifaaW.PrintLast
set_option linter.unusedVariables false
set_option linter.unusedSimpArgs false
theorem miss_of (b : Bool) (l : List Bool) : missOf (contactsOf b l) = miss b l := by
  unfold missOf contactsOf miss
  rw [List.foldl_cons, miss_landings]
  unfold missStep
  split <;> simp
end Go.Proofs.Ytdkabbjknclifaa.Pure
end
section
namespace Go.Proofs.Ytdkabbjknclifaa.Pure
open Go.RowKit Go.Proofs.Ytdkabbjknclifaa.F Go.Proofs.YtdkabbjknclifaaW.PrintWords Go.Proofs.YtdkabbjknclifaaW.PrintLast
set_option linter.unusedVariables false
set_option linter.unusedSimpArgs false
theorem lock_missing {l : List Bool} (hl : l.length ≤ 1000) (b : Bool) : lock_Missing.f b l = some (if chk b l = 0 then (miss b l, 0) else ([], chk b l)) := by
  unfold lock_Missing.f
  obtain ⟨F, hF⟩ : ∃ F, F = 4096 := ⟨_, rfl⟩
  rw [← hF, lock_check hl b (by omega)]
  simp only [Option.bind_some]
  by_cases h : chk b l = 0
  · rw [if_pos h, if_pos (chk_zero h).2.1, if_pos h, miss_of]
  · rw [if_neg h, if_neg h]
end Go.Proofs.Ytdkabbjknclifaa.Pure
end
section
namespace Go.Proofs.Ytdkabbjknclifaa.Pure
open Go.RowKit Go.Proofs.Ytdkabbjknclifaa.F Go.Proofs.YtdkabbjknclifaaW.PrintWords Go.Proofs.YtdkabbjknclifaaW.PrintLast
set_option linter.unusedVariables false
set_option linter.unusedSimpArgs false
theorem lock_may {l : List Bool} (hl : l.length ≤ 1000) (b : Bool) : lock_May.f b l = some (if chk b l = 0 then (((miss b l).length : Int) == 0, 0) else (false, chk b l)) := by
  unfold lock_May.f
  rw [lock_missing hl b]
  simp only [Option.bind_some]
  by_cases h : chk b l = 0
  · simp only [h, if_true]
  · simp only [h, if_false]
end Go.Proofs.Ytdkabbjknclifaa.Pure
end
section
namespace Go.Proofs.Ytdkabbjknclifaa.Pure
open Go.RowKit Go.Proofs.Ytdkabbjknclifaa.F Go.Proofs.YtdkabbjknclifaaW.PrintWords Go.Proofs.YtdkabbjknclifaaW.PrintLast
set_option linter.unusedVariables false
set_option linter.unusedSimpArgs false
def opn (b : Bool) (l : List Bool) : Int × Int := if chk b l = 0 then (if (miss b l).length = 0 then (0, 6) else (rd (miss b l) 0, 0)) else (0, chk b l)
end Go.Proofs.Ytdkabbjknclifaa.Pure
end
section
namespace Go.Proofs.Ytdkabbjknclifaa.Pure
open Go.RowKit Go.Proofs.Ytdkabbjknclifaa.F Go.Proofs.YtdkabbjknclifaaW.PrintWords Go.Proofs.YtdkabbjknclifaaW.PrintLast
set_option linter.unusedVariables false
set_option linter.unusedSimpArgs false
theorem lock_open {l : List Bool} (hl : l.length ≤ 1000) (b : Bool) {k : Nat} (hk : 1 ≤ k) : lock_Open.f k b l = some (opn b l) := by
  obtain ⟨k, rfl⟩ : ∃ j, k = j + 1 := ⟨k - 1, by omega⟩
  unfold lock_Open.f opn
  rw [lock_missing hl b]
  simp only [Option.bind_some]
  by_cases h : chk b l = 0
  · simp only [h, if_true]
    simp only [lock_Open.j0]
    by_cases hm : (miss b l).length = 0
    · rw [if_pos (by simpa using hm), if_neg (by decide), if_pos hm]
    · rw [if_neg (by simpa using hm), if_pos trivial, if_pos (by omega), if_neg hm]
  · simp only [h, if_false]
    simp only [lock_Open.j0, h, if_false]
    rfl
end Go.Proofs.Ytdkabbjknclifaa.Pure
end
section
namespace Go.Proofs.Ytdkabbjknclifaa.Pure
open Go.RowKit Go.Proofs.Ytdkabbjknclifaa.F Go.Proofs.YtdkabbjknclifaaW.PrintWords Go.Proofs.YtdkabbjknclifaaW.PrintLast
set_option linter.unusedVariables false
set_option linter.unusedSimpArgs false
theorem lock_new (n : Int) : lock_New.f n = some (new n) := by
  unfold lock_New.f new
  by_cases h1 : n < 2
  · rw [if_pos h1, if_pos h1]
  · rw [if_neg h1, if_neg h1]
    by_cases h2 : n > 64
    · rw [if_pos h2, if_pos h2]
    · rw [if_neg h2, if_neg h2]
      unfold slices_Repeat_bool_bool.f
      rw [if_pos rfl, if_pos (by omega), if_pos (by omega)]
      rfl
end Go.Proofs.Ytdkabbjknclifaa.Pure
end
section
namespace Go.Proofs.Ytdkabbjknclifaa.Pure
open Go.RowKit Go.Proofs.Ytdkabbjknclifaa.F Go.Proofs.YtdkabbjknclifaaW.PrintWords Go.Proofs.YtdkabbjknclifaaW.PrintLast
set_option linter.unusedVariables false
set_option linter.unusedSimpArgs false
def unl (b : Bool) (l : List Bool) (n : Int) : Bool × List Bool × Int :=
  if chk b l = 0 then (if n < 0 then (false, [], 2) else if (l.length : Int) ≤ n then (false, [], 2) else if (miss b l).length = 0 then (false, l.set n.toNat false, 0) else (false, [], 9)) else (false, [], chk b l)
end Go.Proofs.Ytdkabbjknclifaa.Pure
end
section
namespace Go.Proofs.Ytdkabbjknclifaa.Pure
open Go.RowKit Go.Proofs.Ytdkabbjknclifaa.F Go.Proofs.YtdkabbjknclifaaW.PrintWords Go.Proofs.YtdkabbjknclifaaW.PrintLast
set_option linter.unusedVariables false
set_option linter.unusedSimpArgs false
theorem lock_unlock {l : List Bool} (hl : l.length ≤ 1000) (b : Bool) (n : Int) : lock_Unlock.f b l n = some (unl b l n) := by
  unfold lock_Unlock.f unl
  obtain ⟨F, hF⟩ : ∃ F, F = 4096 := ⟨_, rfl⟩
  rw [← hF, lock_check hl b (by omega)]
  simp only [Option.bind_some]
  by_cases h : chk b l = 0
  · rw [if_pos h, if_pos h]
    by_cases h1 : n < 0
    · rw [if_pos h1, if_pos h1]
    · rw [if_neg h1, if_neg h1]
      by_cases h2 : (l.length : Int) ≤ n
      · rw [if_pos h2, if_pos h2]
      · rw [if_neg h2, if_neg h2, if_pos (chk_zero h).2.1, miss_of]
        split <;> rfl
  · rw [if_neg h, if_neg h]
end Go.Proofs.Ytdkabbjknclifaa.Pure
end
section
namespace Go.Proofs.Ytdkabbjknclifaa.Pure
open Go.RowKit Go.Proofs.Ytdkabbjknclifaa.F Go.Proofs.YtdkabbjknclifaaW.PrintWords Go.Proofs.YtdkabbjknclifaaW.PrintLast
set_option linter.unusedVariables false
set_option linter.unusedSimpArgs false
def lck (b : Bool) (l : List Bool) : Bool × List Bool × Int := if chk b l = 0 then new l.length else (false, [], chk b l)
end Go.Proofs.Ytdkabbjknclifaa.Pure
end
section
namespace Go.Proofs.Ytdkabbjknclifaa.Pure
open Go.RowKit Go.Proofs.Ytdkabbjknclifaa.F Go.Proofs.YtdkabbjknclifaaW.PrintWords Go.Proofs.YtdkabbjknclifaaW.PrintLast
set_option linter.unusedVariables false
set_option linter.unusedSimpArgs false
theorem lock_lock {l : List Bool} (hl : l.length ≤ 1000) (b : Bool) {k : Nat} (hk : l.length + 3 ≤ k) : lock_Lock.f k b l = some (lck b l) := by
  unfold lock_Lock.f lck
  rw [lock_check hl b hk, lock_new]
  simp only [Option.bind_some]
  split <;> rfl
end Go.Proofs.Ytdkabbjknclifaa.Pure
end
section
namespace Go.Proofs.Ytdkabbjknclifaa.Pure
open Go.RowKit Go.Proofs.Ytdkabbjknclifaa.F Go.Proofs.YtdkabbjknclifaaW.PrintWords Go.Proofs.YtdkabbjknclifaaW.PrintLast
set_option linter.unusedVariables false
set_option linter.unusedSimpArgs false
theorem index_l0 {l : List Bool} (hl : l.length ≤ 1000) : ∀ (d k i : Nat), i + d = l.length → d + 1 ≤ k →
    slices_Index_bool_bool.l0 k l false (l.length : Int) (i : Int) = some ((openFrom i (l.drop i)).head?.getD (-1))
  | 0, k, i, hi, hk => by
    obtain ⟨k, rfl⟩ : ∃ j, k = j + 1 := ⟨k - 1, by omega⟩
    obtain rfl : i = l.length := by omega
    simp only [slices_Index_bool_bool.l0]
    rw [if_neg (by omega), List.drop_length]
    simp [openFrom]
  | d + 1, k, i, hi, hk => by
    obtain ⟨k, rfl⟩ : ∃ j, k = j + 1 := ⟨k - 1, by omega⟩
    simp only [slices_Index_bool_bool.l0]
    rw [if_pos (by omega), if_pos (by omega), if_pos (by omega), rd_drop (d := false) (show i < l.length by omega), w64n (by omega)]
    by_cases h : rdOf false l (i : Int) = true
    · rw [if_neg (by rw [h]; decide), index_l0 hl d k (i + 1) (by omega) (by omega)]
      simp only [openFrom, if_pos h]
    · rw [if_pos (by rw [Bool.not_eq_true] at h; rw [h]; rfl)]
      simp only [openFrom, if_neg h, List.head?_cons, Option.getD_some]
end Go.Proofs.Ytdkabbjknclifaa.Pure
end
section
namespace Go.Proofs.Ytdkabbjknclifaa.Pure
open Go.RowKit Go.Proofs.Ytdkabbjknclifaa.F Go.Proofs.YtdkabbjknclifaaW.PrintWords Go.Proofs.YtdkabbjknclifaaW.PrintLast
set_option linter.unusedVariables false
set_option linter.unusedSimpArgs false
def slm (b : Bool) (l : List Bool) : Bool × List Bool × Int × Int :=
  if chk b l = 0 then (if (openFrom 0 l).length = 0 then (false, [], 0, 6) else (b, l.set ((openFrom 0 l).head?.getD (-1)).toNat true, (openFrom 0 l).head?.getD (-1), 0)) else (false, [], 0, chk b l)
end Go.Proofs.Ytdkabbjknclifaa.Pure
end
section
namespace Go.Proofs.Ytdkabbjknclifaa.Pure
open Go.RowKit Go.Proofs.Ytdkabbjknclifaa.F Go.Proofs.YtdkabbjknclifaaW.PrintWords Go.Proofs.YtdkabbjknclifaaW.PrintLast
set_option linter.unusedVariables false
set_option linter.unusedSimpArgs false
theorem open_head {l : List Bool} (h : ¬ (openFrom 0 l).length = 0) : 0 ≤ (openFrom 0 l).head?.getD (-1) ∧ (openFrom 0 l).head?.getD (-1) < (l.length : Int) := by
  cases hx : openFrom 0 l with
  | nil => rw [hx] at h; simp at h
  | cons x r =>
    have := openFrom_mem l 0 x (by rw [hx]; simp)
    simp
    omega
end Go.Proofs.Ytdkabbjknclifaa.Pure
end
section
namespace Go.Proofs.Ytdkabbjknclifaa.Pure
open Go.RowKit Go.Proofs.Ytdkabbjknclifaa.F Go.Proofs.YtdkabbjknclifaaW.PrintWords Go.Proofs.YtdkabbjknclifaaW.PrintLast
set_option linter.unusedVariables false
set_option linter.unusedSimpArgs false
theorem lock_slam {l : List Bool} (hl : l.length ≤ 1000) (b : Bool) : lock_Slam.f b l = some (slm b l) := by
  unfold lock_Slam.f slm
  obtain ⟨F, hF⟩ : ∃ F, F = 4096 := ⟨_, rfl⟩
  rw [← hF, lock_check hl b (by omega)]
  simp only [Option.bind_some]
  by_cases h : chk b l = 0
  · rw [if_pos h, if_pos h]
    have hi := index_l0 hl l.length F 0 (by omega) (by omega)
    unfold slices_Index_bool_bool.f
    rw [List.drop_zero] at hi
    rw [show ((0 : Int)) = ((0 : Nat) : Int) from rfl, hi]
    simp only [Option.bind_some]
    by_cases h1 : (openFrom 0 l).length = 0
    · rw [if_pos h1, List.eq_nil_of_length_eq_zero h1]
      simp
    · have := open_head h1
      rw [if_neg h1, if_neg (by omega), if_pos (chk_zero h).2.1, if_pos this.2]
  · rw [if_neg h, if_neg h]
end Go.Proofs.Ytdkabbjknclifaa.Pure
end
section
namespace Go.Proofs.Ytdkabbjknclifaa.Pure
open Go.RowKit Go.Proofs.Ytdkabbjknclifaa.F Go.Proofs.YtdkabbjknclifaaW.PrintWords Go.Proofs.YtdkabbjknclifaaW.PrintLast
set_option linter.unusedVariables false
theorem awake_true : L17_awake.f = some true := by kernel_rfl
end Go.Proofs.Ytdkabbjknclifaa.Pure
end
section
namespace Go.Proofs.Ytdkabbjknclifaa.Pure
open Go.RowKit Go.Proofs.Ytdkabbjknclifaa.F Go.Proofs.YtdkabbjknclifaaW.PrintWords Go.Proofs.YtdkabbjknclifaaW.PrintLast
set_option linter.unusedVariables false
theorem mod_f (a : Int) {m : Int} (h1 : 1 ≤ m) (h2 : m ≤ 1000) : ∃ r, K_Mod.f a m = some r ∧ 0 ≤ r ∧ r < m := by
  unfold K_Mod.f
  rw [if_neg (by omega), if_neg (by omega)]
  have hlt := Int.tmod_lt_of_pos a (show 0 < m by omega)
  have hgt := Int.lt_tmod_of_pos a (show 0 < m by omega)
  split
  · refine ⟨_, rfl, ?_, ?_⟩
    · rw [w64s (by omega) (by omega)]; omega
    · rw [w64s (by omega) (by omega)]; omega
  · exact ⟨_, rfl, by omega, by omega⟩
end Go.Proofs.Ytdkabbjknclifaa.Pure
end
section
namespace Go.Proofs.Ytdkabbjknclifaa.Pure
open Go.RowKit Go.Proofs.Ytdkabbjknclifaa.F Go.Proofs.YtdkabbjknclifaaW.PrintWords Go.Proofs.YtdkabbjknclifaaW.PrintLast
set_option linter.unusedVariables false
theorem open_rep : ∀ (n i : Nat), openFrom i (List.replicate n true) = []
  | 0, _ => rfl
  | n + 1, i => by simp only [List.replicate_succ, openFrom, if_true]; exact open_rep n (i + 1)
end Go.Proofs.Ytdkabbjknclifaa.Pure
end
section
namespace Go.Proofs.Ytdkabbjknclifaa.Pure
open Go.RowKit Go.Proofs.Ytdkabbjknclifaa.F Go.Proofs.YtdkabbjknclifaaW.PrintWords Go.Proofs.YtdkabbjknclifaaW.PrintLast
set_option linter.unusedVariables false
theorem open_set : ∀ (n i j : Nat), j < n → openFrom i ((List.replicate n true).set j false) = [((i + j : Nat) : Int)]
  | 0, _, _, h => by omega
  | n + 1, i, 0, _ => by simp only [List.replicate_succ, List.set_cons_zero, openFrom]; rw [if_neg (by decide), open_rep]; simp
  | n + 1, i, j + 1, h => by
    simp only [List.replicate_succ, List.set_cons_succ, openFrom, if_true]
    rw [open_set n (i + 1) j (by omega)]
    congr 2; omega
end Go.Proofs.Ytdkabbjknclifaa.Pure
end
section
namespace Go.Proofs.Ytdkabbjknclifaa.Pure
open Go.RowKit Go.Proofs.Ytdkabbjknclifaa.F Go.Proofs.YtdkabbjknclifaaW.PrintWords Go.Proofs.YtdkabbjknclifaaW.PrintLast
set_option linter.unusedVariables false
theorem set_back (n j : Nat) (h : j < n) : ((List.replicate n true).set j false).set j true = List.replicate n true := by
  apply List.ext_getElem?
  intro i
  simp only [List.getElem?_set, List.getElem?_replicate, List.length_set, List.length_replicate]
  by_cases e : j = i
  · subst e; simp [h]
  · simp [e]
end Go.Proofs.Ytdkabbjknclifaa.Pure
end
section
namespace Go.Proofs.Ytdkabbjknclifaa.Pure
open Go.RowKit Go.Proofs.Ytdkabbjknclifaa.F Go.Proofs.YtdkabbjknclifaaW.PrintWords Go.Proofs.YtdkabbjknclifaaW.PrintLast
set_option linter.unusedVariables false
/-- A closed chain; an open landing; slammed. -/
inductive St (n : Nat) : Bool → List Bool → Prop
  | closed : St n true (List.replicate n true)
  | opened (j : Nat) (h : j < n) : St n false ((List.replicate n true).set j false)
  | slammed : St n false (List.replicate n true)
end Go.Proofs.Ytdkabbjknclifaa.Pure
end
section
namespace Go.Proofs.Ytdkabbjknclifaa.Pure
open Go.RowKit Go.Proofs.Ytdkabbjknclifaa.F Go.Proofs.YtdkabbjknclifaaW.PrintWords Go.Proofs.YtdkabbjknclifaaW.PrintLast
set_option linter.unusedVariables false
theorem St.len {n : Nat} {b : Bool} {l : List Bool} (h : St n b l) : l.length = n := by cases h <;> simp
end Go.Proofs.Ytdkabbjknclifaa.Pure
end
section
namespace Go.Proofs.Ytdkabbjknclifaa.Pure
open Go.RowKit Go.Proofs.Ytdkabbjknclifaa.F Go.Proofs.YtdkabbjknclifaaW.PrintWords Go.Proofs.YtdkabbjknclifaaW.PrintLast
set_option linter.unusedVariables false
theorem St.chk {n : Nat} (h1 : 2 ≤ n) (h2 : n ≤ 64) {b : Bool} {l : List Bool} (h : St n b l) : chk b l = 0 := by
  have hl := h.len
  cases h with
  | closed => exact chk_ok (by omega) (by omega) (.inl (by rw [open_rep]; rfl))
  | opened j hj => exact chk_ok (by omega) (by omega) (.inr ⟨by rw [open_set _ _ _ hj]; rfl, rfl⟩)
  | slammed => exact chk_ok (by omega) (by omega) (.inl (by rw [open_rep]; rfl))
end Go.Proofs.Ytdkabbjknclifaa.Pure
end
section
namespace Go.Proofs.Ytdkabbjknclifaa.Pure
open Go.RowKit Go.Proofs.Ytdkabbjknclifaa.F Go.Proofs.YtdkabbjknclifaaW.PrintWords Go.Proofs.YtdkabbjknclifaaW.PrintLast
set_option linter.unusedVariables false
theorem new_ok {n : Nat} (h1 : 2 ≤ n) (h2 : n ≤ 64) : new (n : Int) = (true, List.replicate n true, 0) := by
  unfold new
  rw [if_neg (by omega), if_neg (by omega)]
  rfl
end Go.Proofs.Ytdkabbjknclifaa.Pure
end
section
namespace Go.Proofs.Ytdkabbjknclifaa.Pure
open Go.RowKit Go.Proofs.Ytdkabbjknclifaa.F Go.Proofs.YtdkabbjknclifaaW.PrintWords Go.Proofs.YtdkabbjknclifaaW.PrintLast
set_option linter.unusedVariables false
theorem slm_opened {n j : Nat} (h1 : 2 ≤ n) (h2 : n ≤ 64) (hj : j < n) : slm false ((List.replicate n true).set j false) = (false, List.replicate n true, (j : Int), 0) := by
  unfold slm
  rw [if_pos (St.chk h1 h2 (.opened j hj)), open_set _ _ _ hj, if_neg (by simp)]
  simp [set_back n j hj]
end Go.Proofs.Ytdkabbjknclifaa.Pure
end
section
namespace Go.Proofs.Ytdkabbjknclifaa.Pure
open Go.RowKit Go.Proofs.Ytdkabbjknclifaa.F Go.Proofs.YtdkabbjknclifaaW.PrintWords Go.Proofs.YtdkabbjknclifaaW.PrintLast
set_option linter.unusedVariables false
theorem lck_any {n : Nat} (h1 : 2 ≤ n) (h2 : n ≤ 64) {b : Bool} {l : List Bool} (h : St n b l) : lck b l = (true, List.replicate n true, 0) := by
  unfold lck
  rw [if_pos (h.chk h1 h2), h.len, new_ok h1 h2]
end Go.Proofs.Ytdkabbjknclifaa.Pure
end
section
namespace Go.Proofs.Ytdkabbjknclifaa.Pure
open Go.RowKit Go.Proofs.Ytdkabbjknclifaa.F Go.Proofs.YtdkabbjknclifaaW.PrintWords Go.Proofs.YtdkabbjknclifaaW.PrintLast
set_option linter.unusedVariables false
theorem unl_any {n : Nat} (h1 : 2 ≤ n) (h2 : n ≤ 64) {b : Bool} {l : List Bool} (h : St n b l) (x : Int) (h0 : (unl b l x).2.2 = 0) : St n (unl b l x).1 (unl b l x).2.1 := by
  have hc := h.chk h1 h2
  have hl := h.len
  unfold unl at h0 ⊢
  rw [if_pos hc] at h0 ⊢
  by_cases c1 : x < 0
  · rw [if_pos c1] at h0; cases h0
  · rw [if_neg c1] at h0 ⊢
    by_cases c2 : (l.length : Int) ≤ x
    · rw [if_pos c2] at h0; cases h0
    · rw [if_neg c2] at h0 ⊢
      by_cases c3 : (miss b l).length = 0
      · rw [if_pos c3]
        cases h with
        | closed => exact .opened x.toNat (by simp at c2; omega)
        | opened j hj => simp [miss] at c3
        | slammed => simp [miss] at c3
      · rw [if_neg c3] at h0; cases h0
end Go.Proofs.Ytdkabbjknclifaa.Pure
end
section
namespace Go.Proofs.Ytdkabbjknclifaa.Pure
open Go.RowKit Go.Proofs.Ytdkabbjknclifaa.F Go.Proofs.YtdkabbjknclifaaW.PrintWords Go.Proofs.YtdkabbjknclifaaW.PrintLast
set_option linter.unusedVariables false
theorem slm_any {n : Nat} (h1 : 2 ≤ n) (h2 : n ≤ 64) {b : Bool} {l : List Bool} (h : St n b l) (h0 : (slm b l).2.2.2 = 0) : St n (slm b l).1 (slm b l).2.1 := by
  cases h with
  | closed => unfold slm at h0; rw [if_pos (St.chk h1 h2 .closed), open_rep] at h0; simp at h0
  | opened j hj => rw [slm_opened h1 h2 hj]; exact .slammed
  | slammed => unfold slm at h0; rw [if_pos (St.chk h1 h2 .slammed), open_rep] at h0; simp at h0
end Go.Proofs.Ytdkabbjknclifaa.Pure
end
section
namespace Go.Proofs.Ytdkabbjknclifaa.Pure
open Go.RowKit Go.Proofs.Ytdkabbjknclifaa.F Go.Proofs.YtdkabbjknclifaaW.PrintWords Go.Proofs.YtdkabbjknclifaaW.PrintLast
set_option linter.unusedVariables false
theorem valid_j3 {n : Nat} (h1 : 2 ≤ n) (h2 : n ≤ 64) {b : Bool} {l : List Bool} (h : St n b l) (S : List Int) {i : Nat} (hi : i ≤ 100) {k : Nat} (hk : 200 ≤ k) :
    L17_LockValid.j3 (k + 1) S (n : Int) (i : Int) b l = L17_LockValid.l0 k S (n : Int) ((i + 1 : Nat) : Int) b l := by
  have hc := h.chk h1 h2
  have hl := h.len
  simp only [L17_LockValid.j3]
  rw [lock_may (by omega), lock_missing (by omega), lock_open (by omega) _ (by omega), lock_check (by omega) _ (by omega), if_pos hc, if_pos hc, hc]
  simp only [Option.bind_some, if_true]
  rw [if_neg (by simp), w64n (by omega)]
  unfold opn
  rw [if_pos hc]
  by_cases hm : (miss b l).length = 0
  · rw [if_pos hm, if_neg (by simp [hm]), if_pos (by simp [hm])]
  · have e : (((miss b l).length : Int) == 0) = false := beq_eq_false_iff_ne.mpr (by omega)
    rw [if_neg hm, e, if_neg (by simp), if_neg (by decide), if_pos rfl]
end Go.Proofs.Ytdkabbjknclifaa.Pure
end
section
namespace Go.Proofs.Ytdkabbjknclifaa.Pure
open Go.RowKit Go.Proofs.Ytdkabbjknclifaa.F Go.Proofs.YtdkabbjknclifaaW.PrintWords Go.Proofs.YtdkabbjknclifaaW.PrintLast
set_option linter.unusedVariables false
theorem valid_j2 {n : Nat} (h1 : 2 ≤ n) (h2 : n ≤ 64) {b b' : Bool} {l l' : List Bool} (h : St n b l) (e : Int) (h' : e = 0 → St n b' l') (S : List Int) {i : Nat} (hi : i ≤ 100) {k : Nat} (hk : 200 ≤ k)
    (ih : ∀ b l, St n b l → L17_LockValid.l0 k S (n : Int) ((i + 1 : Nat) : Int) b l = some true) :
    L17_LockValid.j2 (k + 2) S (n : Int) e (i : Int) b l b' l' = some true := by
  simp only [L17_LockValid.j2]
  by_cases he : e = 0
  · rw [if_pos he, valid_j3 h1 h2 (h' he) S hi hk]; exact ih _ _ (h' he)
  · rw [if_neg he, valid_j3 h1 h2 h S hi hk]; exact ih _ _ h
end Go.Proofs.Ytdkabbjknclifaa.Pure
end
section
namespace Go.Proofs.Ytdkabbjknclifaa.Pure
open Go.RowKit Go.Proofs.Ytdkabbjknclifaa.F Go.Proofs.YtdkabbjknclifaaW.PrintWords Go.Proofs.YtdkabbjknclifaaW.PrintLast
set_option linter.unusedVariables false
theorem valid_l0 {n : Nat} (h1 : 2 ≤ n) (h2 : n ≤ 64) (S : List Int) : ∀ (d i : Nat) (k : Nat) (b : Bool) (l : List Bool), St n b l → i + d = 30 → 4 * d + 210 ≤ k → L17_LockValid.l0 k S (n : Int) (i : Int) b l = some true
  | 0, i, k, b, l, h, hd, hk => by
    obtain ⟨k, rfl⟩ : ∃ j, k = j + 2 := ⟨k - 2, by omega⟩
    have e : decide ((i : Int) < 30) = false := decide_eq_false (by omega)
    simp only [L17_LockValid.l0, L17_LockValid.j1]
    rw [e]
    split
    · rw [if_neg (by decide), awake_true]; rfl
    · rw [if_neg (by decide), awake_true]; rfl
  | d + 1, i, k, b, l, h, hd, hk => by
    obtain ⟨k, rfl⟩ : ∃ j, k = j + 4 := ⟨k - 4, by omega⟩
    have ih : ∀ b l, St n b l → L17_LockValid.l0 k S (n : Int) ((i + 1 : Nat) : Int) b l = some true := fun b l h => valid_l0 h1 h2 S d (i + 1) k b l h (by omega) (by omega)
    have hl := h.len
    have e : decide ((i : Int) < 30) = true := decide_eq_true (by omega)
    simp only [L17_LockValid.l0, L17_LockValid.j1]
    rw [e]
    by_cases hs : (i : Int) < (S.length : Int)
    · rw [if_pos hs, if_pos rfl, if_pos (by omega), if_pos hs]
      rw [w64s (x := 3 * (n : Int)) (by omega) (by omega)]
      obtain ⟨t, ht, ht0, ht1⟩ := mod_f (rd S i) (m := 3 * (n : Int)) (by omega) (by omega)
      rw [ht]
      simp only [Option.bind_some]
      split
      · rw [lock_unlock (by omega)]
        simp only [Option.bind_some]
        exact valid_j2 h1 h2 h _ (unl_any h1 h2 h _) S (by omega) (by omega) ih
      · split
        · rw [lock_lock (by omega) _ (by omega), lck_any h1 h2 h]
          simp only [Option.bind_some]
          exact valid_j2 h1 h2 h _ (fun _ => .closed) S (by omega) (by omega) ih
        · rw [lock_slam (by omega)]
          simp only [Option.bind_some]
          exact valid_j2 h1 h2 h _ (slm_any h1 h2 h) S (by omega) (by omega) ih
    · rw [if_neg hs, if_neg (by decide), awake_true]; rfl
end Go.Proofs.Ytdkabbjknclifaa.Pure
end
section
namespace Go.Proofs.Ytdkabbjknclifaa.Pure
open Go.RowKit Go.Proofs.Ytdkabbjknclifaa.F Go.Proofs.YtdkabbjknclifaaW.PrintWords Go.Proofs.YtdkabbjknclifaaW.PrintLast
set_option linter.unusedVariables false
theorem LockValid : L17_LockValid.Pure := by
  intro a S ha _ _ _
  obtain ⟨k, hk⟩ : ∃ k, 2000 ≤ k := ⟨2000, Nat.le_refl _⟩
  refine ⟨k, ?_⟩
  unfold L17_LockValid.f
  obtain ⟨r, hr, hr0, hr1⟩ := mod_f a (m := 10) (by decide) (by decide)
  rw [hr]
  simp only [Option.bind_some]
  rw [w64s (x := 2 + r) (by omega) (by omega)]
  obtain ⟨n, hn⟩ : ∃ n : Nat, 2 + r = n := ⟨(2 + r).toNat, by omega⟩
  rw [hn, lock_new, new_ok (by omega) (by omega)]
  simp only [Option.bind_some, if_true]
  exact valid_l0 (by omega) (by omega) S 30 0 k _ _ .closed (by omega) (by omega)
end Go.Proofs.Ytdkabbjknclifaa.Pure
end
section
/- The statement LockValid holds: the law's function answers true at every input, and the input reads as it did. No condition. (Written by fork.py over the kit's print.) -/
namespace Go.Proofs.Ytdkabbjknclifaa.lockValid
open Go.ChangeShapes Go.WideShapes Go.ChangeAt Go.RowKit
open Go.ChangeMaps (open_string shut_string)
set_option linter.unusedVariables false
theorem own : ownKnob Try.prog.godebug = none := by kernel_rfl
theorem laidOut : laidOutB Try.prog = true := by kernel_rfl
def IsRow (k : IntKind) (w : World) (a : Option Addr) (len cap : Nat) (zs : List Int) : Prop :=
  (a = none ∧ len = 0 ∧ cap = 0 ∧ zs = []) ∨
  ∃ x, a = some x ∧ len ≤ cap ∧ cap ≤ maxLen ∧ zs.length = cap ∧ (∀ i, i < zs.length → w.cell? (x.add i) = some (.int k (zs.getD i 0))) ∧ ∀ n ∈ zs, (Lit.int k n).wf = true
set_option maxRecDepth 100000 in
theorem lifted (os : Os) (started : os.Started) (H : Type) (enc : TypeId × Value → H) :
    ReturnsInHanded {} Try.checked os 7 .any (Rows.lockValidSpec.pre6 enc Try.prog Try.f7 Rows.lockValidRow.domain false) (Rows.lockValidSpec.post enc Try.prog Try.f7 false true false false) := by
  refine returnsInHanded_of_change_sized (C := Try.checked) own started (by kernel_rfl) Try.func7
    (ChangeSpec.witness6 (enc := enc) (C := Try.checked) false ⟨#[], #[.int .i64 0, .slice none 0 0], []⟩ 8 (by kernel_rfl) (by kernel_rfl) (by kernel_rfl) (by kernel_rfl)) ?_
  intro W base args ds gs before hval0 hW hcnd hsz0 _
  have hsz : (DataW.weightsEach Try.prog (Try.f7.params.toList ++ Rows.lockValidSpec.plain.varTypes Try.prog) (ds ++ gs)).all (· ≤ reachBytes) = true := hsz0
  have hval : ∀ (j : Nat) t v, Try.f7.params[j]? = some t → args[j]? = some v → Value.okWide Try.prog W .any base t v := hval0
  have hW' := hW
  obtain ⟨p, q, hA0, hV, rfl, hfz, hnd⟩ := hW
  have hA : DataW.TrodAll enc Try.prog W 0 (fun _ => true) true Try.f7.params.toList args.toList ds p := hA0
  rw [Try.params7] at hA hval hsz
  obtain ⟨v0, vs0, d0, ds0, p0, q0, hargs, rfl, rfl, h0, r0⟩ := trodAll_cons hA
  obtain ⟨v1, vs1, d1, ds1, p1, q1, rfl, rfl, rfl, h1, r1⟩ := trodAll_cons r0
  obtain ⟨rfl, rfl, rfl⟩ := trodAll_nil r1
  obtain rfl : args = #[v0, v1] := by cases args; simp_all
  obtain ⟨rfl, rfl⟩ := trodVars_none hV
  obtain ⟨a0, rfl, rfl, rfl, w0⟩ := open_int Try.underlying3 (hval 0 3 v0 rfl rfl) h0
  obtain ⟨a1, len1, cap1, rfl⟩ := okWide_slice Try.underlying35 (hval 1 35 v1 rfl rfl)
  have k1 := h1
  have lt1 : ∀ x ∈ p1, x.block < W.heap.size := by obtain ⟨m, hm⟩ := k1; exact DataW.trod_lt m _ _ _ hm
  obtain ⟨z1, w1⟩ : ∃ zs, IsRow .i64 W a1 len1 cap1 zs := by
    obtain ⟨fuel, hf⟩ := h1
    rcases open_ints Try.underlying35 Try.underlying3 (by kernel_rfl) hf with ⟨hcs, _⟩ | ⟨x, l, c, zs, hcs, _, hl, hm, hz, _, hcell, hwz⟩
    · simp [Value.cells] at hcs
      obtain ⟨rfl, rfl, rfl⟩ := hcs
      exact ⟨[], .inl ⟨rfl, rfl, rfl, rfl⟩⟩
    · simp [Value.cells] at hcs
      obtain ⟨rfl, rfl, rfl⟩ := hcs
      exact ⟨zs, .inr ⟨_, rfl, hl, hm, by simpa using hz, hcell, hwz⟩⟩
  have y1 : len1 * 8 ≤ 140737488351232 := Go.Proofs.YtdkabbjknclifaaW.PrintWords.sized_ints hsz (j := 1) (t := 35) rfl rfl Try.underlying35 Try.underlying3 (by kernel_rfl) (by kernel_rfl) h1
  clear hA0 hval0 hsz0 hsz
  refine (F.L17_LockValid.walk Pure.LockValid a0 a1 len1 cap1 z1 W w0 w1 y1).mono fun e W' ⟨he, bel⟩ => ?_
  subst he
  exact ⟨_, rfl, _, _, _, [], _, [], hW', trodAll_mk1 (shut_bool Try.underlying4 _), (trodAll_cons_mk (shut_int Try.underlying3 w0) (trodAll_cons_mk (Below.trod laidOut (by kernel_rfl) (of_decide_eq_true (by kernel_rfl)) k1 bel lt1) trodAll_mk0)), rfl, bel.frame _, fun h => by cases h⟩
theorem over : Rows.lockValidRow.holds Try.pinned (OpenSpec.ofChange Rows.lockValidSpec) :=
  OpenClaim.holds_of_wide 7 Try.f7 rfl rfl rfl rfl rfl rfl rfl ⟨rfl, rfl, rfl, rfl, rfl⟩ rfl rfl rfl rfl rfl (by kernel_rfl) Try.func7 (by show joinedFacts Try.prog 7 Try.f7 Rows.lockValidSpec Rows.lockValidRow = true; unfold joinedFacts; rw [may_enter, lifts_not, make_cut]; kernel_rfl)
    (of_decide_eq_true (by kernel_rfl)) (by unfold Func.isWrapper; first | (rw [if_pos (by decide +kernel)]; kernel_rfl) | (rw [if_neg (by decide +kernel)]; exact ⟨rfl, rfl⟩))
    (fun os started H enc _ => lifted os started H enc)
theorem proved : Rows.LockValidSaid := over
#print axioms proved
end Go.Proofs.Ytdkabbjknclifaa.lockValid
namespace Go.Proofs.Ytdkabbjknclifaa
/-- The row, under a short name, for the claim. -/
theorem lockValid_holds : Rows.LockValidSaid := lockValid.proved
end Go.Proofs.Ytdkabbjknclifaa
end
