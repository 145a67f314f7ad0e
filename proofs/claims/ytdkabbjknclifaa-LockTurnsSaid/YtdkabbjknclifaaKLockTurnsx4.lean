/- Part 4 of LockTurns: what the functions reckon, step by step, and plain laws. No condition. -/
import Derived.Test.YtdkabbjknclifaaKLockTurnsx3
section
-- Written by fork.py (this session's program over the kit's print.py). Not trusted: Lean checks it.
namespace Go.Proofs.Ytdkabbjknclifaa.F
open Go.RowKit Go.Proofs.YtdkabbjknclifaaW.PrintWords Go.Proofs.YtdkabbjknclifaaW.PrintLast Go.Proofs.YtdkabbjknclifaaW.PrintMore
attribute [local go_sem] max2_int min2_int max_two min_two max_three min_three max_four min_four
set_option linter.unusedVariables false
set_option linter.unusedSimpArgs false

/-! ### L17_LockTurns: function 5 -/
mutual
def L17_LockTurns.j0 : Nat → Int → Bool → Bool → List Bool → Bool → List Bool → Option (Bool)
  | 0, _, _, _, _, _, _ => none
  | k + 1, x1, x46, x349000, x349001, x355000, x355001 => if x46 = true then (some false) else ((lock_Unlock.f x355000 x355001 x1).bind fun bt370 => ((R17_Unlock.f k x349000 x349001 x1).bind fun bt375 => ((K_SameChain.f k bt370.1 bt370.2.1 bt375.1 bt375.2.1).bind fun t380 => (if t380 = true then (L17_LockTurns.j1 k (bt370.2.2 != bt375.2.2) x349000 x349001 x355000 x355001) else (L17_LockTurns.j1 k true x349000 x349001 x355000 x355001)))))
def L17_LockTurns.j1 : Nat → Bool → Bool → List Bool → Bool → List Bool → Option (Bool)
  | 0, _, _, _, _, _ => none
  | k + 1, x67, x349000, x349001, x355000, x355001 => if x67 = true then (some false) else ((lock_Lock.f k x355000 x355001).bind fun bt381 => ((R17_Lock.f k x349000 x349001).bind fun bt386 => ((K_SameChain.f k bt381.1 bt381.2.1 bt386.1 bt386.2.1).bind fun t391 => (if t391 = true then (L17_LockTurns.j2 k (bt381.2.2 != bt386.2.2) x349000 x349001 x355000 x355001) else (L17_LockTurns.j2 k true x349000 x349001 x355000 x355001)))))
def L17_LockTurns.j2 : Nat → Bool → Bool → List Bool → Bool → List Bool → Option (Bool)
  | 0, _, _, _, _, _ => none
  | k + 1, x86, x349000, x349001, x355000, x355001 => if x86 = true then (some false) else ((lock_Slam.f x355000 x355001).bind fun bt392 => ((R17_Slam.f k x349000 x349001).bind fun bt398 => ((K_SameChain.f k bt392.1 bt392.2.1 bt398.1 bt398.2.1).bind fun t404 => (if t404 = true then (if bt392.2.2.1 = bt398.2.2.1 then (if bt392.2.2.2 = bt398.2.2.2 then ((K_SameChain.f k x355000 x355001 x349000 x349001).bind fun t405 => (if t405 = true then ((L17_awake.f).bind fun t406 => (some t406)) else (some false))) else (some false)) else (some false)) else (some false)))))
end
def L17_LockTurns.f (k : Nat) (a0_0 : Bool) (l0_1 : List Bool) (a1 : Int) (a2 : Int) : Option (Bool) := if (l0_1.length : Int) > 70 then ((L17_awake.f).bind fun t349 => (some t349)) else ((K_OwnChain.f a0_0 l0_1).bind fun bt350 => ((lock_New.f a2).bind fun bt355 => ((R17_New.f k a2).bind fun bt361 => ((K_SameChain.f k bt355.1 bt355.2.1 bt361.1 bt361.2.1).bind fun t367 => (if t367 = true then (if bt355.2.2 = bt361.2.2 then ((lock_Check.f k bt350.1 bt350.2).bind fun t368 => ((R17_Check.f k a0_0 l0_1).bind fun t369 => (L17_LockTurns.j0 k a1 (t368 != t369) a0_0 l0_1 bt350.1 bt350.2))) else (L17_LockTurns.j0 k a1 true a0_0 l0_1 bt350.1 bt350.2)) else (L17_LockTurns.j0 k a1 true a0_0 l0_1 bt350.1 bt350.2))))))
theorem L17_LockTurns.mono_l : ∀ k, (∀ y0 y1 y2 y3 y4 y5, LeO (L17_LockTurns.j0 k y0 y1 y2 y3 y4 y5) (L17_LockTurns.j0 (k + 1) y0 y1 y2 y3 y4 y5)) ∧ (∀ y0 y1 y2 y3 y4, LeO (L17_LockTurns.j1 k y0 y1 y2 y3 y4) (L17_LockTurns.j1 (k + 1) y0 y1 y2 y3 y4)) ∧ (∀ y0 y1 y2 y3 y4, LeO (L17_LockTurns.j2 k y0 y1 y2 y3 y4) (L17_LockTurns.j2 (k + 1) y0 y1 y2 y3 y4))
  | 0 => ⟨fun _ _ _ _ _ _ r h => by simp [L17_LockTurns.j0] at h, fun _ _ _ _ _ r h => by simp [L17_LockTurns.j1] at h, fun _ _ _ _ _ r h => by simp [L17_LockTurns.j2] at h⟩
  | k + 1 => by
    obtain ⟨ih0, ih1, ih2⟩ := L17_LockTurns.mono_l k
    refine ⟨?_, ?_, ?_⟩
    · intro y0 y1 y2 y3 y4 y5
      unfold L17_LockTurns.j0
      repeat' first
      | (with_reducible exact ih0 _ _ _ _ _ _)
      | (with_reducible exact ih1 _ _ _ _ _)
      | (with_reducible exact ih2 _ _ _ _ _)
      | (with_reducible exact K_SameChain.mono _ _ _ _ _)
      | (with_reducible exact R17_Check.mono _ _ _)
      | (with_reducible exact R17_Lock.mono _ _ _)
      | (with_reducible exact R17_New.mono _ _)
      | (with_reducible exact R17_Slam.mono _ _ _)
      | (with_reducible exact R17_Unlock.mono _ _ _ _)
      | (with_reducible exact lock_Check.mono _ _ _)
      | (with_reducible exact lock_Lock.mono _ _ _)
      | (with_reducible exact LeO.refl _)
      | (with_reducible exact LeO.none _)
      | (with_reducible refine LeO.ite ?_ ?_)
      | (with_reducible refine LeO.bind ?_ (fun _ => ?_))
      | exact ih0 _ _ _ _ _ _
      | exact ih1 _ _ _ _ _
      | exact ih2 _ _ _ _ _
      | exact K_SameChain.mono _ _ _ _ _
      | exact R17_Check.mono _ _ _
      | exact R17_Lock.mono _ _ _
      | exact R17_New.mono _ _
      | exact R17_Slam.mono _ _ _
      | exact R17_Unlock.mono _ _ _ _
      | exact lock_Check.mono _ _ _
      | exact lock_Lock.mono _ _ _
      | exact LeO.none _
      | refine LeO.ite ?_ ?_
      | refine LeO.bind ?_ (fun _ => ?_)
    · intro y0 y1 y2 y3 y4
      unfold L17_LockTurns.j1
      repeat' first
      | (with_reducible exact ih0 _ _ _ _ _ _)
      | (with_reducible exact ih1 _ _ _ _ _)
      | (with_reducible exact ih2 _ _ _ _ _)
      | (with_reducible exact K_SameChain.mono _ _ _ _ _)
      | (with_reducible exact R17_Check.mono _ _ _)
      | (with_reducible exact R17_Lock.mono _ _ _)
      | (with_reducible exact R17_New.mono _ _)
      | (with_reducible exact R17_Slam.mono _ _ _)
      | (with_reducible exact R17_Unlock.mono _ _ _ _)
      | (with_reducible exact lock_Check.mono _ _ _)
      | (with_reducible exact lock_Lock.mono _ _ _)
      | (with_reducible exact LeO.refl _)
      | (with_reducible exact LeO.none _)
      | (with_reducible refine LeO.ite ?_ ?_)
      | (with_reducible refine LeO.bind ?_ (fun _ => ?_))
      | exact ih0 _ _ _ _ _ _
      | exact ih1 _ _ _ _ _
      | exact ih2 _ _ _ _ _
      | exact K_SameChain.mono _ _ _ _ _
      | exact R17_Check.mono _ _ _
      | exact R17_Lock.mono _ _ _
      | exact R17_New.mono _ _
      | exact R17_Slam.mono _ _ _
      | exact R17_Unlock.mono _ _ _ _
      | exact lock_Check.mono _ _ _
      | exact lock_Lock.mono _ _ _
      | exact LeO.none _
      | refine LeO.ite ?_ ?_
      | refine LeO.bind ?_ (fun _ => ?_)
    · intro y0 y1 y2 y3 y4
      unfold L17_LockTurns.j2
      repeat' first
      | (with_reducible exact ih0 _ _ _ _ _ _)
      | (with_reducible exact ih1 _ _ _ _ _)
      | (with_reducible exact ih2 _ _ _ _ _)
      | (with_reducible exact K_SameChain.mono _ _ _ _ _)
      | (with_reducible exact R17_Check.mono _ _ _)
      | (with_reducible exact R17_Lock.mono _ _ _)
      | (with_reducible exact R17_New.mono _ _)
      | (with_reducible exact R17_Slam.mono _ _ _)
      | (with_reducible exact R17_Unlock.mono _ _ _ _)
      | (with_reducible exact lock_Check.mono _ _ _)
      | (with_reducible exact lock_Lock.mono _ _ _)
      | (with_reducible exact LeO.refl _)
      | (with_reducible exact LeO.none _)
      | (with_reducible refine LeO.ite ?_ ?_)
      | (with_reducible refine LeO.bind ?_ (fun _ => ?_))
      | exact ih0 _ _ _ _ _ _
      | exact ih1 _ _ _ _ _
      | exact ih2 _ _ _ _ _
      | exact K_SameChain.mono _ _ _ _ _
      | exact R17_Check.mono _ _ _
      | exact R17_Lock.mono _ _ _
      | exact R17_New.mono _ _
      | exact R17_Slam.mono _ _ _
      | exact R17_Unlock.mono _ _ _ _
      | exact lock_Check.mono _ _ _
      | exact lock_Lock.mono _ _ _
      | exact LeO.none _
      | refine LeO.ite ?_ ?_
      | refine LeO.bind ?_ (fun _ => ?_)
theorem L17_LockTurns.mono : ∀ a0 a1 a2 a3 k, LeO (L17_LockTurns.f k a0 a1 a2 a3) (L17_LockTurns.f (k + 1) a0 a1 a2 a3) := by
  intro a0 a1 a2 a3 k
  obtain ⟨ih0, ih1, ih2⟩ := L17_LockTurns.mono_l k
  unfold L17_LockTurns.f
  repeat' first
      | (with_reducible exact ih0 _ _ _ _ _ _)
      | (with_reducible exact ih1 _ _ _ _ _)
      | (with_reducible exact ih2 _ _ _ _ _)
      | (with_reducible exact K_SameChain.mono _ _ _ _ _)
      | (with_reducible exact R17_Check.mono _ _ _)
      | (with_reducible exact R17_Lock.mono _ _ _)
      | (with_reducible exact R17_New.mono _ _)
      | (with_reducible exact R17_Slam.mono _ _ _)
      | (with_reducible exact R17_Unlock.mono _ _ _ _)
      | (with_reducible exact lock_Check.mono _ _ _)
      | (with_reducible exact lock_Lock.mono _ _ _)
      | (with_reducible exact LeO.refl _)
      | (with_reducible exact LeO.none _)
      | (with_reducible refine LeO.ite ?_ ?_)
      | (with_reducible refine LeO.bind ?_ (fun _ => ?_))
      | exact ih0 _ _ _ _ _ _
      | exact ih1 _ _ _ _ _
      | exact ih2 _ _ _ _ _
      | exact K_SameChain.mono _ _ _ _ _
      | exact R17_Check.mono _ _ _
      | exact R17_Lock.mono _ _ _
      | exact R17_New.mono _ _
      | exact R17_Slam.mono _ _ _
      | exact R17_Unlock.mono _ _ _ _
      | exact lock_Check.mono _ _ _
      | exact lock_Lock.mono _ _ _
      | exact LeO.none _
      | refine LeO.ite ?_ ?_
      | refine LeO.bind ?_ (fun _ => ?_)
theorem L17_LockTurns.j0_d46true (k : Nat) (x1 : Int) (x349000 : Bool) (x349001 : List Bool) (x355000 : Bool) (x355001 : List Bool) : L17_LockTurns.j0 k x1 true x349000 x349001 x355000 x355001 ≠ some true := by
  cases k with
  | zero => simp only [L17_LockTurns.j0]; exact never_none
  | succ k =>
    simp only [L17_LockTurns.j0]
    all_goals (try rw [if_pos rfl])
    all_goals (repeat (first | exact never_none | exact never_false | refine never_ite ?_ ?_ | refine never_bind (fun _ => ?_)))
theorem L17_LockTurns.j1_d67true (k : Nat) (x349000 : Bool) (x349001 : List Bool) (x355000 : Bool) (x355001 : List Bool) : L17_LockTurns.j1 k true x349000 x349001 x355000 x355001 ≠ some true := by
  cases k with
  | zero => simp only [L17_LockTurns.j1]; exact never_none
  | succ k =>
    simp only [L17_LockTurns.j1]
    all_goals (try rw [if_pos rfl])
    all_goals (repeat (first | exact never_none | exact never_false | refine never_ite ?_ ?_ | refine never_bind (fun _ => ?_) | exact L17_LockTurns.j0_d46true _ _ _ _ _ _))
theorem L17_LockTurns.j2_d86true (k : Nat) (x349000 : Bool) (x349001 : List Bool) (x355000 : Bool) (x355001 : List Bool) : L17_LockTurns.j2 k true x349000 x349001 x355000 x355001 ≠ some true := by
  cases k with
  | zero => simp only [L17_LockTurns.j2]; exact never_none
  | succ k =>
    simp only [L17_LockTurns.j2]
    all_goals (try rw [if_pos rfl])
    all_goals (repeat (first | exact never_none | exact never_false | refine never_ite ?_ ?_ | refine never_bind (fun _ => ?_) | exact L17_LockTurns.j0_d46true _ _ _ _ _ _ | exact L17_LockTurns.j1_d67true _ _ _ _ _))
def L17_LockTurns.T6 : Bool × List (List Nat × List Nat) := (true, [([], []), ([], []), ([0, 1], [0, 1]), ([2], [2]), ([3, 2], [3]), ([4], [4]), ([4], [4]), ([5, 6, 4], [4, 5, 6]), ([4, 7], [4, 7]), ([8, 4], [8]), ([9], [9]), ([10, 9, 9], [9, 10]), ([9], [9]), ([12, 11, 9], [9, 12]), ([11, 13, 9], [9, 11, 13]), ([9, 14], [9, 14])])
def L17_LockTurns.B6 : List Nat := [0, 0, 3, 7, 15, 31, 31, 127, 255, 511, 1023, 2047, 1023, 8191, 16383, 32767]
theorem L17_LockTurns.tab6 : rtab .any (opsOf Try.f5 6) = L17_LockTurns.T6 := by kernel_rfl
theorem L17_LockTurns.bits6 : waitsOk L17_LockTurns.T6.2 L17_LockTurns.B6 = true := by kernel_rfl
set_option maxHeartbeats 8000000 in
set_option maxRecDepth 100000 in
theorem L17_LockTurns.calls (k : Nat) (a0_0 : Bool) (A0_1 : Option Addr) (c0_1 : Nat) (l0_1 : List Bool) (a1 : Int) (a2 : Int) (r : Bool) (w : World) (hr0_1 : Kd.C Kd.bool w A0_1 l0_1.length l0_1) (hc0_1 : l0_1.length ≤ c0_1) (h : L17_LockTurns.f k a0_0 l0_1 a1 a2 = some r) (ht_ : r = true := by rfl) :
    Calls Try.prog 5 #[.agg #[.bool a0_0, .slice A0_1 l0_1.length c0_1], .int .i64 a1, .int .i64 a2] w fun e w' => e = .returned (.bool r) ∧ Below w.heap.size w w' := by
  subst ht_
  have hu25 := Try.underlying25
  have HR0_1 := Aside0.mk hr0_1
  have HC0_1 := Aside0.mk hc0_1
  clear hr0_1 hc0_1
  have HB := Aside0.mk (Below.refl w.heap.size w)
  have H : (if (l0_1.length : Int) > 70 then ((L17_awake.f).bind fun t349 => (some t349)) else ((K_OwnChain.f a0_0 l0_1).bind fun bt350 => ((lock_New.f a2).bind fun bt355 => ((R17_New.f k a2).bind fun bt361 => ((K_SameChain.f k bt355.1 bt355.2.1 bt361.1 bt361.2.1).bind fun t367 => (if t367 = true then (if bt355.2.2 = bt361.2.2 then ((lock_Check.f k bt350.1 bt350.2).bind fun t368 => ((R17_Check.f k a0_0 l0_1).bind fun t369 => (L17_LockTurns.j0 k a1 (t368 != t369) a0_0 l0_1 bt350.1 bt350.2))) else (L17_LockTurns.j0 k a1 true a0_0 l0_1 bt350.1 bt350.2)) else (L17_LockTurns.j0 k a1 true a0_0 l0_1 bt350.1 bt350.2))))))) = some true := h
  clear h
  by_cases c4 : (l0_1.length : Int) > 70
  · rw [if_pos c4] at H
    have c4b0 : decide (70 < (l0_1.length : Int)) = true := decide_eq_true c4
    have c4b1 : decide (70 < l0_1.length) = true := decide_eq_true (by omega)
    clear c4
    replace H := Option.bind_eq_some_iff.mp H
    obtain ⟨t349, A50, H⟩ := H
    replace H : (some t349) = some true := H
    have A5 := Aside0.mk A50
    clear A50
    have Ht_ := Option.some.inj H
    clear H
    subst Ht_
    have H : (some true : Option Bool) = some true := rfl
    clear H
    go_enter Try.func5, Try.ntmps5
    go_wp2_with (first | ((with_reducible refine gate_dst (N := 3) rfl ?_); refine box_event ?hg (N := 3) ?hd (cs := #[.bool a0_0, .slice A0_1 l0_1.length c0_1]) (t := 25) ?hr ?_; (case hd => rfl); (case hg => rfl); (case hr => first | (go_simp; done) | (go_simp; rfl)); intro gb348 hg w6 hbox hb; have n0_ := Aside0.mk (below_step (by repeat (first | (with_reducible first | exact HB.out | apply below_alloc | apply pw_below_drewN | apply below_drew1) | exact HB.out)) hb); have n1_ := Aside0.mk (hbox); have n2_ := Aside0.mk ((by rw [hg]; exact (below_size (by repeat (first | (with_reducible first | exact HB.out | apply below_alloc | apply pw_below_drewN | apply below_drew1) | exact HB.out))) : w.heap.size ≤ gb348)); have n3_ := Aside0.mk ((by rw [hg]; exact (below_size (by repeat (first | (with_reducible first | exact HB.out | apply below_alloc | apply pw_below_drewN | apply below_drew1) | exact HB.out))) : w.heap.size ≤ gb348)); clear HB; have HB := n0_; have BK348 := n1_; have GW348 := n2_; have GE348 := n3_; clear n0_ n1_ n2_ n3_; clear hb hbox hg; have hcz7_0 : w6.cell? ⟨gb348, 0, none⟩ = some (.bool a0_0) := (blk_cell BK348.out 0).trans rfl; have hcz7_1 : w6.cell? ⟨gb348, 1, none⟩ = some (.slice A0_1 l0_1.length c0_1) := (blk_cell BK348.out 1).trans rfl; have hfz7_0 := blk_frozen BK348.out 0; have hfz7_1 := blk_frozen BK348.out 1) | ((with_reducible refine gate_callee (f := 10) rfl ?_); refine goesL_ (some 18) rfl rfl Try.func10 (by kernel_rfl) rfl #[] rfl (by (try simp only [List.map_toArray, List.map_cons, List.map_nil]); first | done | rfl | (simp only [List.length_drop, List.length_take]; rfl)) ?_; (with_reducible refine (L17_awake.calls  true _ A5.out).mono ?_); rintro e w8 ⟨rfl, hb⟩; refine ⟨_, rfl, ?_⟩; have n0_ := Aside0.mk (blk_below (g := gb348) (o := .cells #[.bool a0_0, .slice A0_1 l0_1.length c0_1] 25 (0, 0)) (by (with_reducible repeat (first | refine blk_drewN ?_ _ | refine blk_drew ?_ | refine blk_alloc ?_ _)); exact BK348.out) hb); have n1_ := Aside0.mk (below_step (by repeat (first | (with_reducible first | exact HB.out | apply below_alloc | apply pw_below_drewN | apply below_drew1 | refine below_set ?_ GE348.out) | exact HB.out)) hb); clear BK348; clear HB; have BK348 := n0_; have HB := n1_; clear n0_ n1_; (try clear hb); (try clear hb2); (try clear hk); (try clear hi)))
    all_goals go_ret
    all_goals exact ⟨by first | rfl | (simp [errW_none, errW_some] <;> rfl) | (simp [*, errW_none, errW_some] <;> rfl), by repeat (first | (with_reducible first | exact HB.out | apply below_alloc | apply pw_below_drewN | apply below_drew1 | refine below_set ?_ GE348.out) | exact HB.out)⟩
  · rw [if_neg c4] at H
    have c4b0 : decide (70 < (l0_1.length : Int)) = false := decide_eq_false c4
    have c4b1 : decide (70 < l0_1.length) = false := decide_eq_false (by omega)
    clear c4
    replace H := Option.bind_eq_some_iff.mp H
    obtain ⟨⟨t350, t351⟩, A90, H⟩ := H
    replace H : ((lock_New.f a2).bind fun bt355 => ((R17_New.f k a2).bind fun bt361 => ((K_SameChain.f k bt355.1 bt355.2.1 bt361.1 bt361.2.1).bind fun t367 => (if t367 = true then (if bt355.2.2 = bt361.2.2 then ((lock_Check.f k t350 t351).bind fun t368 => ((R17_Check.f k a0_0 l0_1).bind fun t369 => (L17_LockTurns.j0 k a1 (t368 != t369) a0_0 l0_1 t350 t351))) else (L17_LockTurns.j0 k a1 true a0_0 l0_1 t350 t351)) else (L17_LockTurns.j0 k a1 true a0_0 l0_1 t350 t351))))) = some true := H
    have A9 := Aside0.mk A90
    clear A90
    replace H := Option.bind_eq_some_iff.mp H
    obtain ⟨⟨t355, t356, t359⟩, A100, H⟩ := H
    replace H : ((R17_New.f k a2).bind fun bt361 => ((K_SameChain.f k t355 t356 bt361.1 bt361.2.1).bind fun t367 => (if t367 = true then (if t359 = bt361.2.2 then ((lock_Check.f k t350 t351).bind fun t368 => ((R17_Check.f k a0_0 l0_1).bind fun t369 => (L17_LockTurns.j0 k a1 (t368 != t369) a0_0 l0_1 t350 t351))) else (L17_LockTurns.j0 k a1 true a0_0 l0_1 t350 t351)) else (L17_LockTurns.j0 k a1 true a0_0 l0_1 t350 t351)))) = some true := H
    have A10 := Aside0.mk A100
    clear A100
    replace H := Option.bind_eq_some_iff.mp H
    obtain ⟨⟨t361, t362, t365⟩, A110, H⟩ := H
    replace H : ((K_SameChain.f k t355 t356 t361 t362).bind fun t367 => (if t367 = true then (if t359 = t365 then ((lock_Check.f k t350 t351).bind fun t368 => ((R17_Check.f k a0_0 l0_1).bind fun t369 => (L17_LockTurns.j0 k a1 (t368 != t369) a0_0 l0_1 t350 t351))) else (L17_LockTurns.j0 k a1 true a0_0 l0_1 t350 t351)) else (L17_LockTurns.j0 k a1 true a0_0 l0_1 t350 t351))) = some true := H
    have A11 := Aside0.mk A110
    clear A110
    have HC12 := Aside0.mk H
    clear H
    go_enter Try.func5, Try.ntmps5
    go_upto_region 6 with (first | ((with_reducible refine gate_dst (N := 3) rfl ?_); refine box_event ?hg (N := 3) ?hd (cs := #[.bool a0_0, .slice A0_1 l0_1.length c0_1]) (t := 25) ?hr ?_; (case hd => rfl); (case hg => rfl); (case hr => first | (go_simp; done) | (go_simp; rfl)); intro gb348 hg w13 hbox hb; have n0_ := Aside0.mk (below_step (by repeat (first | (with_reducible first | exact HB.out | apply below_alloc | apply pw_below_drewN | apply below_drew1) | exact HB.out)) hb); have n1_ := Aside0.mk (hbox); have n2_ := Aside0.mk ((by rw [hg]; exact (below_size (by repeat (first | (with_reducible first | exact HB.out | apply below_alloc | apply pw_below_drewN | apply below_drew1) | exact HB.out))) : w.heap.size ≤ gb348)); have n3_ := Aside0.mk ((by rw [hg]; exact (below_size (by repeat (first | (with_reducible first | exact HB.out | apply below_alloc | apply pw_below_drewN | apply below_drew1) | exact HB.out))) : w.heap.size ≤ gb348)); clear HB; have HB := n0_; have BK348 := n1_; have GW348 := n2_; have GE348 := n3_; clear n0_ n1_ n2_ n3_; clear hb hbox hg; have hcz14_0 : w13.cell? ⟨gb348, 0, none⟩ = some (.bool a0_0) := (blk_cell BK348.out 0).trans rfl; have hcz14_1 : w13.cell? ⟨gb348, 1, none⟩ = some (.slice A0_1 l0_1.length c0_1) := (blk_cell BK348.out 1).trans rfl; have hfz14_0 := blk_frozen BK348.out 0; have hfz14_1 := blk_frozen BK348.out 1) | ((with_reducible refine gate_callee (f := 25) rfl ?_); refine goesL_ (some 20) rfl rfl Try.func25 (by kernel_rfl) rfl #[.agg #[.bool a0_0, .slice A0_1 l0_1.length c0_1]] rfl (by (try simp only [List.map_toArray, List.map_cons, List.map_nil]); first | done | rfl | (simp only [List.length_drop, List.length_take]; rfl)) ?_; (with_reducible refine (K_OwnChain.calls a0_0 _ _ l0_1 t350 t351 _ ?side1 ?side2 A9.out).mono ?_); (case side1 => repeat (first | exact (Kd.C_below HR0_1.out HB.out) | (with_reducible refine Kd.C_alloc ?_ _) | (with_reducible refine Kd.C_drewN ?_ _) | (with_reducible refine Kd.C_drew ?_))); (case side2 => exact HC0_1.out); rintro e w15 ⟨v352, rfl, ho0, hb⟩; refine ⟨_, rfl, ?_⟩; have n0_ := Aside0.mk (Kd.R_lower ho0 (below_size (by repeat (first | (with_reducible first | exact HB.out | apply below_alloc | apply pw_below_drewN | apply below_drew1 | refine below_set ?_ GE348.out) | exact HB.out)))); have n1_ := Aside0.mk (blk_below (g := gb348) (o := .cells #[.bool a0_0, .slice A0_1 l0_1.length c0_1] 25 (0, 0)) (by (with_reducible repeat (first | refine blk_drewN ?_ _ | refine blk_drew ?_ | refine blk_alloc ?_ _)); exact BK348.out) hb); have n2_ := Aside0.mk (below_step (by repeat (first | (with_reducible first | exact HB.out | apply below_alloc | apply pw_below_drewN | apply below_drew1 | refine below_set ?_ GE348.out) | exact HB.out)) hb); clear BK348; clear HB; have HO353 := n0_; have BK348 := n1_; have HB := n2_; clear n0_ n1_ n2_; (try clear hb); (try clear hb2); (try clear hk); (try clear hi); (try clear ho0)) | ((with_reducible refine gate_dst (N := 7) rfl ?_); refine box_event ?hg (N := 7) ?hd (cs := #[.bool false, .slice none 0 0]) (t := 25) ?hr ?_; (case hd => rfl); (case hg => rfl); (case hr => first | (go_simp; done) | (go_simp; rfl)); intro gb354 hg w16 hbox hb; have n0_ := Aside0.mk (Kd.R_below (by (with_reducible repeat (first | apply Kd.R_alloc | apply Kd.R_drewN | apply Kd.R_drew)); exact HO353.out) hb); have n1_ := Aside0.mk (blk_below (g := gb348) (o := .cells #[.bool a0_0, .slice A0_1 l0_1.length c0_1] 25 (0, 0)) (by (with_reducible repeat (first | refine blk_drewN ?_ _ | refine blk_drew ?_ | refine blk_alloc ?_ _)); exact BK348.out) hb); have n2_ := Aside0.mk (below_step (by repeat (first | (with_reducible first | exact HB.out | apply below_alloc | apply pw_below_drewN | apply below_drew1 | refine below_set ?_ GE348.out) | exact HB.out)) hb); have n3_ := Aside0.mk (hbox); have n4_ := Aside0.mk ((by rw [hg]; exact (below_size (by repeat (first | (with_reducible first | exact HB.out | apply below_alloc | apply pw_below_drewN | apply below_drew1 | refine below_set ?_ GE348.out) | exact HB.out))) : w.heap.size ≤ gb354)); have n5_ := Aside0.mk ((by rw [hg]; exact (below_size (by repeat (first | (with_reducible first | exact HB.out | apply below_alloc | apply pw_below_drewN | apply below_drew1 | refine below_set ?_ GE348.out) | exact HB.out))) : w.heap.size ≤ gb354)); have n6_ := Aside0.mk ((by rw [hg]; exact Nat.ne_of_lt (blk_lt (g := gb348) (o := .cells #[.bool a0_0, .slice A0_1 l0_1.length c0_1] 25 (0, 0)) (by (with_reducible repeat (first | refine blk_drewN ?_ _ | refine blk_drew ?_ | refine blk_alloc ?_ _)); exact BK348.out)) : gb348 ≠ gb354)); have n7_ := Aside0.mk ((by rw [hg]; exact Nat.ne_of_gt (blk_lt (g := gb348) (o := .cells #[.bool a0_0, .slice A0_1 l0_1.length c0_1] 25 (0, 0)) (by (with_reducible repeat (first | refine blk_drewN ?_ _ | refine blk_drew ?_ | refine blk_alloc ?_ _)); exact BK348.out)) : gb354 ≠ gb348)); clear HO353; clear BK348; clear HB; have HO353 := n0_; have BK348 := n1_; have HB := n2_; have BK354 := n3_; have GW354 := n4_; have GE354 := n5_; have NB348_354 := n6_; have NB354_348 := n7_; clear n0_ n1_ n2_ n3_ n4_ n5_ n6_ n7_; clear hb hbox hg; have hnb17 := NB354_348.out; have hnc17 := NB348_354.out; have hcz18_0 : w16.cell? ⟨gb354, 0, none⟩ = some (.bool false) := (blk_cell BK354.out 0).trans rfl; have hcz18_1 : w16.cell? ⟨gb354, 1, none⟩ = some (.slice none 0 0) := (blk_cell BK354.out 1).trans rfl; have hfz18_0 := blk_frozen BK354.out 0; have hfz18_1 := blk_frozen BK354.out 1; obtain ⟨Ao19, co19, eo19⟩ := Kd.R_slice HO353.out; subst eo19) | ((with_reducible refine gate_callee (f := 26) rfl ?_); refine goesL_ (some 23) rfl rfl Try.func26 (by kernel_rfl) rfl #[.int .i64 a2] rfl (by (try simp only [List.map_toArray, List.map_cons, List.map_nil]); first | done | rfl | (simp only [List.length_drop, List.length_take]; rfl)) ?_; (with_reducible refine (lock_New.calls a2 t355 t356 t359 _ A10.out).mono ?_); rintro e w20 ⟨v357, rfl, ho0, hb⟩; refine ⟨_, rfl, ?_⟩; have n0_ := Aside0.mk (Kd.R_elder' (by (with_reducible repeat (first | apply Kd.R_alloc | apply Kd.R_drewN | apply Kd.R_drew)); exact (Kd.R_mono (Kd.R_far (p := ⟨gb354, 1, none⟩) (Kd.R_far (p := ⟨gb354, 0, none⟩) (Kd.R_types HO353.out BK354.out (by decide)) (fun _ hk => hk.2) (.bool t350)) (fun _ hk => hk.2) (.slice Ao19 t351.length co19)) (fun _ h_ => h_.1))) (Kd.R_base ho0) hb); have n1_ := Aside0.mk (Kd.R_lower (Kd.R_new' ho0 (Kd.R_lt (by (with_reducible repeat (first | apply Kd.R_alloc | apply Kd.R_drewN | apply Kd.R_drew)); exact (Kd.R_mono (Kd.R_far (p := ⟨gb354, 1, none⟩) (Kd.R_far (p := ⟨gb354, 0, none⟩) (Kd.R_types HO353.out BK354.out (by decide)) (fun _ hk => hk.2) (.bool t350)) (fun _ hk => hk.2) (.slice Ao19 t351.length co19)) (fun _ h_ => h_.1))))) (below_size (by repeat (first | (with_reducible first | exact HB.out | apply below_alloc | apply pw_below_drewN | apply below_drew1 | refine below_set ?_ GE348.out | refine below_set ?_ GE354.out) | exact HB.out)))); have n2_ := Aside0.mk (blk_below (g := gb348) (o := .cells #[.bool a0_0, .slice A0_1 l0_1.length c0_1] 25 (0, 0)) (by (with_reducible repeat (first | refine blk_drewN ?_ _ | refine blk_drew ?_ | refine blk_alloc ?_ _)); refine blk_far ?_ NB348_354.out _; (with_reducible repeat (first | refine blk_drewN ?_ _ | refine blk_drew ?_ | refine blk_alloc ?_ _)); refine blk_far ?_ NB348_354.out _; (with_reducible repeat (first | refine blk_drewN ?_ _ | refine blk_drew ?_ | refine blk_alloc ?_ _)); exact BK348.out) hb); have n3_ := Aside0.mk (blk_below (g := gb354) (o := .cells #[.bool t350, .slice Ao19 t351.length co19] 25 (0, 0)) (by (with_reducible repeat (first | refine blk_drewN ?_ _ | refine blk_drew ?_ | refine blk_alloc ?_ _)); refine blk_put (cs := #[.bool t350, .slice none 0 0]) ?_ 1 _ rfl; (with_reducible repeat (first | refine blk_drewN ?_ _ | refine blk_drew ?_ | refine blk_alloc ?_ _)); refine blk_put (cs := #[.bool false, .slice none 0 0]) ?_ 0 _ rfl; (with_reducible repeat (first | refine blk_drewN ?_ _ | refine blk_drew ?_ | refine blk_alloc ?_ _)); exact BK354.out) hb); have n4_ := Aside0.mk (below_step (by repeat (first | (with_reducible first | exact HB.out | apply below_alloc | apply pw_below_drewN | apply below_drew1 | refine below_set ?_ GE348.out | refine below_set ?_ GE354.out) | exact HB.out)) hb); clear HO353; clear BK348; clear BK354; clear HB; have HO353 := n0_; have HO358 := n1_; have BK348 := n2_; have BK354 := n3_; have HB := n4_; clear n0_ n1_ n2_ n3_ n4_; (try clear hb); (try clear hb2); (try clear hk); (try clear hi); (try clear ho0)) | ((with_reducible refine gate_dst (N := 8) rfl ?_); refine box_event ?hg (N := 8) ?hd (cs := #[.bool false, .slice none 0 0]) (t := 25) ?hr ?_; (case hd => rfl); (case hg => rfl); (case hr => first | (go_simp; done) | (go_simp; rfl)); intro gb360 hg w21 hbox hb; have n0_ := Aside0.mk (Kd.R_below (by (with_reducible repeat (first | apply Kd.R_alloc | apply Kd.R_drewN | apply Kd.R_drew)); exact HO353.out) hb); have n1_ := Aside0.mk (Kd.R_below (by (with_reducible repeat (first | apply Kd.R_alloc | apply Kd.R_drewN | apply Kd.R_drew)); exact HO358.out) hb); have n2_ := Aside0.mk (blk_below (g := gb348) (o := .cells #[.bool a0_0, .slice A0_1 l0_1.length c0_1] 25 (0, 0)) (by (with_reducible repeat (first | refine blk_drewN ?_ _ | refine blk_drew ?_ | refine blk_alloc ?_ _)); exact BK348.out) hb); have n3_ := Aside0.mk (blk_below (g := gb354) (o := .cells #[.bool t350, .slice Ao19 t351.length co19] 25 (0, 0)) (by (with_reducible repeat (first | refine blk_drewN ?_ _ | refine blk_drew ?_ | refine blk_alloc ?_ _)); exact BK354.out) hb); have n4_ := Aside0.mk (below_step (by repeat (first | (with_reducible first | exact HB.out | apply below_alloc | apply pw_below_drewN | apply below_drew1 | refine below_set ?_ GE348.out | refine below_set ?_ GE354.out) | exact HB.out)) hb); have n5_ := Aside0.mk (hbox); have n6_ := Aside0.mk ((by rw [hg]; exact (below_size (by repeat (first | (with_reducible first | exact HB.out | apply below_alloc | apply pw_below_drewN | apply below_drew1 | refine below_set ?_ GE348.out | refine below_set ?_ GE354.out) | exact HB.out))) : w.heap.size ≤ gb360)); have n7_ := Aside0.mk ((by rw [hg]; exact (below_size (by repeat (first | (with_reducible first | exact HB.out | apply below_alloc | apply pw_below_drewN | apply below_drew1 | refine below_set ?_ GE348.out | refine below_set ?_ GE354.out) | exact HB.out))) : w.heap.size ≤ gb360)); have n8_ := Aside0.mk ((by rw [hg]; exact Nat.ne_of_lt (blk_lt (g := gb348) (o := .cells #[.bool a0_0, .slice A0_1 l0_1.length c0_1] 25 (0, 0)) (by (with_reducible repeat (first | refine blk_drewN ?_ _ | refine blk_drew ?_ | refine blk_alloc ?_ _)); exact BK348.out)) : gb348 ≠ gb360)); have n9_ := Aside0.mk ((by rw [hg]; exact Nat.ne_of_gt (blk_lt (g := gb348) (o := .cells #[.bool a0_0, .slice A0_1 l0_1.length c0_1] 25 (0, 0)) (by (with_reducible repeat (first | refine blk_drewN ?_ _ | refine blk_drew ?_ | refine blk_alloc ?_ _)); exact BK348.out)) : gb360 ≠ gb348)); have n10_ := Aside0.mk ((by rw [hg]; exact Nat.ne_of_lt (blk_lt (g := gb354) (o := .cells #[.bool t350, .slice Ao19 t351.length co19] 25 (0, 0)) (by (with_reducible repeat (first | refine blk_drewN ?_ _ | refine blk_drew ?_ | refine blk_alloc ?_ _)); exact BK354.out)) : gb354 ≠ gb360)); have n11_ := Aside0.mk ((by rw [hg]; exact Nat.ne_of_gt (blk_lt (g := gb354) (o := .cells #[.bool t350, .slice Ao19 t351.length co19] 25 (0, 0)) (by (with_reducible repeat (first | refine blk_drewN ?_ _ | refine blk_drew ?_ | refine blk_alloc ?_ _)); exact BK354.out)) : gb360 ≠ gb354)); clear HO353; clear HO358; clear BK348; clear BK354; clear HB; have HO353 := n0_; have HO358 := n1_; have BK348 := n2_; have BK354 := n3_; have HB := n4_; have BK360 := n5_; have GW360 := n6_; have GE360 := n7_; have NB348_360 := n8_; have NB360_348 := n9_; have NB354_360 := n10_; have NB360_354 := n11_; clear n0_ n1_ n2_ n3_ n4_ n5_ n6_ n7_ n8_ n9_ n10_ n11_; clear hb hbox hg; have hnb22 := NB360_348.out; have hnc22 := NB348_360.out; have hnb23 := NB360_354.out; have hnc23 := NB354_360.out; have hcz24_0 : w21.cell? ⟨gb360, 0, none⟩ = some (.bool false) := (blk_cell BK360.out 0).trans rfl; have hcz24_1 : w21.cell? ⟨gb360, 1, none⟩ = some (.slice none 0 0) := (blk_cell BK360.out 1).trans rfl; have hfz24_0 := blk_frozen BK360.out 0; have hfz24_1 := blk_frozen BK360.out 1; obtain ⟨Ao25, co25, eo25⟩ := Kd.R_slice HO358.out; subst eo25) | ((with_reducible refine gate_callee (f := 27) rfl ?_); refine goesL_ (some 28) rfl rfl Try.func27 (by kernel_rfl) rfl #[.int .i64 a2] rfl (by (try simp only [List.map_toArray, List.map_cons, List.map_nil]); first | done | rfl | (simp only [List.length_drop, List.length_take]; rfl)) ?_; (with_reducible refine (R17_New.calls k a2 t361 t362 t365 _ A11.out).mono ?_); rintro e w26 ⟨v363, rfl, ho0, hb⟩; refine ⟨_, rfl, ?_⟩; have n0_ := Aside0.mk (Kd.R_elder' (by (with_reducible repeat (first | apply Kd.R_alloc | apply Kd.R_drewN | apply Kd.R_drew)); exact (Kd.R_mono (Kd.R_far (p := ⟨gb360, 1, none⟩) (Kd.R_far (p := ⟨gb360, 0, none⟩) (Kd.R_types HO353.out BK360.out (by decide)) (fun _ hk => hk.2) (.bool t355)) (fun _ hk => hk.2) (.slice Ao25 t356.length co25)) (fun _ h_ => h_.1))) (Kd.R_base ho0) hb); have n1_ := Aside0.mk (Kd.R_elder' (by (with_reducible repeat (first | apply Kd.R_alloc | apply Kd.R_drewN | apply Kd.R_drew)); exact (Kd.R_mono (Kd.R_far (p := ⟨gb360, 1, none⟩) (Kd.R_far (p := ⟨gb360, 0, none⟩) (Kd.R_types HO358.out BK360.out (by decide)) (fun _ hk => hk.2) (.bool t355)) (fun _ hk => hk.2) (.slice Ao25 t356.length co25)) (fun _ h_ => h_.1))) (Kd.R_base ho0) hb); have n2_ := Aside0.mk (Kd.R_lower (Kd.R_new' (Kd.R_new' ho0 (Kd.R_lt (by (with_reducible repeat (first | apply Kd.R_alloc | apply Kd.R_drewN | apply Kd.R_drew)); exact (Kd.R_mono (Kd.R_far (p := ⟨gb360, 1, none⟩) (Kd.R_far (p := ⟨gb360, 0, none⟩) (Kd.R_types HO353.out BK360.out (by decide)) (fun _ hk => hk.2) (.bool t355)) (fun _ hk => hk.2) (.slice Ao25 t356.length co25)) (fun _ h_ => h_.1))))) (Kd.R_lt (by (with_reducible repeat (first | apply Kd.R_alloc | apply Kd.R_drewN | apply Kd.R_drew)); exact (Kd.R_mono (Kd.R_far (p := ⟨gb360, 1, none⟩) (Kd.R_far (p := ⟨gb360, 0, none⟩) (Kd.R_types HO358.out BK360.out (by decide)) (fun _ hk => hk.2) (.bool t355)) (fun _ hk => hk.2) (.slice Ao25 t356.length co25)) (fun _ h_ => h_.1))))) (below_size (by repeat (first | (with_reducible first | exact HB.out | apply below_alloc | apply pw_below_drewN | apply below_drew1 | refine below_set ?_ GE348.out | refine below_set ?_ GE354.out | refine below_set ?_ GE360.out) | exact HB.out)))); have n3_ := Aside0.mk (blk_below (g := gb348) (o := .cells #[.bool a0_0, .slice A0_1 l0_1.length c0_1] 25 (0, 0)) (by (with_reducible repeat (first | refine blk_drewN ?_ _ | refine blk_drew ?_ | refine blk_alloc ?_ _)); refine blk_far ?_ NB348_360.out _; (with_reducible repeat (first | refine blk_drewN ?_ _ | refine blk_drew ?_ | refine blk_alloc ?_ _)); refine blk_far ?_ NB348_360.out _; (with_reducible repeat (first | refine blk_drewN ?_ _ | refine blk_drew ?_ | refine blk_alloc ?_ _)); exact BK348.out) hb); have n4_ := Aside0.mk (blk_below (g := gb354) (o := .cells #[.bool t350, .slice Ao19 t351.length co19] 25 (0, 0)) (by (with_reducible repeat (first | refine blk_drewN ?_ _ | refine blk_drew ?_ | refine blk_alloc ?_ _)); refine blk_far ?_ NB354_360.out _; (with_reducible repeat (first | refine blk_drewN ?_ _ | refine blk_drew ?_ | refine blk_alloc ?_ _)); refine blk_far ?_ NB354_360.out _; (with_reducible repeat (first | refine blk_drewN ?_ _ | refine blk_drew ?_ | refine blk_alloc ?_ _)); exact BK354.out) hb); have n5_ := Aside0.mk (blk_below (g := gb360) (o := .cells #[.bool t355, .slice Ao25 t356.length co25] 25 (0, 0)) (by (with_reducible repeat (first | refine blk_drewN ?_ _ | refine blk_drew ?_ | refine blk_alloc ?_ _)); refine blk_put (cs := #[.bool t355, .slice none 0 0]) ?_ 1 _ rfl; (with_reducible repeat (first | refine blk_drewN ?_ _ | refine blk_drew ?_ | refine blk_alloc ?_ _)); refine blk_put (cs := #[.bool false, .slice none 0 0]) ?_ 0 _ rfl; (with_reducible repeat (first | refine blk_drewN ?_ _ | refine blk_drew ?_ | refine blk_alloc ?_ _)); exact BK360.out) hb); have n6_ := Aside0.mk (below_step (by repeat (first | (with_reducible first | exact HB.out | apply below_alloc | apply pw_below_drewN | apply below_drew1 | refine below_set ?_ GE348.out | refine below_set ?_ GE354.out | refine below_set ?_ GE360.out) | exact HB.out)) hb); clear HO353; clear HO358; clear BK348; clear BK354; clear BK360; clear HB; have HO353 := n0_; have HO358 := n1_; have HO364 := n2_; have BK348 := n3_; have BK354 := n4_; have BK360 := n5_; have HB := n6_; clear n0_ n1_ n2_ n3_ n4_ n5_ n6_; (try clear hb); (try clear hb2); (try clear hk); (try clear hi); (try clear ho0)) | ((with_reducible refine gate_dst (N := 10) rfl ?_); refine box_event ?hg (N := 10) ?hd (cs := #[.bool false, .slice none 0 0]) (t := 25) ?hr ?_; (case hd => rfl); (case hg => rfl); (case hr => first | (go_simp; done) | (go_simp; rfl)); intro gb366 hg w27 hbox hb; have n0_ := Aside0.mk (Kd.R_below (by (with_reducible repeat (first | apply Kd.R_alloc | apply Kd.R_drewN | apply Kd.R_drew)); exact HO353.out) hb); have n1_ := Aside0.mk (Kd.R_below (by (with_reducible repeat (first | apply Kd.R_alloc | apply Kd.R_drewN | apply Kd.R_drew)); exact HO358.out) hb); have n2_ := Aside0.mk (Kd.R_below (by (with_reducible repeat (first | apply Kd.R_alloc | apply Kd.R_drewN | apply Kd.R_drew)); exact HO364.out) hb); have n3_ := Aside0.mk (blk_below (g := gb348) (o := .cells #[.bool a0_0, .slice A0_1 l0_1.length c0_1] 25 (0, 0)) (by (with_reducible repeat (first | refine blk_drewN ?_ _ | refine blk_drew ?_ | refine blk_alloc ?_ _)); exact BK348.out) hb); have n4_ := Aside0.mk (blk_below (g := gb354) (o := .cells #[.bool t350, .slice Ao19 t351.length co19] 25 (0, 0)) (by (with_reducible repeat (first | refine blk_drewN ?_ _ | refine blk_drew ?_ | refine blk_alloc ?_ _)); exact BK354.out) hb); have n5_ := Aside0.mk (blk_below (g := gb360) (o := .cells #[.bool t355, .slice Ao25 t356.length co25] 25 (0, 0)) (by (with_reducible repeat (first | refine blk_drewN ?_ _ | refine blk_drew ?_ | refine blk_alloc ?_ _)); exact BK360.out) hb); have n6_ := Aside0.mk (below_step (by repeat (first | (with_reducible first | exact HB.out | apply below_alloc | apply pw_below_drewN | apply below_drew1 | refine below_set ?_ GE348.out | refine below_set ?_ GE354.out | refine below_set ?_ GE360.out) | exact HB.out)) hb); have n7_ := Aside0.mk (hbox); have n8_ := Aside0.mk ((by rw [hg]; exact (below_size (by repeat (first | (with_reducible first | exact HB.out | apply below_alloc | apply pw_below_drewN | apply below_drew1 | refine below_set ?_ GE348.out | refine below_set ?_ GE354.out | refine below_set ?_ GE360.out) | exact HB.out))) : w.heap.size ≤ gb366)); have n9_ := Aside0.mk ((by rw [hg]; exact (below_size (by repeat (first | (with_reducible first | exact HB.out | apply below_alloc | apply pw_below_drewN | apply below_drew1 | refine below_set ?_ GE348.out | refine below_set ?_ GE354.out | refine below_set ?_ GE360.out) | exact HB.out))) : w.heap.size ≤ gb366)); have n10_ := Aside0.mk ((by rw [hg]; exact Nat.ne_of_lt (blk_lt (g := gb348) (o := .cells #[.bool a0_0, .slice A0_1 l0_1.length c0_1] 25 (0, 0)) (by (with_reducible repeat (first | refine blk_drewN ?_ _ | refine blk_drew ?_ | refine blk_alloc ?_ _)); exact BK348.out)) : gb348 ≠ gb366)); have n11_ := Aside0.mk ((by rw [hg]; exact Nat.ne_of_gt (blk_lt (g := gb348) (o := .cells #[.bool a0_0, .slice A0_1 l0_1.length c0_1] 25 (0, 0)) (by (with_reducible repeat (first | refine blk_drewN ?_ _ | refine blk_drew ?_ | refine blk_alloc ?_ _)); exact BK348.out)) : gb366 ≠ gb348)); have n12_ := Aside0.mk ((by rw [hg]; exact Nat.ne_of_lt (blk_lt (g := gb354) (o := .cells #[.bool t350, .slice Ao19 t351.length co19] 25 (0, 0)) (by (with_reducible repeat (first | refine blk_drewN ?_ _ | refine blk_drew ?_ | refine blk_alloc ?_ _)); exact BK354.out)) : gb354 ≠ gb366)); have n13_ := Aside0.mk ((by rw [hg]; exact Nat.ne_of_gt (blk_lt (g := gb354) (o := .cells #[.bool t350, .slice Ao19 t351.length co19] 25 (0, 0)) (by (with_reducible repeat (first | refine blk_drewN ?_ _ | refine blk_drew ?_ | refine blk_alloc ?_ _)); exact BK354.out)) : gb366 ≠ gb354)); have n14_ := Aside0.mk ((by rw [hg]; exact Nat.ne_of_lt (blk_lt (g := gb360) (o := .cells #[.bool t355, .slice Ao25 t356.length co25] 25 (0, 0)) (by (with_reducible repeat (first | refine blk_drewN ?_ _ | refine blk_drew ?_ | refine blk_alloc ?_ _)); exact BK360.out)) : gb360 ≠ gb366)); have n15_ := Aside0.mk ((by rw [hg]; exact Nat.ne_of_gt (blk_lt (g := gb360) (o := .cells #[.bool t355, .slice Ao25 t356.length co25] 25 (0, 0)) (by (with_reducible repeat (first | refine blk_drewN ?_ _ | refine blk_drew ?_ | refine blk_alloc ?_ _)); exact BK360.out)) : gb366 ≠ gb360)); clear HO353; clear HO358; clear HO364; clear BK348; clear BK354; clear BK360; clear HB; have HO353 := n0_; have HO358 := n1_; have HO364 := n2_; have BK348 := n3_; have BK354 := n4_; have BK360 := n5_; have HB := n6_; have BK366 := n7_; have GW366 := n8_; have GE366 := n9_; have NB348_366 := n10_; have NB366_348 := n11_; have NB354_366 := n12_; have NB366_354 := n13_; have NB360_366 := n14_; have NB366_360 := n15_; clear n0_ n1_ n2_ n3_ n4_ n5_ n6_ n7_ n8_ n9_ n10_ n11_ n12_ n13_ n14_ n15_; clear hb hbox hg; have hnb28 := NB366_348.out; have hnc28 := NB348_366.out; have hnb29 := NB366_354.out; have hnc29 := NB354_366.out; have hnb30 := NB366_360.out; have hnc30 := NB360_366.out; have hcz31_0 : w27.cell? ⟨gb366, 0, none⟩ = some (.bool false) := (blk_cell BK366.out 0).trans rfl; have hcz31_1 : w27.cell? ⟨gb366, 1, none⟩ = some (.slice none 0 0) := (blk_cell BK366.out 1).trans rfl; have hfz31_0 := blk_frozen BK366.out 0; have hfz31_1 := blk_frozen BK366.out 1; obtain ⟨Ao32, co32, eo32⟩ := Kd.R_slice HO364.out; subst eo32))
    (try simp only [Act.put, List.setIfInBounds_toArray, List.set_cons_zero, List.set_cons_succ])
    go_cut [46] (fun v46 wc => ∃ (kq : Nat) (x46_11 : Bool), v46 = .bool x46_11 ∧ Aside0 (L17_LockTurns.j0 kq a1 x46_11 a0_0 l0_1 t350 t351 = some true) ∧ Aside0 (kq ≤ k) ∧ Aside0 (Kd.R Kd.bool 4 wc w.heap.size (fun k_ => some k_ ≠ ((.slice Ao25 t356.length co25) : Value).ownBlock ∧ some k_ ≠ ((.slice Ao32 t362.length co32) : Value).ownBlock) (.slice Ao19 t351.length co19) t351) ∧ Aside0 (Kd.R Kd.bool 4 wc w.heap.size (fun k_ => some k_ ≠ ((.slice Ao19 t351.length co19) : Value).ownBlock ∧ some k_ ≠ ((.slice Ao32 t362.length co32) : Value).ownBlock) (.slice Ao25 t356.length co25) t356) ∧ Aside0 (Kd.R Kd.bool 4 wc w.heap.size (fun k_ => some k_ ≠ ((.slice Ao19 t351.length co19) : Value).ownBlock ∧ some k_ ≠ ((.slice Ao25 t356.length co25) : Value).ownBlock) (.slice Ao32 t362.length co32) t362) ∧ Aside0 (wc.heap[gb348]? = some (.cells #[.bool a0_0, (.slice A0_1 l0_1.length c0_1)] 25 (0, 0))) ∧ Aside0 (wc.heap[gb354]? = some (.cells #[.bool t350, (.slice Ao19 t351.length co19)] 25 (0, 0))) ∧ Aside0 (wc.heap[gb360]? = some (.cells #[.bool t355, (.slice Ao25 t356.length co25)] 25 (0, 0))) ∧ Aside0 (wc.heap[gb366]? = some (.cells #[.bool t361, (.slice Ao32 t362.length co32)] 25 (0, 0))) ∧ Aside0 (Below w.heap.size w wc))
    case first =>
      have H := HC12.out
      clear HC12
      replace H := Option.bind_eq_some_iff.mp H
      obtain ⟨t367, A330, H⟩ := H
      replace H : (if t367 = true then (if t359 = t365 then ((lock_Check.f k t350 t351).bind fun t368 => ((R17_Check.f k a0_0 l0_1).bind fun t369 => (L17_LockTurns.j0 k a1 (t368 != t369) a0_0 l0_1 t350 t351))) else (L17_LockTurns.j0 k a1 true a0_0 l0_1 t350 t351)) else (L17_LockTurns.j0 k a1 true a0_0 l0_1 t350 t351)) = some true := H
      have A33 := Aside0.mk A330
      clear A330
      by_cases c34 : t367 = true
      rotate_left
      · replace c34 := Bool.eq_false_iff.mpr c34
        subst c34
        have H1 : (L17_LockTurns.j0 k a1 true a0_0 l0_1 t350 t351) = some true := by rw [if_neg (show ¬ (false = true) by decide)] at H; exact H
        clear H
        have H := H1
        clear H1
        exact absurd H (by repeat (first | exact never_none | exact never_false | refine never_ite ?_ ?_ | refine never_bind (fun _ => ?_) | exact L17_LockTurns.j0_d46true _ _ _ _ _ _ | exact L17_LockTurns.j1_d67true _ _ _ _ _ | exact L17_LockTurns.j2_d86true _ _ _ _ _))
      subst c34
      have H1 : (if t359 = t365 then ((lock_Check.f k t350 t351).bind fun t368 => ((R17_Check.f k a0_0 l0_1).bind fun t369 => (L17_LockTurns.j0 k a1 (t368 != t369) a0_0 l0_1 t350 t351))) else (L17_LockTurns.j0 k a1 true a0_0 l0_1 t350 t351)) = some true := by rw [if_pos rfl] at H; exact H
      clear H
      have H := H1
      clear H1
      by_cases c35 : t359 = t365
      rotate_left
      · rw [if_neg c35] at H
        exact absurd H (by repeat (first | exact never_none | exact never_false | refine never_ite ?_ ?_ | refine never_bind (fun _ => ?_) | exact L17_LockTurns.j0_d46true _ _ _ _ _ _ | exact L17_LockTurns.j1_d67true _ _ _ _ _ | exact L17_LockTurns.j2_d86true _ _ _ _ _))
      rw [if_pos c35] at H
      have c35b0 : (t359 == t365) = true := beq_iff_eq.mpr c35
      have c35b1 : (t359 != t365) = false := bne_eq_false_iff_eq.mpr c35
      clear c35
      (first | rw [c35b0] | (simp only [i64_w, i32_w]; rw [c35b0]) | skip)
      replace H := Option.bind_eq_some_iff.mp H
      obtain ⟨t368, A360, H⟩ := H
      replace H : ((R17_Check.f k a0_0 l0_1).bind fun t369 => (L17_LockTurns.j0 k a1 (t368 != t369) a0_0 l0_1 t350 t351)) = some true := H
      have A36 := Aside0.mk A360
      clear A360
      replace H := Option.bind_eq_some_iff.mp H
      obtain ⟨t369, A370, H⟩ := H
      replace H : (L17_LockTurns.j0 k a1 (t368 != t369) a0_0 l0_1 t350 t351) = some true := H
      have A37 := Aside0.mk A370
      clear A370
      have H' := Aside0.mk H
      clear H
      try go_wp2
      have n0_ : Aside0 (Kd.R Kd.bool 4 ((w27.setCell ⟨gb366, 0, none⟩ (.bool t361)).setCell ⟨gb366, 1, none⟩ (.slice Ao32 t362.length co32)) w.heap.size (fun k_ => some k_ ≠ (.slice Ao25 t356.length co25 : Value).ownBlock ∧ some k_ ≠ (.slice Ao32 t362.length co32 : Value).ownBlock) (.slice Ao19 t351.length co19) t351) := ⟨by (with_reducible repeat (first | apply Kd.R_alloc | apply Kd.R_drewN | apply Kd.R_drew)); exact Kd.R_mono (Kd.R_far (p := ⟨gb366, 1, none⟩) (Kd.R_far (p := ⟨gb366, 0, none⟩) (Kd.R_types HO353.out BK366.out (by decide)) (fun _ hk => hk.2) (.bool t361)) (fun _ hk => hk.2) (.slice Ao32 t362.length co32)) (fun _ hk => ⟨hk.1.1.2, hk.1.2⟩)⟩
      have n1_ : Aside0 (Kd.R Kd.bool 4 ((w27.setCell ⟨gb366, 0, none⟩ (.bool t361)).setCell ⟨gb366, 1, none⟩ (.slice Ao32 t362.length co32)) w.heap.size (fun k_ => some k_ ≠ (.slice Ao19 t351.length co19 : Value).ownBlock ∧ some k_ ≠ (.slice Ao32 t362.length co32 : Value).ownBlock) (.slice Ao25 t356.length co25) t356) := ⟨by (with_reducible repeat (first | apply Kd.R_alloc | apply Kd.R_drewN | apply Kd.R_drew)); exact Kd.R_mono (Kd.R_far (p := ⟨gb366, 1, none⟩) (Kd.R_far (p := ⟨gb366, 0, none⟩) (Kd.R_types HO358.out BK366.out (by decide)) (fun _ hk => hk.2) (.bool t361)) (fun _ hk => hk.2) (.slice Ao32 t362.length co32)) (fun _ hk => ⟨hk.1.1.2, hk.1.2⟩)⟩
      have n2_ : Aside0 (Kd.R Kd.bool 4 ((w27.setCell ⟨gb366, 0, none⟩ (.bool t361)).setCell ⟨gb366, 1, none⟩ (.slice Ao32 t362.length co32)) w.heap.size (fun k_ => some k_ ≠ (.slice Ao19 t351.length co19 : Value).ownBlock ∧ some k_ ≠ (.slice Ao25 t356.length co25 : Value).ownBlock) (.slice Ao32 t362.length co32) t362) := ⟨by (with_reducible repeat (first | apply Kd.R_alloc | apply Kd.R_drewN | apply Kd.R_drew)); exact Kd.R_mono (Kd.R_far (p := ⟨gb366, 1, none⟩) (Kd.R_far (p := ⟨gb366, 0, none⟩) (Kd.R_types HO364.out BK366.out (by decide)) (fun _ hk => hk.2) (.bool t361)) (fun _ hk => hk.2) (.slice Ao32 t362.length co32)) (fun _ hk => ⟨hk.1.1.2, hk.1.2⟩)⟩
      have n3_ : Aside0 (((w27.setCell ⟨gb366, 0, none⟩ (.bool t361)).setCell ⟨gb366, 1, none⟩ (.slice Ao32 t362.length co32)).heap[gb348]? = some (.cells #[.bool a0_0, .slice A0_1 l0_1.length c0_1] 25 (0, 0))) := ⟨by (with_reducible repeat (first | refine blk_drewN ?_ _ | refine blk_drew ?_ | refine blk_alloc ?_ _)); refine blk_far ?_ NB348_366.out _; (with_reducible repeat (first | refine blk_drewN ?_ _ | refine blk_drew ?_ | refine blk_alloc ?_ _)); refine blk_far ?_ NB348_366.out _; (with_reducible repeat (first | refine blk_drewN ?_ _ | refine blk_drew ?_ | refine blk_alloc ?_ _)); exact BK348.out⟩
      have n4_ : Aside0 (((w27.setCell ⟨gb366, 0, none⟩ (.bool t361)).setCell ⟨gb366, 1, none⟩ (.slice Ao32 t362.length co32)).heap[gb354]? = some (.cells #[.bool t350, .slice Ao19 t351.length co19] 25 (0, 0))) := ⟨by (with_reducible repeat (first | refine blk_drewN ?_ _ | refine blk_drew ?_ | refine blk_alloc ?_ _)); refine blk_far ?_ NB354_366.out _; (with_reducible repeat (first | refine blk_drewN ?_ _ | refine blk_drew ?_ | refine blk_alloc ?_ _)); refine blk_far ?_ NB354_366.out _; (with_reducible repeat (first | refine blk_drewN ?_ _ | refine blk_drew ?_ | refine blk_alloc ?_ _)); exact BK354.out⟩
      have n5_ : Aside0 (((w27.setCell ⟨gb366, 0, none⟩ (.bool t361)).setCell ⟨gb366, 1, none⟩ (.slice Ao32 t362.length co32)).heap[gb360]? = some (.cells #[.bool t355, .slice Ao25 t356.length co25] 25 (0, 0))) := ⟨by (with_reducible repeat (first | refine blk_drewN ?_ _ | refine blk_drew ?_ | refine blk_alloc ?_ _)); refine blk_far ?_ NB360_366.out _; (with_reducible repeat (first | refine blk_drewN ?_ _ | refine blk_drew ?_ | refine blk_alloc ?_ _)); refine blk_far ?_ NB360_366.out _; (with_reducible repeat (first | refine blk_drewN ?_ _ | refine blk_drew ?_ | refine blk_alloc ?_ _)); exact BK360.out⟩
      have n6_ : Aside0 (((w27.setCell ⟨gb366, 0, none⟩ (.bool t361)).setCell ⟨gb366, 1, none⟩ (.slice Ao32 t362.length co32)).heap[gb366]? = some (.cells #[.bool t361, .slice Ao32 t362.length co32] 25 (0, 0))) := ⟨by (with_reducible repeat (first | refine blk_drewN ?_ _ | refine blk_drew ?_ | refine blk_alloc ?_ _)); refine blk_put (cs := #[.bool t361, .slice none 0 0]) ?_ 1 _ rfl; (with_reducible repeat (first | refine blk_drewN ?_ _ | refine blk_drew ?_ | refine blk_alloc ?_ _)); refine blk_put (cs := #[.bool false, .slice none 0 0]) ?_ 0 _ rfl; (with_reducible repeat (first | refine blk_drewN ?_ _ | refine blk_drew ?_ | refine blk_alloc ?_ _)); exact BK366.out⟩
      have n7_ : Aside0 (Below w.heap.size w ((w27.setCell ⟨gb366, 0, none⟩ (.bool t361)).setCell ⟨gb366, 1, none⟩ (.slice Ao32 t362.length co32))) := ⟨by repeat (first | (with_reducible first | exact HB.out | apply below_alloc | apply pw_below_drewN | apply below_drew1 | refine below_set ?_ GE348.out | refine below_set ?_ GE354.out | refine below_set ?_ GE360.out | refine below_set ?_ GE366.out) | exact HB.out)⟩
      (try clear HO353)
      (try clear HO358)
      (try clear HO364)
      (try clear BK348)
      (try clear BK354)
      (try clear BK360)
      (try clear BK366)
      (try clear HB)
      generalize ((w27.setCell ⟨gb366, 0, none⟩ (.bool t361)).setCell ⟨gb366, 1, none⟩ (.slice Ao32 t362.length co32)) = w38 at n0_ n1_ n2_ n3_ n4_ n5_ n6_ n7_ ⊢
      have HO353 := n0_
      have HO358 := n1_
      have HO364 := n2_
      have BK348 := n3_
      have BK354 := n4_
      have BK360 := n5_
      have BK366 := n6_
      have HB := n7_
      clear n0_ n1_ n2_ n3_ n4_ n5_ n6_ n7_
      have n0_ := Aside0.mk (Kd.R_drew HO353.out)
      have n1_ := Aside0.mk (Kd.R_drew HO358.out)
      have n2_ := Aside0.mk (Kd.R_drew HO364.out)
      have n3_ := Aside0.mk (blk_drew BK348.out)
      have n4_ := Aside0.mk (blk_drew BK354.out)
      have n5_ := Aside0.mk (blk_drew BK360.out)
      have n6_ := Aside0.mk (blk_drew BK366.out)
      have n7_ := Aside0.mk (below_drew1 HB.out)
      clear HO353
      clear HO358
      clear HO364
      clear BK348
      clear BK354
      clear BK360
      clear BK366
      clear HB
      have HO353 := n0_
      have HO358 := n1_
      have HO364 := n2_
      have BK348 := n3_
      have BK354 := n4_
      have BK360 := n5_
      have BK366 := n6_
      have HB := n7_
      clear n0_ n1_ n2_ n3_ n4_ n5_ n6_ n7_
      refine start_ (n := 16) (S := fun w' => w'.cell? ⟨gb360, 0, none⟩ = some (.bool t355) ∧ w'.cell? ⟨gb360, 1, none⟩ = some (.slice Ao25 t356.length co25) ∧ w'.cell? ⟨gb366, 0, none⟩ = some (.bool t361) ∧ w'.cell? ⟨gb366, 1, none⟩ = some (.slice Ao32 t362.length co32) ∧ w'.cell? ⟨gb354, 0, none⟩ = some (.bool t350) ∧ w'.cell? ⟨gb354, 1, none⟩ = some (.slice Ao19 t351.length co19) ∧ w'.cell? ⟨gb348, 0, none⟩ = some (.bool a0_0) ∧ w'.cell? ⟨gb348, 1, none⟩ = some (.slice A0_1 l0_1.length c0_1)) (ds := []) #[false, false, false, false, false, false, false, false, false, false, false, false, false, false, false, false] (by kernel_rfl) rfl rfl ⟨(blk_cell BK360.out 0).trans rfl, (blk_cell BK360.out 1).trans rfl, (blk_cell BK366.out 0).trans rfl, (blk_cell BK366.out 1).trans rfl, (blk_cell BK354.out 0).trans rfl, (blk_cell BK354.out 1).trans rfl, (blk_cell BK348.out 0).trans rfl, (blk_cell BK348.out 1).trans rfl⟩ (fun hHeld => ?_); refine with_tabW L17_LockTurns.tab6 L17_LockTurns.bits6 (fun HT_ HW_ => ?_)
      generalize w38.drew = w39 at HO353 HO358 HO364 BK348 BK354 BK360 BK366 HB hHeld ⊢
      refine take_ (i := 0) (N := some 31) (v := ?_) (a' := ?_) #[true, false, false, false, false, false, false, false, false, false, false, false, false, false, false, false] rfl rfl (take_ofW HT_.out HW_.out (by kernel_rfl)) (fun _ _ _ h => h) (Or.inl ⟨by rfl, ?_⟩) hHeld ?_ ?_
      rotate_left
      · rintro w' ⟨s0, s1, s2, s3, s4, s5, s6, s7⟩
        go_simp
        with_reducible rfl
      rotate_left
      · simp only [Act.put, List.setIfInBounds_toArray, List.set_cons_zero, List.set_cons_succ, i64_w, i32_w]
        rfl
      refine take_ (i := 1) (N := some 32) (v := ?_) (a' := ?_) #[true, true, false, false, false, false, false, false, false, false, false, false, false, false, false, false] rfl rfl (take_ofW HT_.out HW_.out (by kernel_rfl)) (fun _ _ _ h => h) (Or.inl ⟨by rfl, ?_⟩) hHeld ?_ ?_
      rotate_left
      · rintro w' ⟨s0, s1, s2, s3, s4, s5, s6, s7⟩
        go_simp
        with_reducible rfl
      rotate_left
      · simp only [Act.put, List.setIfInBounds_toArray, List.set_cons_zero, List.set_cons_succ, i64_w, i32_w]
        rfl
      refine one_ (i := 2) (N := some 33) #[true, true, true, false, false, false, false, false, false, false, false, false, false, false, false, false] rfl rfl (one_of HT_.out (by kernel_rfl)) (by decide) (fun K hK => ?_)
      refine goes_ Try.func13 (by kernel_rfl) rfl #[.agg #[.bool t355, .slice Ao25 t356.length co25], .agg #[.bool t361, .slice Ao32 t362.length co32]] (by rfl) rfl rfl (by (try simp only [List.map_toArray, List.map_cons, List.map_nil]); first | done | rfl | (simp only [List.length_drop, List.length_take]; rfl)) ?_
      with_reducible refine (K_SameChain.calls k t355 _ _ t356 t361 _ _ t362 true _ ?side1 ?side2 ?side3 ?side4 A33.out).mono ?_
      (case side1 => repeat (first | exact (Kd.R_reads' HO358.out).2.2 | (with_reducible refine Kd.C_alloc ?_ _) | (with_reducible refine Kd.C_drewN ?_ _) | (with_reducible refine Kd.C_drew ?_)))
      (case side2 => exact (Kd.R_reads' HO358.out).2.1)
      (case side3 => repeat (first | exact (Kd.R_reads' HO364.out).2.2 | (with_reducible refine Kd.C_alloc ?_ _) | (with_reducible refine Kd.C_drewN ?_ _) | (with_reducible refine Kd.C_drew ?_)))
      (case side4 => exact (Kd.R_reads' HO364.out).2.1)
      rintro e w40 ⟨rfl, hb⟩
      refine ⟨_, rfl, ?_⟩
      have n0_ := Aside0.mk (Kd.R_below (by (with_reducible repeat (first | apply Kd.R_alloc | apply Kd.R_drewN | apply Kd.R_drew)); exact HO353.out) hb)
      have n1_ := Aside0.mk (Kd.R_below (by (with_reducible repeat (first | apply Kd.R_alloc | apply Kd.R_drewN | apply Kd.R_drew)); exact HO358.out) hb)
      have n2_ := Aside0.mk (Kd.R_below (by (with_reducible repeat (first | apply Kd.R_alloc | apply Kd.R_drewN | apply Kd.R_drew)); exact HO364.out) hb)
      have n3_ := Aside0.mk (blk_below (g := gb348) (o := .cells #[.bool a0_0, .slice A0_1 l0_1.length c0_1] 25 (0, 0)) (by (with_reducible repeat (first | refine blk_drewN ?_ _ | refine blk_drew ?_ | refine blk_alloc ?_ _)); exact BK348.out) hb)
      have n4_ := Aside0.mk (blk_below (g := gb354) (o := .cells #[.bool t350, .slice Ao19 t351.length co19] 25 (0, 0)) (by (with_reducible repeat (first | refine blk_drewN ?_ _ | refine blk_drew ?_ | refine blk_alloc ?_ _)); exact BK354.out) hb)
      have n5_ := Aside0.mk (blk_below (g := gb360) (o := .cells #[.bool t355, .slice Ao25 t356.length co25] 25 (0, 0)) (by (with_reducible repeat (first | refine blk_drewN ?_ _ | refine blk_drew ?_ | refine blk_alloc ?_ _)); exact BK360.out) hb)
      have n6_ := Aside0.mk (blk_below (g := gb366) (o := .cells #[.bool t361, .slice Ao32 t362.length co32] 25 (0, 0)) (by (with_reducible repeat (first | refine blk_drewN ?_ _ | refine blk_drew ?_ | refine blk_alloc ?_ _)); exact BK366.out) hb)
      have n7_ := Aside0.mk (below_step (by repeat (first | (with_reducible first | exact HB.out | apply below_alloc | apply pw_below_drewN | apply below_drew1 | refine below_set ?_ GE348.out | refine below_set ?_ GE354.out | refine below_set ?_ GE360.out | refine below_set ?_ GE366.out) | exact HB.out)) hb)
      clear HO353
      clear HO358
      clear HO364
      clear BK348
      clear BK354
      clear BK360
      clear BK366
      clear HB
      have HO353 := n0_
      have HO358 := n1_
      have HO364 := n2_
      have BK348 := n3_
      have BK354 := n4_
      have BK360 := n5_
      have BK366 := n6_
      have HB := n7_
      clear n0_ n1_ n2_ n3_ n4_ n5_ n6_ n7_
      (try clear hb)
      (try clear hb2)
      (try clear hk)
      (try clear hi)
      refine hK.out _ _ ⟨(blk_cell BK360.out 0).trans rfl, (blk_cell BK360.out 1).trans rfl, (blk_cell BK366.out 0).trans rfl, (blk_cell BK366.out 1).trans rfl, (blk_cell BK354.out 0).trans rfl, (blk_cell BK354.out 1).trans rfl, (blk_cell BK348.out 0).trans rfl, (blk_cell BK348.out 1).trans rfl⟩ (fun hHeld => ?_)
      clear hK K
      refine norm_ (a' := ?_) ?_ ?_
      rotate_left
      · show Act.put _ (some 33) _ = _
        simp only [Act.put, List.setIfInBounds_toArray, List.set_cons_zero, List.set_cons_succ, i64_w, i32_w]
        rfl
      refine pure_ (i := 3) (N := some 34) (v := ?_) (a' := ?_) #[true, true, true, true, false, false, false, false, false, false, false, false, false, false, false, false] rfl rfl (any_of HT_.out (by kernel_rfl)) (fun _ _ _ h => h) (Or.inl ⟨by rfl, ?_⟩) ?_ ?_
      rotate_left
      · intro w'
        go_simp
        with_reducible rfl
      rotate_left
      · simp only [Act.put, List.setIfInBounds_toArray, List.set_cons_zero, List.set_cons_succ, i64_w, i32_w]
        rfl
      refine pure_ (i := 4) (N := some 35) (v := ?_) (a' := ?_) #[true, true, true, true, true, false, false, false, false, false, false, false, false, false, false, false] rfl rfl (any_of HT_.out (by kernel_rfl)) (fun _ _ _ h => h) (Or.inl ⟨by rfl, ?_⟩) ?_ ?_
      rotate_left
      · intro w'
        go_simp
        with_reducible rfl
      rotate_left
      · simp only [Act.put, List.setIfInBounds_toArray, List.set_cons_zero, List.set_cons_succ, i64_w, i32_w]
        rfl
      refine pure_ (i := 5) (N := some 36) (v := ?_) (a' := ?_) #[true, true, true, true, true, true, false, false, false, false, false, false, false, false, false, false] rfl rfl (any_of HT_.out (by kernel_rfl)) (fun _ _ _ h => h) (Or.inl ⟨by rfl, ?_⟩) ?_ ?_
      rotate_left
      · intro w'
        go_simp
        with_reducible rfl
      rotate_left
      · simp only [Act.put, List.setIfInBounds_toArray, List.set_cons_zero, List.set_cons_succ, i64_w, i32_w]
        rfl
      refine pure_ (i := 6) (N := some 37) (v := ?_) (a' := ?_) #[true, true, true, true, true, true, true, false, false, false, false, false, false, false, false, false] rfl rfl (any_of HT_.out (by kernel_rfl)) (fun _ _ _ h => h) (Or.inl ⟨by rfl, ?_⟩) ?_ ?_
      rotate_left
      · intro w'
        go_simp
        with_reducible rfl
      rotate_left
      · simp only [Act.put, List.setIfInBounds_toArray, List.set_cons_zero, List.set_cons_succ, i64_w, i32_w]
        rfl
      refine pure_ (i := 7) (N := some 38) (v := ?_) (a' := ?_) #[true, true, true, true, true, true, true, true, false, false, false, false, false, false, false, false] rfl rfl (any_of HT_.out (by kernel_rfl)) (fun _ _ _ h => h) (Or.inl ⟨by rfl, ?_⟩) ?_ ?_
      rotate_left
      · intro w'
        go_simp
        with_reducible rfl
      rotate_left
      · simp only [Act.put, List.setIfInBounds_toArray, List.set_cons_zero, List.set_cons_succ, i64_w, i32_w]
        rfl
      refine pure_ (i := 8) (N := some 39) (v := ?_) (a' := ?_) #[true, true, true, true, true, true, true, true, true, false, false, false, false, false, false, false] rfl rfl (any_of HT_.out (by kernel_rfl)) (fun _ _ _ h => h) (Or.inl ⟨by rfl, ?_⟩) ?_ ?_
      rotate_left
      · intro w'
        go_simp
        with_reducible rfl
      rotate_left
      · simp only [Act.put, List.setIfInBounds_toArray, List.set_cons_zero, List.set_cons_succ, i64_w, i32_w]
        rfl
      refine pure_ (i := 9) (N := some 40) (v := ?_) (a' := ?_) #[true, true, true, true, true, true, true, true, true, true, false, false, false, false, false, false] rfl rfl (any_of HT_.out (by kernel_rfl)) (fun _ _ _ h => h) (Or.inl ⟨by rfl, ?_⟩) ?_ ?_
      rotate_left
      · intro w'
        go_simp
        with_reducible rfl
      rotate_left
      · simp only [Act.put, List.setIfInBounds_toArray, List.set_cons_zero, List.set_cons_succ, i64_w, i32_w]
        rfl
      refine take_ (i := 10) (N := some 41) (v := ?_) (a' := ?_) #[true, true, true, true, true, true, true, true, true, true, true, false, false, false, false, false] rfl rfl (take_ofW HT_.out HW_.out (by kernel_rfl)) (fun _ _ _ h => h) (Or.inl ⟨by rfl, ?_⟩) hHeld ?_ ?_
      rotate_left
      · rintro w' ⟨s0, s1, s2, s3, s4, s5, s6, s7⟩
        go_simp
        with_reducible rfl
      rotate_left
      · simp only [Act.put, List.setIfInBounds_toArray, List.set_cons_zero, List.set_cons_succ, i64_w, i32_w]
        rfl
      refine take_ (i := 12) (N := some 43) (v := ?_) (a' := ?_) #[true, true, true, true, true, true, true, true, true, true, true, false, true, false, false, false] rfl rfl (take_ofW HT_.out HW_.out (by kernel_rfl)) (fun _ _ _ h => h) (Or.inl ⟨by rfl, ?_⟩) hHeld ?_ ?_
      rotate_left
      · rintro w' ⟨s0, s1, s2, s3, s4, s5, s6, s7⟩
        go_simp
        with_reducible rfl
      rotate_left
      · simp only [Act.put, List.setIfInBounds_toArray, List.set_cons_zero, List.set_cons_succ, i64_w, i32_w]
        rfl
      refine one_ (i := 11) (N := some 42) #[true, true, true, true, true, true, true, true, true, true, true, true, true, false, false, false] rfl rfl (one_of HT_.out (by kernel_rfl)) (by decide) (fun K hK => ?_)
      refine goes_ Try.func28 (by kernel_rfl) rfl #[.agg #[.bool t350, .slice Ao19 t351.length co19]] (by rfl) rfl rfl (by (try simp only [List.map_toArray, List.map_cons, List.map_nil]); first | done | rfl | (simp only [List.length_drop, List.length_take]; rfl)) ?_
      with_reducible refine (lock_Check.calls k t350 _ _ t351 t368 _ ?side1 ?side2 A36.out).mono ?_
      (case side1 => repeat (first | exact (Kd.R_reads' HO353.out).2.2 | (with_reducible refine Kd.C_alloc ?_ _) | (with_reducible refine Kd.C_drewN ?_ _) | (with_reducible refine Kd.C_drew ?_)))
      (case side2 => exact (Kd.R_reads' HO353.out).2.1)
      rintro e w41 ⟨rfl, hb⟩
      refine ⟨_, rfl, ?_⟩
      have n0_ := Aside0.mk (Kd.R_below (by (with_reducible repeat (first | apply Kd.R_alloc | apply Kd.R_drewN | apply Kd.R_drew)); exact HO353.out) hb)
      have n1_ := Aside0.mk (Kd.R_below (by (with_reducible repeat (first | apply Kd.R_alloc | apply Kd.R_drewN | apply Kd.R_drew)); exact HO358.out) hb)
      have n2_ := Aside0.mk (Kd.R_below (by (with_reducible repeat (first | apply Kd.R_alloc | apply Kd.R_drewN | apply Kd.R_drew)); exact HO364.out) hb)
      have n3_ := Aside0.mk (blk_below (g := gb348) (o := .cells #[.bool a0_0, .slice A0_1 l0_1.length c0_1] 25 (0, 0)) (by (with_reducible repeat (first | refine blk_drewN ?_ _ | refine blk_drew ?_ | refine blk_alloc ?_ _)); exact BK348.out) hb)
      have n4_ := Aside0.mk (blk_below (g := gb354) (o := .cells #[.bool t350, .slice Ao19 t351.length co19] 25 (0, 0)) (by (with_reducible repeat (first | refine blk_drewN ?_ _ | refine blk_drew ?_ | refine blk_alloc ?_ _)); exact BK354.out) hb)
      have n5_ := Aside0.mk (blk_below (g := gb360) (o := .cells #[.bool t355, .slice Ao25 t356.length co25] 25 (0, 0)) (by (with_reducible repeat (first | refine blk_drewN ?_ _ | refine blk_drew ?_ | refine blk_alloc ?_ _)); exact BK360.out) hb)
      have n6_ := Aside0.mk (blk_below (g := gb366) (o := .cells #[.bool t361, .slice Ao32 t362.length co32] 25 (0, 0)) (by (with_reducible repeat (first | refine blk_drewN ?_ _ | refine blk_drew ?_ | refine blk_alloc ?_ _)); exact BK366.out) hb)
      have n7_ := Aside0.mk (below_step (by repeat (first | (with_reducible first | exact HB.out | apply below_alloc | apply pw_below_drewN | apply below_drew1 | refine below_set ?_ GE348.out | refine below_set ?_ GE354.out | refine below_set ?_ GE360.out | refine below_set ?_ GE366.out) | exact HB.out)) hb)
      clear HO353
      clear HO358
      clear HO364
      clear BK348
      clear BK354
      clear BK360
      clear BK366
      clear HB
      have HO353 := n0_
      have HO358 := n1_
      have HO364 := n2_
      have BK348 := n3_
      have BK354 := n4_
      have BK360 := n5_
      have BK366 := n6_
      have HB := n7_
      clear n0_ n1_ n2_ n3_ n4_ n5_ n6_ n7_
      (try clear hb)
      (try clear hb2)
      (try clear hk)
      (try clear hi)
      refine hK.out _ _ ⟨(blk_cell BK360.out 0).trans rfl, (blk_cell BK360.out 1).trans rfl, (blk_cell BK366.out 0).trans rfl, (blk_cell BK366.out 1).trans rfl, (blk_cell BK354.out 0).trans rfl, (blk_cell BK354.out 1).trans rfl, (blk_cell BK348.out 0).trans rfl, (blk_cell BK348.out 1).trans rfl⟩ (fun hHeld => ?_)
      clear hK K
      refine norm_ (a' := ?_) ?_ ?_
      rotate_left
      · show Act.put _ (some 42) _ = _
        simp only [Act.put, List.setIfInBounds_toArray, List.set_cons_zero, List.set_cons_succ, i64_w, i32_w]
        rfl
      refine one_ (i := 13) (N := some 44) #[true, true, true, true, true, true, true, true, true, true, true, true, true, true, false, false] rfl rfl (one_of HT_.out (by kernel_rfl)) (by decide) (fun K hK => ?_)
      refine goes_ Try.func29 (by kernel_rfl) rfl #[.agg #[.bool a0_0, .slice A0_1 l0_1.length c0_1]] (by rfl) rfl rfl (by (try simp only [List.map_toArray, List.map_cons, List.map_nil]); first | done | rfl | (simp only [List.length_drop, List.length_take]; rfl)) ?_
      with_reducible refine (R17_Check.calls k a0_0 _ _ l0_1 t369 _ ?side1 ?side2 A37.out).mono ?_
      (case side1 => repeat (first | exact (Kd.C_below HR0_1.out HB.out) | (with_reducible refine Kd.C_alloc ?_ _) | (with_reducible refine Kd.C_drewN ?_ _) | (with_reducible refine Kd.C_drew ?_)))
      (case side2 => exact HC0_1.out)
      rintro e w42 ⟨rfl, hb⟩
      refine ⟨_, rfl, ?_⟩
      have n0_ := Aside0.mk (Kd.R_below (by (with_reducible repeat (first | apply Kd.R_alloc | apply Kd.R_drewN | apply Kd.R_drew)); exact HO353.out) hb)
      have n1_ := Aside0.mk (Kd.R_below (by (with_reducible repeat (first | apply Kd.R_alloc | apply Kd.R_drewN | apply Kd.R_drew)); exact HO358.out) hb)
      have n2_ := Aside0.mk (Kd.R_below (by (with_reducible repeat (first | apply Kd.R_alloc | apply Kd.R_drewN | apply Kd.R_drew)); exact HO364.out) hb)
      have n3_ := Aside0.mk (blk_below (g := gb348) (o := .cells #[.bool a0_0, .slice A0_1 l0_1.length c0_1] 25 (0, 0)) (by (with_reducible repeat (first | refine blk_drewN ?_ _ | refine blk_drew ?_ | refine blk_alloc ?_ _)); exact BK348.out) hb)
      have n4_ := Aside0.mk (blk_below (g := gb354) (o := .cells #[.bool t350, .slice Ao19 t351.length co19] 25 (0, 0)) (by (with_reducible repeat (first | refine blk_drewN ?_ _ | refine blk_drew ?_ | refine blk_alloc ?_ _)); exact BK354.out) hb)
      have n5_ := Aside0.mk (blk_below (g := gb360) (o := .cells #[.bool t355, .slice Ao25 t356.length co25] 25 (0, 0)) (by (with_reducible repeat (first | refine blk_drewN ?_ _ | refine blk_drew ?_ | refine blk_alloc ?_ _)); exact BK360.out) hb)
      have n6_ := Aside0.mk (blk_below (g := gb366) (o := .cells #[.bool t361, .slice Ao32 t362.length co32] 25 (0, 0)) (by (with_reducible repeat (first | refine blk_drewN ?_ _ | refine blk_drew ?_ | refine blk_alloc ?_ _)); exact BK366.out) hb)
      have n7_ := Aside0.mk (below_step (by repeat (first | (with_reducible first | exact HB.out | apply below_alloc | apply pw_below_drewN | apply below_drew1 | refine below_set ?_ GE348.out | refine below_set ?_ GE354.out | refine below_set ?_ GE360.out | refine below_set ?_ GE366.out) | exact HB.out)) hb)
      clear HO353
      clear HO358
      clear HO364
      clear BK348
      clear BK354
      clear BK360
      clear BK366
      clear HB
      have HO353 := n0_
      have HO358 := n1_
      have HO364 := n2_
      have BK348 := n3_
      have BK354 := n4_
      have BK360 := n5_
      have BK366 := n6_
      have HB := n7_
      clear n0_ n1_ n2_ n3_ n4_ n5_ n6_ n7_
      (try clear hb)
      (try clear hb2)
      (try clear hk)
      (try clear hi)
      refine hK.out _ _ ⟨(blk_cell BK360.out 0).trans rfl, (blk_cell BK360.out 1).trans rfl, (blk_cell BK366.out 0).trans rfl, (blk_cell BK366.out 1).trans rfl, (blk_cell BK354.out 0).trans rfl, (blk_cell BK354.out 1).trans rfl, (blk_cell BK348.out 0).trans rfl, (blk_cell BK348.out 1).trans rfl⟩ (fun hHeld => ?_)
      clear hK K
      refine norm_ (a' := ?_) ?_ ?_
      rotate_left
      · show Act.put _ (some 44) _ = _
        simp only [Act.put, List.setIfInBounds_toArray, List.set_cons_zero, List.set_cons_succ, i64_w, i32_w]
        rfl
      refine pure_ (i := 14) (N := some 45) (v := ?_) (a' := ?_) #[true, true, true, true, true, true, true, true, true, true, true, true, true, true, true, false] rfl rfl (any_of HT_.out (by kernel_rfl)) (fun _ _ _ h => h) (Or.inl ⟨by rfl, ?_⟩) ?_ ?_
      rotate_left
      · intro w'
        go_simp
        with_reducible rfl
      rotate_left
      · simp only [Act.put, List.setIfInBounds_toArray, List.set_cons_zero, List.set_cons_succ, i64_w, i32_w]
        rfl
      refine pure_ (i := 15) (N := some 46) (v := ?_) (a' := ?_) #[true, true, true, true, true, true, true, true, true, true, true, true, true, true, true, true] rfl rfl (any_of HT_.out (by kernel_rfl)) (fun _ _ _ h => h) (Or.inl ⟨by rfl, ?_⟩) ?_ ?_
      rotate_left
      · intro w'
        go_simp
        with_reducible rfl
      rotate_left
      · simp only [Act.put, List.setIfInBounds_toArray, List.set_cons_zero, List.set_cons_succ, i64_w, i32_w]
        rfl
      refine done_ (done_of HT_.out (by kernel_rfl)) ?_
      try go_wp2
      go_meet
      case rel => exact ⟨_, ((t368 != t369)), (by first | rfl | (simp; done) | (simp [*]; done)), H', ⟨by first | omega | exact Nat.le_refl _⟩, ⟨by (with_reducible repeat (first | apply Kd.R_alloc | apply Kd.R_drewN | apply Kd.R_drew)); exact HO353.out⟩, ⟨by (with_reducible repeat (first | apply Kd.R_alloc | apply Kd.R_drewN | apply Kd.R_drew)); exact HO358.out⟩, ⟨by (with_reducible repeat (first | apply Kd.R_alloc | apply Kd.R_drewN | apply Kd.R_drew)); exact HO364.out⟩, ⟨by (with_reducible repeat (first | refine blk_drewN ?_ _ | refine blk_drew ?_ | refine blk_alloc ?_ _)); exact BK348.out⟩, ⟨by (with_reducible repeat (first | refine blk_drewN ?_ _ | refine blk_drew ?_ | refine blk_alloc ?_ _)); exact BK354.out⟩, ⟨by (with_reducible repeat (first | refine blk_drewN ?_ _ | refine blk_drew ?_ | refine blk_alloc ?_ _)); exact BK360.out⟩, ⟨by (with_reducible repeat (first | refine blk_drewN ?_ _ | refine blk_drew ?_ | refine blk_alloc ?_ _)); exact BK366.out⟩, ⟨by repeat (first | (with_reducible first | exact HB.out | apply below_alloc | apply pw_below_drewN | apply below_drew1 | refine below_set ?_ GE348.out | refine below_set ?_ GE354.out | refine below_set ?_ GE360.out | refine below_set ?_ GE366.out) | exact HB.out)⟩⟩
    case rest =>
      clear HC12
      try clear c1
      try clear c2
      try clear p2
      try clear c3
      try clear c4
      try clear c4b0
      try clear c4b1
      try clear c5
      try clear c10
      try clear c13
      try clear c17
      try clear c22
      try clear c23
      try clear c25
      try clear c26
      try clear c27
      try clear c28
      try clear c29
      try clear c30
      try clear c34
      try clear c35
      try clear c35b0
      try clear c35b1
      try clear hcz14_0
      try clear hcz14_1
      try clear hcz18_0
      try clear hcz18_1
      try clear hcz24_0
      try clear hcz24_1
      try clear hcz31_0
      try clear hcz31_1
      try clear hcz7_0
      try clear hcz7_1
      try clear hfz14_0
      try clear hfz14_1
      try clear hfz18_0
      try clear hfz18_1
      try clear hfz24_0
      try clear hfz24_1
      try clear hfz31_0
      try clear hfz31_1
      try clear hfz7_0
      try clear hfz7_1
      obtain ⟨kq, x46_11, rfl, HA, HJ11, HO_355001, HO_361001, HO_367001, BK348, BK354, BK360, BK366, HB⟩ := hcut
      cases kq with
      | zero => exact absurd HA.out (by simp [L17_LockTurns.j0])
      | succ kj11 =>
        have H := HA.out
        clear HA
        simp only [L17_LockTurns.j0] at H
        by_cases c43 : x46_11 = true
        · subst c43
          have H1 : (some false) = some true := by rw [if_pos rfl] at H; exact H
          clear H
          have H := H1
          clear H1
          exact absurd H (by repeat (first | exact never_none | exact never_false | refine never_ite ?_ ?_ | refine never_bind (fun _ => ?_) | exact L17_LockTurns.j0_d46true _ _ _ _ _ _ | exact L17_LockTurns.j1_d67true _ _ _ _ _ | exact L17_LockTurns.j2_d86true _ _ _ _ _))
        replace c43 := Bool.eq_false_iff.mpr c43
        subst c43
        have H1 : ((lock_Unlock.f t350 t351 a1).bind fun bt370 => ((R17_Unlock.f kj11 a0_0 l0_1 a1).bind fun bt375 => ((K_SameChain.f kj11 bt370.1 bt370.2.1 bt375.1 bt375.2.1).bind fun t380 => (if t380 = true then (L17_LockTurns.j1 kj11 (bt370.2.2 != bt375.2.2) a0_0 l0_1 t350 t351) else (L17_LockTurns.j1 kj11 true a0_0 l0_1 t350 t351))))) = some true := by rw [if_neg (show ¬ (false = true) by decide)] at H; exact H
        clear H
        have H := H1
        clear H1
        replace H := Option.bind_eq_some_iff.mp H
        obtain ⟨⟨t370, t371, t374⟩, A440, H⟩ := H
        replace H : ((R17_Unlock.f kj11 a0_0 l0_1 a1).bind fun bt375 => ((K_SameChain.f kj11 t370 t371 bt375.1 bt375.2.1).bind fun t380 => (if t380 = true then (L17_LockTurns.j1 kj11 (t374 != bt375.2.2) a0_0 l0_1 t350 t351) else (L17_LockTurns.j1 kj11 true a0_0 l0_1 t350 t351)))) = some true := H
        have A44 := Aside0.mk A440
        clear A440
        replace H := Option.bind_eq_some_iff.mp H
        obtain ⟨⟨t375, t376, t379⟩, A450, H⟩ := H
        replace H : ((K_SameChain.f kj11 t370 t371 t375 t376).bind fun t380 => (if t380 = true then (L17_LockTurns.j1 kj11 (t374 != t379) a0_0 l0_1 t350 t351) else (L17_LockTurns.j1 kj11 true a0_0 l0_1 t350 t351))) = some true := H
        have A45 := Aside0.mk A450
        clear A450
        have HC46 := Aside0.mk H
        clear H
        have hnb47 := NB354_348.out
        have hnc47 := NB348_354.out
        have hnb48 := NB354_360.out
        have hnc48 := NB360_354.out
        have hnb49 := NB354_366.out
        have hnc49 := NB366_354.out
        have hcz50_0 : wc.cell? ⟨gb354, 0, none⟩ = some (.bool t350) := (blk_cell BK354.out 0).trans rfl
        have hcz50_1 : wc.cell? ⟨gb354, 1, none⟩ = some (.slice Ao19 t351.length co19) := (blk_cell BK354.out 1).trans rfl
        have hfz50_0 := blk_frozen BK354.out 0
        have hfz50_1 := blk_frozen BK354.out 1
        go_upto_region 10 with (first | ((with_reducible refine gate_callee (f := 30) rfl ?_); refine goesL_ (some 50) rfl rfl Try.func30 (by kernel_rfl) rfl #[.agg #[.bool t350, .slice Ao19 t351.length co19], .int .i64 a1] rfl (by (try simp only [List.map_toArray, List.map_cons, List.map_nil]); first | done | rfl | (simp only [List.length_drop, List.length_take]; rfl)) ?_; (with_reducible refine (lock_Unlock.calls t350 _ _ t351 a1 t370 t371 t374 _ ?side1 ?side2 A44.out).mono ?_); (case side1 => repeat (first | exact (Kd.R_reads' HO_355001.out).2.2 | (with_reducible refine Kd.C_alloc ?_ _) | (with_reducible refine Kd.C_drewN ?_ _) | (with_reducible refine Kd.C_drew ?_))); (case side2 => exact (Kd.R_reads' HO_355001.out).2.1); rintro e w51 ⟨v372, rfl, ho0, hb⟩; refine ⟨_, rfl, ?_⟩; have n0_ := Aside0.mk (Kd.R_elder' (by (with_reducible repeat (first | apply Kd.R_alloc | apply Kd.R_drewN | apply Kd.R_drew)); exact HO_355001.out) (Kd.R_base ho0) hb); have n1_ := Aside0.mk (Kd.R_elder' (by (with_reducible repeat (first | apply Kd.R_alloc | apply Kd.R_drewN | apply Kd.R_drew)); exact HO_361001.out) (Kd.R_base ho0) hb); have n2_ := Aside0.mk (Kd.R_elder' (by (with_reducible repeat (first | apply Kd.R_alloc | apply Kd.R_drewN | apply Kd.R_drew)); exact HO_367001.out) (Kd.R_base ho0) hb); have n3_ := Aside0.mk (Kd.R_lower (Kd.R_new' (Kd.R_new' (Kd.R_new' ho0 (Kd.R_lt (by (with_reducible repeat (first | apply Kd.R_alloc | apply Kd.R_drewN | apply Kd.R_drew)); exact HO_355001.out))) (Kd.R_lt (by (with_reducible repeat (first | apply Kd.R_alloc | apply Kd.R_drewN | apply Kd.R_drew)); exact HO_361001.out))) (Kd.R_lt (by (with_reducible repeat (first | apply Kd.R_alloc | apply Kd.R_drewN | apply Kd.R_drew)); exact HO_367001.out))) (below_size (by repeat (first | (with_reducible first | exact HB.out | apply below_alloc | apply pw_below_drewN | apply below_drew1 | refine below_set ?_ GE348.out | refine below_set ?_ GE354.out | refine below_set ?_ GE360.out | refine below_set ?_ GE366.out) | exact HB.out)))); have n4_ := Aside0.mk (blk_below (g := gb348) (o := .cells #[.bool a0_0, .slice A0_1 l0_1.length c0_1] 25 (0, 0)) (by (with_reducible repeat (first | refine blk_drewN ?_ _ | refine blk_drew ?_ | refine blk_alloc ?_ _)); exact BK348.out) hb); have n5_ := Aside0.mk (blk_below (g := gb354) (o := .cells #[.bool t350, .slice Ao19 t351.length co19] 25 (0, 0)) (by (with_reducible repeat (first | refine blk_drewN ?_ _ | refine blk_drew ?_ | refine blk_alloc ?_ _)); exact BK354.out) hb); have n6_ := Aside0.mk (blk_below (g := gb360) (o := .cells #[.bool t355, .slice Ao25 t356.length co25] 25 (0, 0)) (by (with_reducible repeat (first | refine blk_drewN ?_ _ | refine blk_drew ?_ | refine blk_alloc ?_ _)); exact BK360.out) hb); have n7_ := Aside0.mk (blk_below (g := gb366) (o := .cells #[.bool t361, .slice Ao32 t362.length co32] 25 (0, 0)) (by (with_reducible repeat (first | refine blk_drewN ?_ _ | refine blk_drew ?_ | refine blk_alloc ?_ _)); exact BK366.out) hb); have n8_ := Aside0.mk (below_step (by repeat (first | (with_reducible first | exact HB.out | apply below_alloc | apply pw_below_drewN | apply below_drew1 | refine below_set ?_ GE348.out | refine below_set ?_ GE354.out | refine below_set ?_ GE360.out | refine below_set ?_ GE366.out) | exact HB.out)) hb); clear HO_355001; clear HO_361001; clear HO_367001; clear BK348; clear BK354; clear BK360; clear BK366; clear HB; have HO_355001 := n0_; have HO_361001 := n1_; have HO_367001 := n2_; have HO373 := n3_; have BK348 := n4_; have BK354 := n5_; have BK360 := n6_; have BK366 := n7_; have HB := n8_; clear n0_ n1_ n2_ n3_ n4_ n5_ n6_ n7_ n8_; (try clear hb); (try clear hb2); (try clear hk); (try clear hi); (try clear ho0); have hnb52 := NB360_348.out; have hnc52 := NB348_360.out; have hnb53 := NB360_366.out; have hnc53 := NB366_360.out; have hcz54_0 : w51.cell? ⟨gb360, 0, none⟩ = some (.bool t355) := (blk_cell BK360.out 0).trans rfl; have hcz54_1 : w51.cell? ⟨gb360, 1, none⟩ = some (.slice Ao25 t356.length co25) := (blk_cell BK360.out 1).trans rfl; have hfz54_0 := blk_frozen BK360.out 0; have hfz54_1 := blk_frozen BK360.out 1; obtain ⟨Ao55, co55, eo55⟩ := Kd.R_slice HO373.out; subst eo55; have hnb56 := NB348_366.out; have hnc56 := NB366_348.out; have hcz57_0 : w51.cell? ⟨gb348, 0, none⟩ = some (.bool a0_0) := (blk_cell BK348.out 0).trans rfl; have hcz57_1 : w51.cell? ⟨gb348, 1, none⟩ = some (.slice A0_1 l0_1.length c0_1) := (blk_cell BK348.out 1).trans rfl; have hfz57_0 := blk_frozen BK348.out 0; have hfz57_1 := blk_frozen BK348.out 1) | ((with_reducible refine gate_callee (f := 31) rfl ?_); refine goesL_ (some 56) rfl rfl Try.func31 (by kernel_rfl) rfl #[.agg #[.bool a0_0, .slice A0_1 l0_1.length c0_1], .int .i64 a1] rfl (by (try simp only [List.map_toArray, List.map_cons, List.map_nil]); first | done | rfl | (simp only [List.length_drop, List.length_take]; rfl)) ?_; (with_reducible refine (R17_Unlock.calls kj11 a0_0 _ _ l0_1 a1 t375 t376 t379 _ ?side1 ?side2 A45.out).mono ?_); (case side1 => exact Kd.C_below HR0_1.out (by repeat (first | (with_reducible first | exact HB.out | apply below_alloc | apply pw_below_drewN | apply below_drew1 | refine below_set ?_ GE348.out | refine below_set ?_ GE354.out | refine below_set ?_ GE360.out | refine below_set ?_ GE366.out) | exact HB.out))); (case side2 => exact HC0_1.out); rintro e w58 ⟨v377, rfl, ho0, hb⟩; refine ⟨_, rfl, ?_⟩; have n0_ := Aside0.mk (Kd.R_elder' (by (with_reducible repeat (first | apply Kd.R_alloc | apply Kd.R_drewN | apply Kd.R_drew)); exact (Kd.R_mono (Kd.R_far (p := ⟨gb360, 1, none⟩) (Kd.R_far (p := ⟨gb360, 0, none⟩) (Kd.R_types HO_355001.out BK360.out (by decide)) (fun _ hk => hk.2) (.bool t370)) (fun _ hk => hk.2) (.slice Ao55 t371.length co55)) (fun _ h_ => h_.1))) (Kd.R_base ho0) hb); have n1_ := Aside0.mk (Kd.R_elder' (by (with_reducible repeat (first | apply Kd.R_alloc | apply Kd.R_drewN | apply Kd.R_drew)); exact (Kd.R_mono (Kd.R_far (p := ⟨gb360, 1, none⟩) (Kd.R_far (p := ⟨gb360, 0, none⟩) (Kd.R_types HO_361001.out BK360.out (by decide)) (fun _ hk => hk.2) (.bool t370)) (fun _ hk => hk.2) (.slice Ao55 t371.length co55)) (fun _ h_ => h_.1))) (Kd.R_base ho0) hb); have n2_ := Aside0.mk (Kd.R_elder' (by (with_reducible repeat (first | apply Kd.R_alloc | apply Kd.R_drewN | apply Kd.R_drew)); exact (Kd.R_mono (Kd.R_far (p := ⟨gb360, 1, none⟩) (Kd.R_far (p := ⟨gb360, 0, none⟩) (Kd.R_types HO_367001.out BK360.out (by decide)) (fun _ hk => hk.2) (.bool t370)) (fun _ hk => hk.2) (.slice Ao55 t371.length co55)) (fun _ h_ => h_.1))) (Kd.R_base ho0) hb); have n3_ := Aside0.mk (Kd.R_elder' (by (with_reducible repeat (first | apply Kd.R_alloc | apply Kd.R_drewN | apply Kd.R_drew)); exact (Kd.R_mono (Kd.R_far (p := ⟨gb360, 1, none⟩) (Kd.R_far (p := ⟨gb360, 0, none⟩) (Kd.R_types HO373.out BK360.out (by decide)) (fun _ hk => hk.2) (.bool t370)) (fun _ hk => hk.2) (.slice Ao55 t371.length co55)) (fun _ h_ => h_.1))) (Kd.R_base ho0) hb); have n4_ := Aside0.mk (Kd.R_lower (Kd.R_new' (Kd.R_new' (Kd.R_new' (Kd.R_new' ho0 (Kd.R_lt (by (with_reducible repeat (first | apply Kd.R_alloc | apply Kd.R_drewN | apply Kd.R_drew)); exact (Kd.R_mono (Kd.R_far (p := ⟨gb360, 1, none⟩) (Kd.R_far (p := ⟨gb360, 0, none⟩) (Kd.R_types HO_355001.out BK360.out (by decide)) (fun _ hk => hk.2) (.bool t370)) (fun _ hk => hk.2) (.slice Ao55 t371.length co55)) (fun _ h_ => h_.1))))) (Kd.R_lt (by (with_reducible repeat (first | apply Kd.R_alloc | apply Kd.R_drewN | apply Kd.R_drew)); exact (Kd.R_mono (Kd.R_far (p := ⟨gb360, 1, none⟩) (Kd.R_far (p := ⟨gb360, 0, none⟩) (Kd.R_types HO_361001.out BK360.out (by decide)) (fun _ hk => hk.2) (.bool t370)) (fun _ hk => hk.2) (.slice Ao55 t371.length co55)) (fun _ h_ => h_.1))))) (Kd.R_lt (by (with_reducible repeat (first | apply Kd.R_alloc | apply Kd.R_drewN | apply Kd.R_drew)); exact (Kd.R_mono (Kd.R_far (p := ⟨gb360, 1, none⟩) (Kd.R_far (p := ⟨gb360, 0, none⟩) (Kd.R_types HO_367001.out BK360.out (by decide)) (fun _ hk => hk.2) (.bool t370)) (fun _ hk => hk.2) (.slice Ao55 t371.length co55)) (fun _ h_ => h_.1))))) (Kd.R_lt (by (with_reducible repeat (first | apply Kd.R_alloc | apply Kd.R_drewN | apply Kd.R_drew)); exact (Kd.R_mono (Kd.R_far (p := ⟨gb360, 1, none⟩) (Kd.R_far (p := ⟨gb360, 0, none⟩) (Kd.R_types HO373.out BK360.out (by decide)) (fun _ hk => hk.2) (.bool t370)) (fun _ hk => hk.2) (.slice Ao55 t371.length co55)) (fun _ h_ => h_.1))))) (below_size (by repeat (first | (with_reducible first | exact HB.out | apply below_alloc | apply pw_below_drewN | apply below_drew1 | refine below_set ?_ GE348.out | refine below_set ?_ GE354.out | refine below_set ?_ GE360.out | refine below_set ?_ GE366.out) | exact HB.out)))); have n5_ := Aside0.mk (blk_below (g := gb348) (o := .cells #[.bool a0_0, .slice A0_1 l0_1.length c0_1] 25 (0, 0)) (by (with_reducible repeat (first | refine blk_drewN ?_ _ | refine blk_drew ?_ | refine blk_alloc ?_ _)); refine blk_far ?_ NB348_360.out _; (with_reducible repeat (first | refine blk_drewN ?_ _ | refine blk_drew ?_ | refine blk_alloc ?_ _)); refine blk_far ?_ NB348_360.out _; (with_reducible repeat (first | refine blk_drewN ?_ _ | refine blk_drew ?_ | refine blk_alloc ?_ _)); exact BK348.out) hb); have n6_ := Aside0.mk (blk_below (g := gb354) (o := .cells #[.bool t350, .slice Ao19 t351.length co19] 25 (0, 0)) (by (with_reducible repeat (first | refine blk_drewN ?_ _ | refine blk_drew ?_ | refine blk_alloc ?_ _)); refine blk_far ?_ NB354_360.out _; (with_reducible repeat (first | refine blk_drewN ?_ _ | refine blk_drew ?_ | refine blk_alloc ?_ _)); refine blk_far ?_ NB354_360.out _; (with_reducible repeat (first | refine blk_drewN ?_ _ | refine blk_drew ?_ | refine blk_alloc ?_ _)); exact BK354.out) hb); have n7_ := Aside0.mk (blk_below (g := gb360) (o := .cells #[.bool t370, .slice Ao55 t371.length co55] 25 (0, 0)) (by (with_reducible repeat (first | refine blk_drewN ?_ _ | refine blk_drew ?_ | refine blk_alloc ?_ _)); refine blk_put (cs := #[.bool t370, .slice Ao25 t356.length co25]) ?_ 1 _ rfl; (with_reducible repeat (first | refine blk_drewN ?_ _ | refine blk_drew ?_ | refine blk_alloc ?_ _)); refine blk_put (cs := #[.bool t355, .slice Ao25 t356.length co25]) ?_ 0 _ rfl; (with_reducible repeat (first | refine blk_drewN ?_ _ | refine blk_drew ?_ | refine blk_alloc ?_ _)); exact BK360.out) hb); have n8_ := Aside0.mk (blk_below (g := gb366) (o := .cells #[.bool t361, .slice Ao32 t362.length co32] 25 (0, 0)) (by (with_reducible repeat (first | refine blk_drewN ?_ _ | refine blk_drew ?_ | refine blk_alloc ?_ _)); refine blk_far ?_ NB366_360.out _; (with_reducible repeat (first | refine blk_drewN ?_ _ | refine blk_drew ?_ | refine blk_alloc ?_ _)); refine blk_far ?_ NB366_360.out _; (with_reducible repeat (first | refine blk_drewN ?_ _ | refine blk_drew ?_ | refine blk_alloc ?_ _)); exact BK366.out) hb); have n9_ := Aside0.mk (below_step (by repeat (first | (with_reducible first | exact HB.out | apply below_alloc | apply pw_below_drewN | apply below_drew1 | refine below_set ?_ GE348.out | refine below_set ?_ GE354.out | refine below_set ?_ GE360.out | refine below_set ?_ GE366.out) | exact HB.out)) hb); clear HO_355001; clear HO_361001; clear HO_367001; clear HO373; clear BK348; clear BK354; clear BK360; clear BK366; clear HB; have HO_355001 := n0_; have HO_361001 := n1_; have HO_367001 := n2_; have HO373 := n3_; have HO378 := n4_; have BK348 := n5_; have BK354 := n6_; have BK360 := n7_; have BK366 := n8_; have HB := n9_; clear n0_ n1_ n2_ n3_ n4_ n5_ n6_ n7_ n8_ n9_; (try clear hb); (try clear hb2); (try clear hk); (try clear hi); (try clear ho0); have hcz59_0 : w58.cell? ⟨gb366, 0, none⟩ = some (.bool t361) := (blk_cell BK366.out 0).trans rfl; have hcz59_1 : w58.cell? ⟨gb366, 1, none⟩ = some (.slice Ao32 t362.length co32) := (blk_cell BK366.out 1).trans rfl; have hfz59_0 := blk_frozen BK366.out 0; have hfz59_1 := blk_frozen BK366.out 1; obtain ⟨Ao60, co60, eo60⟩ := Kd.R_slice HO378.out; subst eo60))
        (try simp only [Act.put, List.setIfInBounds_toArray, List.set_cons_zero, List.set_cons_succ])
        go_cut [67] (fun v67 wc => ∃ (kq : Nat) (x67_45 : Bool), v67 = .bool x67_45 ∧ Aside0 (L17_LockTurns.j1 kq x67_45 a0_0 l0_1 t350 t351 = some true) ∧ Aside0 (kq ≤ kj11) ∧ Aside0 (Kd.R Kd.bool 4 wc w.heap.size (fun k_ => some k_ ≠ ((.slice Ao55 t371.length co55) : Value).ownBlock ∧ some k_ ≠ ((.slice Ao60 t376.length co60) : Value).ownBlock) (.slice Ao19 t351.length co19) t351) ∧ Aside0 (Kd.R Kd.bool 4 wc w.heap.size (fun k_ => some k_ ≠ ((.slice Ao19 t351.length co19) : Value).ownBlock ∧ some k_ ≠ ((.slice Ao60 t376.length co60) : Value).ownBlock) (.slice Ao55 t371.length co55) t371) ∧ Aside0 (Kd.R Kd.bool 4 wc w.heap.size (fun k_ => some k_ ≠ ((.slice Ao19 t351.length co19) : Value).ownBlock ∧ some k_ ≠ ((.slice Ao55 t371.length co55) : Value).ownBlock) (.slice Ao60 t376.length co60) t376) ∧ Aside0 (wc.heap[gb348]? = some (.cells #[.bool a0_0, (.slice A0_1 l0_1.length c0_1)] 25 (0, 0))) ∧ Aside0 (wc.heap[gb354]? = some (.cells #[.bool t350, (.slice Ao19 t351.length co19)] 25 (0, 0))) ∧ Aside0 (wc.heap[gb360]? = some (.cells #[.bool t370, (.slice Ao55 t371.length co55)] 25 (0, 0))) ∧ Aside0 (wc.heap[gb366]? = some (.cells #[.bool t375, (.slice Ao60 t376.length co60)] 25 (0, 0))) ∧ Aside0 (Below w.heap.size w wc))
        case first =>
          have H := HC46.out
          clear HC46
          replace H := Option.bind_eq_some_iff.mp H
          obtain ⟨t380, A610, H⟩ := H
          replace H : (if t380 = true then (L17_LockTurns.j1 kj11 (t374 != t379) a0_0 l0_1 t350 t351) else (L17_LockTurns.j1 kj11 true a0_0 l0_1 t350 t351)) = some true := H
          have A61 := Aside0.mk A610
          clear A610
          by_cases c62 : t380 = true
          rotate_left
          · replace c62 := Bool.eq_false_iff.mpr c62
            subst c62
            have H1 : (L17_LockTurns.j1 kj11 true a0_0 l0_1 t350 t351) = some true := by rw [if_neg (show ¬ (false = true) by decide)] at H; exact H
            clear H
            have H := H1
            clear H1
            exact absurd H (by repeat (first | exact never_none | exact never_false | refine never_ite ?_ ?_ | refine never_bind (fun _ => ?_) | exact L17_LockTurns.j0_d46true _ _ _ _ _ _ | exact L17_LockTurns.j1_d67true _ _ _ _ _ | exact L17_LockTurns.j2_d86true _ _ _ _ _))
          subst c62
          have H1 : (L17_LockTurns.j1 kj11 (t374 != t379) a0_0 l0_1 t350 t351) = some true := by rw [if_pos rfl] at H; exact H
          clear H
          have H := H1
          clear H1
          have H' := Aside0.mk H
          clear H
          have hnb63 := NB360_348.out
          have hnc63 := NB348_360.out
          have hnb64 := NB360_354.out
          have hnc64 := NB354_360.out
          have hnb65 := NB360_366.out
          have hnc65 := NB366_360.out
          have hcz66_0 : w58.cell? ⟨gb360, 0, none⟩ = some (.bool t370) := (blk_cell BK360.out 0).trans rfl
          have hcz66_1 : w58.cell? ⟨gb360, 1, none⟩ = some (.slice Ao55 t371.length co55) := (blk_cell BK360.out 1).trans rfl
          have hfz66_0 := blk_frozen BK360.out 0
          have hfz66_1 := blk_frozen BK360.out 1
          have hnb67 := NB366_348.out
          have hnc67 := NB348_366.out
          have hnb68 := NB366_354.out
          have hnc68 := NB354_366.out
          have hcz69_0 : w58.cell? ⟨gb366, 0, none⟩ = some (.bool t361) := (blk_cell BK366.out 0).trans rfl
          have hcz69_1 : w58.cell? ⟨gb366, 1, none⟩ = some (.slice Ao32 t362.length co32) := (blk_cell BK366.out 1).trans rfl
          have hfz69_0 := blk_frozen BK366.out 0
          have hfz69_1 := blk_frozen BK366.out 1
          go_wp2_with (first | ((with_reducible refine gate_callee (f := 13) rfl ?_); refine goesL_ (some 61) rfl rfl Try.func13 (by kernel_rfl) rfl #[.agg #[.bool t370, .slice Ao55 t371.length co55], .agg #[.bool t375, .slice Ao60 t376.length co60]] rfl (by (try simp only [List.map_toArray, List.map_cons, List.map_nil]); first | done | rfl | (simp only [List.length_drop, List.length_take]; rfl)) ?_; (with_reducible refine (K_SameChain.calls kj11 t370 _ _ t371 t375 _ _ t376 true _ ?side1 ?side2 ?side3 ?side4 A61.out).mono ?_); (case side1 => refine (Kd.R_reads' (e := 4) (base := w.heap.size) (ok := fun k_ => ((((True ∧ some k_ ≠ (.slice Ao19 t351.length co19 : Value).ownBlock) ∧ some k_ ≠ (.slice Ao25 t356.length co25 : Value).ownBlock) ∧ some k_ ≠ (.slice Ao32 t362.length co32 : Value).ownBlock) ∧ some k_ ≠ (.slice Ao60 t376.length co60 : Value).ownBlock)) (n := t371.length) (c := co55) ?_).2.2; exact (by (with_reducible repeat (first | apply Kd.R_alloc | apply Kd.R_drewN | apply Kd.R_drew)); exact (Kd.R_mono (Kd.R_far (p := ⟨gb366, 1, none⟩) (Kd.R_far (p := ⟨gb366, 0, none⟩) (Kd.R_types HO373.out BK366.out (by decide)) (fun _ hk => hk.2) (.bool t375)) (fun _ hk => hk.2) (.slice Ao60 t376.length co60)) (fun _ h_ => h_.1)))); (case side2 => exact (Kd.R_reads' HO373.out).2.1); (case side3 => refine (Kd.R_reads' (e := 4) (base := w.heap.size) (ok := fun k_ => ((((True ∧ some k_ ≠ (.slice Ao19 t351.length co19 : Value).ownBlock) ∧ some k_ ≠ (.slice Ao25 t356.length co25 : Value).ownBlock) ∧ some k_ ≠ (.slice Ao32 t362.length co32 : Value).ownBlock) ∧ some k_ ≠ (.slice Ao55 t371.length co55 : Value).ownBlock)) (n := t376.length) (c := co60) ?_).2.2; exact (by (with_reducible repeat (first | apply Kd.R_alloc | apply Kd.R_drewN | apply Kd.R_drew)); exact (Kd.R_mono (Kd.R_far (p := ⟨gb366, 1, none⟩) (Kd.R_far (p := ⟨gb366, 0, none⟩) (Kd.R_types HO378.out BK366.out (by decide)) (fun _ hk => hk.2) (.bool t375)) (fun _ hk => hk.2) (.slice Ao60 t376.length co60)) (fun _ h_ => h_.1)))); (case side4 => exact (Kd.R_reads' HO378.out).2.1); rintro e w70 ⟨rfl, hb⟩; refine ⟨_, rfl, ?_⟩; have n0_ := Aside0.mk (Kd.R_below (by (with_reducible repeat (first | apply Kd.R_alloc | apply Kd.R_drewN | apply Kd.R_drew)); exact (Kd.R_mono (Kd.R_far (p := ⟨gb366, 1, none⟩) (Kd.R_far (p := ⟨gb366, 0, none⟩) (Kd.R_types HO_355001.out BK366.out (by decide)) (fun _ hk => hk.2) (.bool t375)) (fun _ hk => hk.2) (.slice Ao60 t376.length co60)) (fun _ h_ => h_.1))) hb); have n1_ := Aside0.mk (Kd.R_below (by (with_reducible repeat (first | apply Kd.R_alloc | apply Kd.R_drewN | apply Kd.R_drew)); exact (Kd.R_mono (Kd.R_far (p := ⟨gb366, 1, none⟩) (Kd.R_far (p := ⟨gb366, 0, none⟩) (Kd.R_types HO_361001.out BK366.out (by decide)) (fun _ hk => hk.2) (.bool t375)) (fun _ hk => hk.2) (.slice Ao60 t376.length co60)) (fun _ h_ => h_.1))) hb); have n2_ := Aside0.mk (Kd.R_below (by (with_reducible repeat (first | apply Kd.R_alloc | apply Kd.R_drewN | apply Kd.R_drew)); exact (Kd.R_mono (Kd.R_far (p := ⟨gb366, 1, none⟩) (Kd.R_far (p := ⟨gb366, 0, none⟩) (Kd.R_types HO_367001.out BK366.out (by decide)) (fun _ hk => hk.2) (.bool t375)) (fun _ hk => hk.2) (.slice Ao60 t376.length co60)) (fun _ h_ => h_.1))) hb); have n3_ := Aside0.mk (Kd.R_below (by (with_reducible repeat (first | apply Kd.R_alloc | apply Kd.R_drewN | apply Kd.R_drew)); exact (Kd.R_mono (Kd.R_far (p := ⟨gb366, 1, none⟩) (Kd.R_far (p := ⟨gb366, 0, none⟩) (Kd.R_types HO373.out BK366.out (by decide)) (fun _ hk => hk.2) (.bool t375)) (fun _ hk => hk.2) (.slice Ao60 t376.length co60)) (fun _ h_ => h_.1))) hb); have n4_ := Aside0.mk (Kd.R_below (by (with_reducible repeat (first | apply Kd.R_alloc | apply Kd.R_drewN | apply Kd.R_drew)); exact (Kd.R_mono (Kd.R_far (p := ⟨gb366, 1, none⟩) (Kd.R_far (p := ⟨gb366, 0, none⟩) (Kd.R_types HO378.out BK366.out (by decide)) (fun _ hk => hk.2) (.bool t375)) (fun _ hk => hk.2) (.slice Ao60 t376.length co60)) (fun _ h_ => h_.1))) hb); have n5_ := Aside0.mk (blk_below (g := gb348) (o := .cells #[.bool a0_0, .slice A0_1 l0_1.length c0_1] 25 (0, 0)) (by (with_reducible repeat (first | refine blk_drewN ?_ _ | refine blk_drew ?_ | refine blk_alloc ?_ _)); refine blk_far ?_ NB348_366.out _; (with_reducible repeat (first | refine blk_drewN ?_ _ | refine blk_drew ?_ | refine blk_alloc ?_ _)); refine blk_far ?_ NB348_366.out _; (with_reducible repeat (first | refine blk_drewN ?_ _ | refine blk_drew ?_ | refine blk_alloc ?_ _)); exact BK348.out) hb); have n6_ := Aside0.mk (blk_below (g := gb354) (o := .cells #[.bool t350, .slice Ao19 t351.length co19] 25 (0, 0)) (by (with_reducible repeat (first | refine blk_drewN ?_ _ | refine blk_drew ?_ | refine blk_alloc ?_ _)); refine blk_far ?_ NB354_366.out _; (with_reducible repeat (first | refine blk_drewN ?_ _ | refine blk_drew ?_ | refine blk_alloc ?_ _)); refine blk_far ?_ NB354_366.out _; (with_reducible repeat (first | refine blk_drewN ?_ _ | refine blk_drew ?_ | refine blk_alloc ?_ _)); exact BK354.out) hb); have n7_ := Aside0.mk (blk_below (g := gb360) (o := .cells #[.bool t370, .slice Ao55 t371.length co55] 25 (0, 0)) (by (with_reducible repeat (first | refine blk_drewN ?_ _ | refine blk_drew ?_ | refine blk_alloc ?_ _)); refine blk_far ?_ NB360_366.out _; (with_reducible repeat (first | refine blk_drewN ?_ _ | refine blk_drew ?_ | refine blk_alloc ?_ _)); refine blk_far ?_ NB360_366.out _; (with_reducible repeat (first | refine blk_drewN ?_ _ | refine blk_drew ?_ | refine blk_alloc ?_ _)); exact BK360.out) hb); have n8_ := Aside0.mk (blk_below (g := gb366) (o := .cells #[.bool t375, .slice Ao60 t376.length co60] 25 (0, 0)) (by (with_reducible repeat (first | refine blk_drewN ?_ _ | refine blk_drew ?_ | refine blk_alloc ?_ _)); refine blk_put (cs := #[.bool t375, .slice Ao32 t362.length co32]) ?_ 1 _ rfl; (with_reducible repeat (first | refine blk_drewN ?_ _ | refine blk_drew ?_ | refine blk_alloc ?_ _)); refine blk_put (cs := #[.bool t361, .slice Ao32 t362.length co32]) ?_ 0 _ rfl; (with_reducible repeat (first | refine blk_drewN ?_ _ | refine blk_drew ?_ | refine blk_alloc ?_ _)); exact BK366.out) hb); have n9_ := Aside0.mk (below_step (by repeat (first | (with_reducible first | exact HB.out | apply below_alloc | apply pw_below_drewN | apply below_drew1 | refine below_set ?_ GE348.out | refine below_set ?_ GE354.out | refine below_set ?_ GE360.out | refine below_set ?_ GE366.out) | exact HB.out)) hb); clear HO_355001; clear HO_361001; clear HO_367001; clear HO373; clear HO378; clear BK348; clear BK354; clear BK360; clear BK366; clear HB; have HO_355001 := n0_; have HO_361001 := n1_; have HO_367001 := n2_; have HO373 := n3_; have HO378 := n4_; have BK348 := n5_; have BK354 := n6_; have BK360 := n7_; have BK366 := n8_; have HB := n9_; clear n0_ n1_ n2_ n3_ n4_ n5_ n6_ n7_ n8_ n9_; (try clear hb); (try clear hb2); (try clear hk); (try clear hi)))
          go_meet
          case rel => exact ⟨_, ((t374 != t379)), (by first | rfl | (simp; done) | (simp [*]; done)), H', ⟨by have := HJ11.out; first | omega | exact Nat.le_refl _⟩, ⟨by (with_reducible repeat (first | apply Kd.R_alloc | apply Kd.R_drewN | apply Kd.R_drew)); exact Kd.R_mono HO_355001.out (fun _ hk => ⟨hk.1.2, hk.2⟩)⟩, ⟨by (with_reducible repeat (first | apply Kd.R_alloc | apply Kd.R_drewN | apply Kd.R_drew)); exact Kd.R_mono HO373.out (fun _ hk => ⟨hk.1.1.1.2, hk.2⟩)⟩, ⟨by (with_reducible repeat (first | apply Kd.R_alloc | apply Kd.R_drewN | apply Kd.R_drew)); exact Kd.R_mono HO378.out (fun _ hk => ⟨hk.1.1.1.2, hk.2⟩)⟩, ⟨by (with_reducible repeat (first | refine blk_drewN ?_ _ | refine blk_drew ?_ | refine blk_alloc ?_ _)); exact BK348.out⟩, ⟨by (with_reducible repeat (first | refine blk_drewN ?_ _ | refine blk_drew ?_ | refine blk_alloc ?_ _)); exact BK354.out⟩, ⟨by (with_reducible repeat (first | refine blk_drewN ?_ _ | refine blk_drew ?_ | refine blk_alloc ?_ _)); exact BK360.out⟩, ⟨by (with_reducible repeat (first | refine blk_drewN ?_ _ | refine blk_drew ?_ | refine blk_alloc ?_ _)); exact BK366.out⟩, ⟨by repeat (first | (with_reducible first | exact HB.out | apply below_alloc | apply pw_below_drewN | apply below_drew1 | refine below_set ?_ GE348.out | refine below_set ?_ GE354.out | refine below_set ?_ GE360.out | refine below_set ?_ GE366.out) | exact HB.out)⟩⟩
        case rest =>
          clear HC46
          try clear c1
          try clear c2
          try clear p2
          try clear c3
          try clear c4
          try clear c4b0
          try clear c4b1
          try clear c5
          try clear c6
          try clear c10
          try clear c13
          try clear c17
          try clear c22
          try clear c23
          try clear c25
          try clear c26
          try clear c27
          try clear c28
          try clear c29
          try clear c30
          try clear c31
          try clear c34
          try clear c35
          try clear c35b0
          try clear c35b1
          try clear c43
          try clear c47
          try clear c48
          try clear c49
          try clear c52
          try clear c53
          try clear c56
          try clear c62
          try clear c63
          try clear c64
          try clear c65
          try clear c67
          try clear c68
          try clear hcz14_0
          try clear hcz14_1
          try clear hcz18_0
          try clear hcz18_1
          try clear hcz24_0
          try clear hcz24_1
          try clear hcz31_0
          try clear hcz31_1
          try clear hcz50_0
          try clear hcz50_1
          try clear hcz54_0
          try clear hcz54_1
          try clear hcz57_0
          try clear hcz57_1
          try clear hcz59_0
          try clear hcz59_1
          try clear hcz66_0
          try clear hcz66_1
          try clear hcz69_0
          try clear hcz69_1
          try clear hcz7_0
          try clear hcz7_1
          try clear hfz14_0
          try clear hfz14_1
          try clear hfz18_0
          try clear hfz18_1
          try clear hfz24_0
          try clear hfz24_1
          try clear hfz31_0
          try clear hfz31_1
          try clear hfz50_0
          try clear hfz50_1
          try clear hfz54_0
          try clear hfz54_1
          try clear hfz57_0
          try clear hfz57_1
          try clear hfz59_0
          try clear hfz59_1
          try clear hfz66_0
          try clear hfz66_1
          try clear hfz69_0
          try clear hfz69_1
          try clear hfz7_0
          try clear hfz7_1
          try clear p2
          obtain ⟨kq, x67_45, rfl, HA, HJ45, HO_355001, HO_361001, HO_367001, BK348, BK354, BK360, BK366, HB⟩ := hcut
          cases kq with
          | zero => exact absurd HA.out (by simp [L17_LockTurns.j1])
          | succ kj45 =>
            have H := HA.out
            clear HA
            simp only [L17_LockTurns.j1] at H
            by_cases c71 : x67_45 = true
            · subst c71
              have H1 : (some false) = some true := by rw [if_pos rfl] at H; exact H
              clear H
              have H := H1
              clear H1
              exact absurd H (by repeat (first | exact never_none | exact never_false | refine never_ite ?_ ?_ | refine never_bind (fun _ => ?_) | exact L17_LockTurns.j0_d46true _ _ _ _ _ _ | exact L17_LockTurns.j1_d67true _ _ _ _ _ | exact L17_LockTurns.j2_d86true _ _ _ _ _))
            replace c71 := Bool.eq_false_iff.mpr c71
            subst c71
            have H1 : ((lock_Lock.f kj45 t350 t351).bind fun bt381 => ((R17_Lock.f kj45 a0_0 l0_1).bind fun bt386 => ((K_SameChain.f kj45 bt381.1 bt381.2.1 bt386.1 bt386.2.1).bind fun t391 => (if t391 = true then (L17_LockTurns.j2 kj45 (bt381.2.2 != bt386.2.2) a0_0 l0_1 t350 t351) else (L17_LockTurns.j2 kj45 true a0_0 l0_1 t350 t351))))) = some true := by rw [if_neg (show ¬ (false = true) by decide)] at H; exact H
            clear H
            have H := H1
            clear H1
            replace H := Option.bind_eq_some_iff.mp H
            obtain ⟨⟨t381, t382, t385⟩, A720, H⟩ := H
            replace H : ((R17_Lock.f kj45 a0_0 l0_1).bind fun bt386 => ((K_SameChain.f kj45 t381 t382 bt386.1 bt386.2.1).bind fun t391 => (if t391 = true then (L17_LockTurns.j2 kj45 (t385 != bt386.2.2) a0_0 l0_1 t350 t351) else (L17_LockTurns.j2 kj45 true a0_0 l0_1 t350 t351)))) = some true := H
            have A72 := Aside0.mk A720
            clear A720
            replace H := Option.bind_eq_some_iff.mp H
            obtain ⟨⟨t386, t387, t390⟩, A730, H⟩ := H
            replace H : ((K_SameChain.f kj45 t381 t382 t386 t387).bind fun t391 => (if t391 = true then (L17_LockTurns.j2 kj45 (t385 != t390) a0_0 l0_1 t350 t351) else (L17_LockTurns.j2 kj45 true a0_0 l0_1 t350 t351))) = some true := H
            have A73 := Aside0.mk A730
            clear A730
            have HC74 := Aside0.mk H
            clear H
            have hnb75 := NB354_348.out
            have hnc75 := NB348_354.out
            have hnb76 := NB354_360.out
            have hnc76 := NB360_354.out
            have hnb77 := NB354_366.out
            have hnc77 := NB366_354.out
            have hcz78_0 : wc.cell? ⟨gb354, 0, none⟩ = some (.bool t350) := (blk_cell BK354.out 0).trans rfl
            have hcz78_1 : wc.cell? ⟨gb354, 1, none⟩ = some (.slice Ao19 t351.length co19) := (blk_cell BK354.out 1).trans rfl
            have hfz78_0 := blk_frozen BK354.out 0
            have hfz78_1 := blk_frozen BK354.out 1
            go_upto_region 14 with (first | ((with_reducible refine gate_callee (f := 32) rfl ?_); refine goesL_ (some 70) rfl rfl Try.func32 (by kernel_rfl) rfl #[.agg #[.bool t350, .slice Ao19 t351.length co19]] rfl (by (try simp only [List.map_toArray, List.map_cons, List.map_nil]); first | done | rfl | (simp only [List.length_drop, List.length_take]; rfl)) ?_; (with_reducible refine (lock_Lock.calls kj45 t350 _ _ t351 t381 t382 t385 _ ?side1 ?side2 A72.out).mono ?_); (case side1 => repeat (first | exact (Kd.R_reads' HO_355001.out).2.2 | (with_reducible refine Kd.C_alloc ?_ _) | (with_reducible refine Kd.C_drewN ?_ _) | (with_reducible refine Kd.C_drew ?_))); (case side2 => exact (Kd.R_reads' HO_355001.out).2.1); rintro e w79 ⟨v383, rfl, ho0, hb⟩; refine ⟨_, rfl, ?_⟩; have n0_ := Aside0.mk (Kd.R_elder' (by (with_reducible repeat (first | apply Kd.R_alloc | apply Kd.R_drewN | apply Kd.R_drew)); exact HO_355001.out) (Kd.R_base ho0) hb); have n1_ := Aside0.mk (Kd.R_elder' (by (with_reducible repeat (first | apply Kd.R_alloc | apply Kd.R_drewN | apply Kd.R_drew)); exact HO_361001.out) (Kd.R_base ho0) hb); have n2_ := Aside0.mk (Kd.R_elder' (by (with_reducible repeat (first | apply Kd.R_alloc | apply Kd.R_drewN | apply Kd.R_drew)); exact HO_367001.out) (Kd.R_base ho0) hb); have n3_ := Aside0.mk (Kd.R_lower (Kd.R_new' (Kd.R_new' (Kd.R_new' ho0 (Kd.R_lt (by (with_reducible repeat (first | apply Kd.R_alloc | apply Kd.R_drewN | apply Kd.R_drew)); exact HO_355001.out))) (Kd.R_lt (by (with_reducible repeat (first | apply Kd.R_alloc | apply Kd.R_drewN | apply Kd.R_drew)); exact HO_361001.out))) (Kd.R_lt (by (with_reducible repeat (first | apply Kd.R_alloc | apply Kd.R_drewN | apply Kd.R_drew)); exact HO_367001.out))) (below_size (by repeat (first | (with_reducible first | exact HB.out | apply below_alloc | apply pw_below_drewN | apply below_drew1 | refine below_set ?_ GE348.out | refine below_set ?_ GE354.out | refine below_set ?_ GE360.out | refine below_set ?_ GE366.out) | exact HB.out)))); have n4_ := Aside0.mk (blk_below (g := gb348) (o := .cells #[.bool a0_0, .slice A0_1 l0_1.length c0_1] 25 (0, 0)) (by (with_reducible repeat (first | refine blk_drewN ?_ _ | refine blk_drew ?_ | refine blk_alloc ?_ _)); exact BK348.out) hb); have n5_ := Aside0.mk (blk_below (g := gb354) (o := .cells #[.bool t350, .slice Ao19 t351.length co19] 25 (0, 0)) (by (with_reducible repeat (first | refine blk_drewN ?_ _ | refine blk_drew ?_ | refine blk_alloc ?_ _)); exact BK354.out) hb); have n6_ := Aside0.mk (blk_below (g := gb360) (o := .cells #[.bool t370, .slice Ao55 t371.length co55] 25 (0, 0)) (by (with_reducible repeat (first | refine blk_drewN ?_ _ | refine blk_drew ?_ | refine blk_alloc ?_ _)); exact BK360.out) hb); have n7_ := Aside0.mk (blk_below (g := gb366) (o := .cells #[.bool t375, .slice Ao60 t376.length co60] 25 (0, 0)) (by (with_reducible repeat (first | refine blk_drewN ?_ _ | refine blk_drew ?_ | refine blk_alloc ?_ _)); exact BK366.out) hb); have n8_ := Aside0.mk (below_step (by repeat (first | (with_reducible first | exact HB.out | apply below_alloc | apply pw_below_drewN | apply below_drew1 | refine below_set ?_ GE348.out | refine below_set ?_ GE354.out | refine below_set ?_ GE360.out | refine below_set ?_ GE366.out) | exact HB.out)) hb); clear HO_355001; clear HO_361001; clear HO_367001; clear BK348; clear BK354; clear BK360; clear BK366; clear HB; have HO_355001 := n0_; have HO_361001 := n1_; have HO_367001 := n2_; have HO384 := n3_; have BK348 := n4_; have BK354 := n5_; have BK360 := n6_; have BK366 := n7_; have HB := n8_; clear n0_ n1_ n2_ n3_ n4_ n5_ n6_ n7_ n8_; (try clear hb); (try clear hb2); (try clear hk); (try clear hi); (try clear ho0); have hnb80 := NB360_348.out; have hnc80 := NB348_360.out; have hnb81 := NB360_366.out; have hnc81 := NB366_360.out; have hcz82_0 : w79.cell? ⟨gb360, 0, none⟩ = some (.bool t370) := (blk_cell BK360.out 0).trans rfl; have hcz82_1 : w79.cell? ⟨gb360, 1, none⟩ = some (.slice Ao55 t371.length co55) := (blk_cell BK360.out 1).trans rfl; have hfz82_0 := blk_frozen BK360.out 0; have hfz82_1 := blk_frozen BK360.out 1; obtain ⟨Ao83, co83, eo83⟩ := Kd.R_slice HO384.out; subst eo83; have hnb84 := NB348_366.out; have hnc84 := NB366_348.out; have hcz85_0 : w79.cell? ⟨gb348, 0, none⟩ = some (.bool a0_0) := (blk_cell BK348.out 0).trans rfl; have hcz85_1 : w79.cell? ⟨gb348, 1, none⟩ = some (.slice A0_1 l0_1.length c0_1) := (blk_cell BK348.out 1).trans rfl; have hfz85_0 := blk_frozen BK348.out 0; have hfz85_1 := blk_frozen BK348.out 1) | ((with_reducible refine gate_callee (f := 33) rfl ?_); refine goesL_ (some 75) rfl rfl Try.func33 (by kernel_rfl) rfl #[.agg #[.bool a0_0, .slice A0_1 l0_1.length c0_1]] rfl (by (try simp only [List.map_toArray, List.map_cons, List.map_nil]); first | done | rfl | (simp only [List.length_drop, List.length_take]; rfl)) ?_; (with_reducible refine (R17_Lock.calls kj45 a0_0 _ _ l0_1 t386 t387 t390 _ ?side1 ?side2 A73.out).mono ?_); (case side1 => exact Kd.C_below HR0_1.out (by repeat (first | (with_reducible first | exact HB.out | apply below_alloc | apply pw_below_drewN | apply below_drew1 | refine below_set ?_ GE348.out | refine below_set ?_ GE354.out | refine below_set ?_ GE360.out | refine below_set ?_ GE366.out) | exact HB.out))); (case side2 => exact HC0_1.out); rintro e w86 ⟨v388, rfl, ho0, hb⟩; refine ⟨_, rfl, ?_⟩; have n0_ := Aside0.mk (Kd.R_elder' (by (with_reducible repeat (first | apply Kd.R_alloc | apply Kd.R_drewN | apply Kd.R_drew)); exact (Kd.R_mono (Kd.R_far (p := ⟨gb360, 1, none⟩) (Kd.R_far (p := ⟨gb360, 0, none⟩) (Kd.R_types HO_355001.out BK360.out (by decide)) (fun _ hk => hk.2) (.bool t381)) (fun _ hk => hk.2) (.slice Ao83 t382.length co83)) (fun _ h_ => h_.1))) (Kd.R_base ho0) hb); have n1_ := Aside0.mk (Kd.R_elder' (by (with_reducible repeat (first | apply Kd.R_alloc | apply Kd.R_drewN | apply Kd.R_drew)); exact (Kd.R_mono (Kd.R_far (p := ⟨gb360, 1, none⟩) (Kd.R_far (p := ⟨gb360, 0, none⟩) (Kd.R_types HO_361001.out BK360.out (by decide)) (fun _ hk => hk.2) (.bool t381)) (fun _ hk => hk.2) (.slice Ao83 t382.length co83)) (fun _ h_ => h_.1))) (Kd.R_base ho0) hb); have n2_ := Aside0.mk (Kd.R_elder' (by (with_reducible repeat (first | apply Kd.R_alloc | apply Kd.R_drewN | apply Kd.R_drew)); exact (Kd.R_mono (Kd.R_far (p := ⟨gb360, 1, none⟩) (Kd.R_far (p := ⟨gb360, 0, none⟩) (Kd.R_types HO_367001.out BK360.out (by decide)) (fun _ hk => hk.2) (.bool t381)) (fun _ hk => hk.2) (.slice Ao83 t382.length co83)) (fun _ h_ => h_.1))) (Kd.R_base ho0) hb); have n3_ := Aside0.mk (Kd.R_elder' (by (with_reducible repeat (first | apply Kd.R_alloc | apply Kd.R_drewN | apply Kd.R_drew)); exact (Kd.R_mono (Kd.R_far (p := ⟨gb360, 1, none⟩) (Kd.R_far (p := ⟨gb360, 0, none⟩) (Kd.R_types HO384.out BK360.out (by decide)) (fun _ hk => hk.2) (.bool t381)) (fun _ hk => hk.2) (.slice Ao83 t382.length co83)) (fun _ h_ => h_.1))) (Kd.R_base ho0) hb); have n4_ := Aside0.mk (Kd.R_lower (Kd.R_new' (Kd.R_new' (Kd.R_new' (Kd.R_new' ho0 (Kd.R_lt (by (with_reducible repeat (first | apply Kd.R_alloc | apply Kd.R_drewN | apply Kd.R_drew)); exact (Kd.R_mono (Kd.R_far (p := ⟨gb360, 1, none⟩) (Kd.R_far (p := ⟨gb360, 0, none⟩) (Kd.R_types HO_355001.out BK360.out (by decide)) (fun _ hk => hk.2) (.bool t381)) (fun _ hk => hk.2) (.slice Ao83 t382.length co83)) (fun _ h_ => h_.1))))) (Kd.R_lt (by (with_reducible repeat (first | apply Kd.R_alloc | apply Kd.R_drewN | apply Kd.R_drew)); exact (Kd.R_mono (Kd.R_far (p := ⟨gb360, 1, none⟩) (Kd.R_far (p := ⟨gb360, 0, none⟩) (Kd.R_types HO_361001.out BK360.out (by decide)) (fun _ hk => hk.2) (.bool t381)) (fun _ hk => hk.2) (.slice Ao83 t382.length co83)) (fun _ h_ => h_.1))))) (Kd.R_lt (by (with_reducible repeat (first | apply Kd.R_alloc | apply Kd.R_drewN | apply Kd.R_drew)); exact (Kd.R_mono (Kd.R_far (p := ⟨gb360, 1, none⟩) (Kd.R_far (p := ⟨gb360, 0, none⟩) (Kd.R_types HO_367001.out BK360.out (by decide)) (fun _ hk => hk.2) (.bool t381)) (fun _ hk => hk.2) (.slice Ao83 t382.length co83)) (fun _ h_ => h_.1))))) (Kd.R_lt (by (with_reducible repeat (first | apply Kd.R_alloc | apply Kd.R_drewN | apply Kd.R_drew)); exact (Kd.R_mono (Kd.R_far (p := ⟨gb360, 1, none⟩) (Kd.R_far (p := ⟨gb360, 0, none⟩) (Kd.R_types HO384.out BK360.out (by decide)) (fun _ hk => hk.2) (.bool t381)) (fun _ hk => hk.2) (.slice Ao83 t382.length co83)) (fun _ h_ => h_.1))))) (below_size (by repeat (first | (with_reducible first | exact HB.out | apply below_alloc | apply pw_below_drewN | apply below_drew1 | refine below_set ?_ GE348.out | refine below_set ?_ GE354.out | refine below_set ?_ GE360.out | refine below_set ?_ GE366.out) | exact HB.out)))); have n5_ := Aside0.mk (blk_below (g := gb348) (o := .cells #[.bool a0_0, .slice A0_1 l0_1.length c0_1] 25 (0, 0)) (by (with_reducible repeat (first | refine blk_drewN ?_ _ | refine blk_drew ?_ | refine blk_alloc ?_ _)); refine blk_far ?_ NB348_360.out _; (with_reducible repeat (first | refine blk_drewN ?_ _ | refine blk_drew ?_ | refine blk_alloc ?_ _)); refine blk_far ?_ NB348_360.out _; (with_reducible repeat (first | refine blk_drewN ?_ _ | refine blk_drew ?_ | refine blk_alloc ?_ _)); exact BK348.out) hb); have n6_ := Aside0.mk (blk_below (g := gb354) (o := .cells #[.bool t350, .slice Ao19 t351.length co19] 25 (0, 0)) (by (with_reducible repeat (first | refine blk_drewN ?_ _ | refine blk_drew ?_ | refine blk_alloc ?_ _)); refine blk_far ?_ NB354_360.out _; (with_reducible repeat (first | refine blk_drewN ?_ _ | refine blk_drew ?_ | refine blk_alloc ?_ _)); refine blk_far ?_ NB354_360.out _; (with_reducible repeat (first | refine blk_drewN ?_ _ | refine blk_drew ?_ | refine blk_alloc ?_ _)); exact BK354.out) hb); have n7_ := Aside0.mk (blk_below (g := gb360) (o := .cells #[.bool t381, .slice Ao83 t382.length co83] 25 (0, 0)) (by (with_reducible repeat (first | refine blk_drewN ?_ _ | refine blk_drew ?_ | refine blk_alloc ?_ _)); refine blk_put (cs := #[.bool t381, .slice Ao55 t371.length co55]) ?_ 1 _ rfl; (with_reducible repeat (first | refine blk_drewN ?_ _ | refine blk_drew ?_ | refine blk_alloc ?_ _)); refine blk_put (cs := #[.bool t370, .slice Ao55 t371.length co55]) ?_ 0 _ rfl; (with_reducible repeat (first | refine blk_drewN ?_ _ | refine blk_drew ?_ | refine blk_alloc ?_ _)); exact BK360.out) hb); have n8_ := Aside0.mk (blk_below (g := gb366) (o := .cells #[.bool t375, .slice Ao60 t376.length co60] 25 (0, 0)) (by (with_reducible repeat (first | refine blk_drewN ?_ _ | refine blk_drew ?_ | refine blk_alloc ?_ _)); refine blk_far ?_ NB366_360.out _; (with_reducible repeat (first | refine blk_drewN ?_ _ | refine blk_drew ?_ | refine blk_alloc ?_ _)); refine blk_far ?_ NB366_360.out _; (with_reducible repeat (first | refine blk_drewN ?_ _ | refine blk_drew ?_ | refine blk_alloc ?_ _)); exact BK366.out) hb); have n9_ := Aside0.mk (below_step (by repeat (first | (with_reducible first | exact HB.out | apply below_alloc | apply pw_below_drewN | apply below_drew1 | refine below_set ?_ GE348.out | refine below_set ?_ GE354.out | refine below_set ?_ GE360.out | refine below_set ?_ GE366.out) | exact HB.out)) hb); clear HO_355001; clear HO_361001; clear HO_367001; clear HO384; clear BK348; clear BK354; clear BK360; clear BK366; clear HB; have HO_355001 := n0_; have HO_361001 := n1_; have HO_367001 := n2_; have HO384 := n3_; have HO389 := n4_; have BK348 := n5_; have BK354 := n6_; have BK360 := n7_; have BK366 := n8_; have HB := n9_; clear n0_ n1_ n2_ n3_ n4_ n5_ n6_ n7_ n8_ n9_; (try clear hb); (try clear hb2); (try clear hk); (try clear hi); (try clear ho0); have hcz87_0 : w86.cell? ⟨gb366, 0, none⟩ = some (.bool t375) := (blk_cell BK366.out 0).trans rfl; have hcz87_1 : w86.cell? ⟨gb366, 1, none⟩ = some (.slice Ao60 t376.length co60) := (blk_cell BK366.out 1).trans rfl; have hfz87_0 := blk_frozen BK366.out 0; have hfz87_1 := blk_frozen BK366.out 1; obtain ⟨Ao88, co88, eo88⟩ := Kd.R_slice HO389.out; subst eo88))
            (try simp only [Act.put, List.setIfInBounds_toArray, List.set_cons_zero, List.set_cons_succ])
            go_cut [86] (fun v86 wc => ∃ (kq : Nat) (x86_73 : Bool), v86 = .bool x86_73 ∧ Aside0 (L17_LockTurns.j2 kq x86_73 a0_0 l0_1 t350 t351 = some true) ∧ Aside0 (kq ≤ kj45) ∧ Aside0 (Kd.R Kd.bool 4 wc w.heap.size (fun k_ => some k_ ≠ ((.slice Ao83 t382.length co83) : Value).ownBlock ∧ some k_ ≠ ((.slice Ao88 t387.length co88) : Value).ownBlock) (.slice Ao19 t351.length co19) t351) ∧ Aside0 (Kd.R Kd.bool 4 wc w.heap.size (fun k_ => some k_ ≠ ((.slice Ao19 t351.length co19) : Value).ownBlock ∧ some k_ ≠ ((.slice Ao88 t387.length co88) : Value).ownBlock) (.slice Ao83 t382.length co83) t382) ∧ Aside0 (Kd.R Kd.bool 4 wc w.heap.size (fun k_ => some k_ ≠ ((.slice Ao19 t351.length co19) : Value).ownBlock ∧ some k_ ≠ ((.slice Ao83 t382.length co83) : Value).ownBlock) (.slice Ao88 t387.length co88) t387) ∧ Aside0 (wc.heap[gb348]? = some (.cells #[.bool a0_0, (.slice A0_1 l0_1.length c0_1)] 25 (0, 0))) ∧ Aside0 (wc.heap[gb354]? = some (.cells #[.bool t350, (.slice Ao19 t351.length co19)] 25 (0, 0))) ∧ Aside0 (wc.heap[gb360]? = some (.cells #[.bool t381, (.slice Ao83 t382.length co83)] 25 (0, 0))) ∧ Aside0 (wc.heap[gb366]? = some (.cells #[.bool t386, (.slice Ao88 t387.length co88)] 25 (0, 0))) ∧ Aside0 (Below w.heap.size w wc))
            case first =>
              have H := HC74.out
              clear HC74
              replace H := Option.bind_eq_some_iff.mp H
              obtain ⟨t391, A890, H⟩ := H
              replace H : (if t391 = true then (L17_LockTurns.j2 kj45 (t385 != t390) a0_0 l0_1 t350 t351) else (L17_LockTurns.j2 kj45 true a0_0 l0_1 t350 t351)) = some true := H
              have A89 := Aside0.mk A890
              clear A890
              by_cases c90 : t391 = true
              rotate_left
              · replace c90 := Bool.eq_false_iff.mpr c90
                subst c90
                have H1 : (L17_LockTurns.j2 kj45 true a0_0 l0_1 t350 t351) = some true := by rw [if_neg (show ¬ (false = true) by decide)] at H; exact H
                clear H
                have H := H1
                clear H1
                exact absurd H (by repeat (first | exact never_none | exact never_false | refine never_ite ?_ ?_ | refine never_bind (fun _ => ?_) | exact L17_LockTurns.j0_d46true _ _ _ _ _ _ | exact L17_LockTurns.j1_d67true _ _ _ _ _ | exact L17_LockTurns.j2_d86true _ _ _ _ _))
              subst c90
              have H1 : (L17_LockTurns.j2 kj45 (t385 != t390) a0_0 l0_1 t350 t351) = some true := by rw [if_pos rfl] at H; exact H
              clear H
              have H := H1
              clear H1
              have H' := Aside0.mk H
              clear H
              have hnb91 := NB360_348.out
              have hnc91 := NB348_360.out
              have hnb92 := NB360_354.out
              have hnc92 := NB354_360.out
              have hnb93 := NB360_366.out
              have hnc93 := NB366_360.out
              have hcz94_0 : w86.cell? ⟨gb360, 0, none⟩ = some (.bool t381) := (blk_cell BK360.out 0).trans rfl
              have hcz94_1 : w86.cell? ⟨gb360, 1, none⟩ = some (.slice Ao83 t382.length co83) := (blk_cell BK360.out 1).trans rfl
              have hfz94_0 := blk_frozen BK360.out 0
              have hfz94_1 := blk_frozen BK360.out 1
              have hnb95 := NB366_348.out
              have hnc95 := NB348_366.out
              have hnb96 := NB366_354.out
              have hnc96 := NB354_366.out
              have hcz97_0 : w86.cell? ⟨gb366, 0, none⟩ = some (.bool t375) := (blk_cell BK366.out 0).trans rfl
              have hcz97_1 : w86.cell? ⟨gb366, 1, none⟩ = some (.slice Ao60 t376.length co60) := (blk_cell BK366.out 1).trans rfl
              have hfz97_0 := blk_frozen BK366.out 0
              have hfz97_1 := blk_frozen BK366.out 1
              go_wp2_with (first | ((with_reducible refine gate_callee (f := 13) rfl ?_); refine goesL_ (some 80) rfl rfl Try.func13 (by kernel_rfl) rfl #[.agg #[.bool t381, .slice Ao83 t382.length co83], .agg #[.bool t386, .slice Ao88 t387.length co88]] rfl (by (try simp only [List.map_toArray, List.map_cons, List.map_nil]); first | done | rfl | (simp only [List.length_drop, List.length_take]; rfl)) ?_; (with_reducible refine (K_SameChain.calls kj45 t381 _ _ t382 t386 _ _ t387 true _ ?side1 ?side2 ?side3 ?side4 A89.out).mono ?_); (case side1 => refine (Kd.R_reads' (e := 4) (base := w.heap.size) (ok := fun k_ => ((((True ∧ some k_ ≠ (.slice Ao19 t351.length co19 : Value).ownBlock) ∧ some k_ ≠ (.slice Ao55 t371.length co55 : Value).ownBlock) ∧ some k_ ≠ (.slice Ao60 t376.length co60 : Value).ownBlock) ∧ some k_ ≠ (.slice Ao88 t387.length co88 : Value).ownBlock)) (n := t382.length) (c := co83) ?_).2.2; exact (by (with_reducible repeat (first | apply Kd.R_alloc | apply Kd.R_drewN | apply Kd.R_drew)); exact (Kd.R_mono (Kd.R_far (p := ⟨gb366, 1, none⟩) (Kd.R_far (p := ⟨gb366, 0, none⟩) (Kd.R_types HO384.out BK366.out (by decide)) (fun _ hk => hk.2) (.bool t386)) (fun _ hk => hk.2) (.slice Ao88 t387.length co88)) (fun _ h_ => h_.1)))); (case side2 => exact (Kd.R_reads' HO384.out).2.1); (case side3 => refine (Kd.R_reads' (e := 4) (base := w.heap.size) (ok := fun k_ => ((((True ∧ some k_ ≠ (.slice Ao19 t351.length co19 : Value).ownBlock) ∧ some k_ ≠ (.slice Ao55 t371.length co55 : Value).ownBlock) ∧ some k_ ≠ (.slice Ao60 t376.length co60 : Value).ownBlock) ∧ some k_ ≠ (.slice Ao83 t382.length co83 : Value).ownBlock)) (n := t387.length) (c := co88) ?_).2.2; exact (by (with_reducible repeat (first | apply Kd.R_alloc | apply Kd.R_drewN | apply Kd.R_drew)); exact (Kd.R_mono (Kd.R_far (p := ⟨gb366, 1, none⟩) (Kd.R_far (p := ⟨gb366, 0, none⟩) (Kd.R_types HO389.out BK366.out (by decide)) (fun _ hk => hk.2) (.bool t386)) (fun _ hk => hk.2) (.slice Ao88 t387.length co88)) (fun _ h_ => h_.1)))); (case side4 => exact (Kd.R_reads' HO389.out).2.1); rintro e w98 ⟨rfl, hb⟩; refine ⟨_, rfl, ?_⟩; have n0_ := Aside0.mk (Kd.R_below (by (with_reducible repeat (first | apply Kd.R_alloc | apply Kd.R_drewN | apply Kd.R_drew)); exact (Kd.R_mono (Kd.R_far (p := ⟨gb366, 1, none⟩) (Kd.R_far (p := ⟨gb366, 0, none⟩) (Kd.R_types HO_355001.out BK366.out (by decide)) (fun _ hk => hk.2) (.bool t386)) (fun _ hk => hk.2) (.slice Ao88 t387.length co88)) (fun _ h_ => h_.1))) hb); have n1_ := Aside0.mk (Kd.R_below (by (with_reducible repeat (first | apply Kd.R_alloc | apply Kd.R_drewN | apply Kd.R_drew)); exact (Kd.R_mono (Kd.R_far (p := ⟨gb366, 1, none⟩) (Kd.R_far (p := ⟨gb366, 0, none⟩) (Kd.R_types HO_361001.out BK366.out (by decide)) (fun _ hk => hk.2) (.bool t386)) (fun _ hk => hk.2) (.slice Ao88 t387.length co88)) (fun _ h_ => h_.1))) hb); have n2_ := Aside0.mk (Kd.R_below (by (with_reducible repeat (first | apply Kd.R_alloc | apply Kd.R_drewN | apply Kd.R_drew)); exact (Kd.R_mono (Kd.R_far (p := ⟨gb366, 1, none⟩) (Kd.R_far (p := ⟨gb366, 0, none⟩) (Kd.R_types HO_367001.out BK366.out (by decide)) (fun _ hk => hk.2) (.bool t386)) (fun _ hk => hk.2) (.slice Ao88 t387.length co88)) (fun _ h_ => h_.1))) hb); have n3_ := Aside0.mk (Kd.R_below (by (with_reducible repeat (first | apply Kd.R_alloc | apply Kd.R_drewN | apply Kd.R_drew)); exact (Kd.R_mono (Kd.R_far (p := ⟨gb366, 1, none⟩) (Kd.R_far (p := ⟨gb366, 0, none⟩) (Kd.R_types HO384.out BK366.out (by decide)) (fun _ hk => hk.2) (.bool t386)) (fun _ hk => hk.2) (.slice Ao88 t387.length co88)) (fun _ h_ => h_.1))) hb); have n4_ := Aside0.mk (Kd.R_below (by (with_reducible repeat (first | apply Kd.R_alloc | apply Kd.R_drewN | apply Kd.R_drew)); exact (Kd.R_mono (Kd.R_far (p := ⟨gb366, 1, none⟩) (Kd.R_far (p := ⟨gb366, 0, none⟩) (Kd.R_types HO389.out BK366.out (by decide)) (fun _ hk => hk.2) (.bool t386)) (fun _ hk => hk.2) (.slice Ao88 t387.length co88)) (fun _ h_ => h_.1))) hb); have n5_ := Aside0.mk (blk_below (g := gb348) (o := .cells #[.bool a0_0, .slice A0_1 l0_1.length c0_1] 25 (0, 0)) (by (with_reducible repeat (first | refine blk_drewN ?_ _ | refine blk_drew ?_ | refine blk_alloc ?_ _)); refine blk_far ?_ NB348_366.out _; (with_reducible repeat (first | refine blk_drewN ?_ _ | refine blk_drew ?_ | refine blk_alloc ?_ _)); refine blk_far ?_ NB348_366.out _; (with_reducible repeat (first | refine blk_drewN ?_ _ | refine blk_drew ?_ | refine blk_alloc ?_ _)); exact BK348.out) hb); have n6_ := Aside0.mk (blk_below (g := gb354) (o := .cells #[.bool t350, .slice Ao19 t351.length co19] 25 (0, 0)) (by (with_reducible repeat (first | refine blk_drewN ?_ _ | refine blk_drew ?_ | refine blk_alloc ?_ _)); refine blk_far ?_ NB354_366.out _; (with_reducible repeat (first | refine blk_drewN ?_ _ | refine blk_drew ?_ | refine blk_alloc ?_ _)); refine blk_far ?_ NB354_366.out _; (with_reducible repeat (first | refine blk_drewN ?_ _ | refine blk_drew ?_ | refine blk_alloc ?_ _)); exact BK354.out) hb); have n7_ := Aside0.mk (blk_below (g := gb360) (o := .cells #[.bool t381, .slice Ao83 t382.length co83] 25 (0, 0)) (by (with_reducible repeat (first | refine blk_drewN ?_ _ | refine blk_drew ?_ | refine blk_alloc ?_ _)); refine blk_far ?_ NB360_366.out _; (with_reducible repeat (first | refine blk_drewN ?_ _ | refine blk_drew ?_ | refine blk_alloc ?_ _)); refine blk_far ?_ NB360_366.out _; (with_reducible repeat (first | refine blk_drewN ?_ _ | refine blk_drew ?_ | refine blk_alloc ?_ _)); exact BK360.out) hb); have n8_ := Aside0.mk (blk_below (g := gb366) (o := .cells #[.bool t386, .slice Ao88 t387.length co88] 25 (0, 0)) (by (with_reducible repeat (first | refine blk_drewN ?_ _ | refine blk_drew ?_ | refine blk_alloc ?_ _)); refine blk_put (cs := #[.bool t386, .slice Ao60 t376.length co60]) ?_ 1 _ rfl; (with_reducible repeat (first | refine blk_drewN ?_ _ | refine blk_drew ?_ | refine blk_alloc ?_ _)); refine blk_put (cs := #[.bool t375, .slice Ao60 t376.length co60]) ?_ 0 _ rfl; (with_reducible repeat (first | refine blk_drewN ?_ _ | refine blk_drew ?_ | refine blk_alloc ?_ _)); exact BK366.out) hb); have n9_ := Aside0.mk (below_step (by repeat (first | (with_reducible first | exact HB.out | apply below_alloc | apply pw_below_drewN | apply below_drew1 | refine below_set ?_ GE348.out | refine below_set ?_ GE354.out | refine below_set ?_ GE360.out | refine below_set ?_ GE366.out) | exact HB.out)) hb); clear HO_355001; clear HO_361001; clear HO_367001; clear HO384; clear HO389; clear BK348; clear BK354; clear BK360; clear BK366; clear HB; have HO_355001 := n0_; have HO_361001 := n1_; have HO_367001 := n2_; have HO384 := n3_; have HO389 := n4_; have BK348 := n5_; have BK354 := n6_; have BK360 := n7_; have BK366 := n8_; have HB := n9_; clear n0_ n1_ n2_ n3_ n4_ n5_ n6_ n7_ n8_ n9_; (try clear hb); (try clear hb2); (try clear hk); (try clear hi)))
              go_meet
              case rel => exact ⟨_, ((t385 != t390)), (by first | rfl | (simp; done) | (simp [*]; done)), H', ⟨by have := HJ11.out; have := HJ45.out; first | omega | exact Nat.le_refl _⟩, ⟨by (with_reducible repeat (first | apply Kd.R_alloc | apply Kd.R_drewN | apply Kd.R_drew)); exact Kd.R_mono HO_355001.out (fun _ hk => ⟨hk.1.2, hk.2⟩)⟩, ⟨by (with_reducible repeat (first | apply Kd.R_alloc | apply Kd.R_drewN | apply Kd.R_drew)); exact Kd.R_mono HO384.out (fun _ hk => ⟨hk.1.1.1.2, hk.2⟩)⟩, ⟨by (with_reducible repeat (first | apply Kd.R_alloc | apply Kd.R_drewN | apply Kd.R_drew)); exact Kd.R_mono HO389.out (fun _ hk => ⟨hk.1.1.1.2, hk.2⟩)⟩, ⟨by (with_reducible repeat (first | refine blk_drewN ?_ _ | refine blk_drew ?_ | refine blk_alloc ?_ _)); exact BK348.out⟩, ⟨by (with_reducible repeat (first | refine blk_drewN ?_ _ | refine blk_drew ?_ | refine blk_alloc ?_ _)); exact BK354.out⟩, ⟨by (with_reducible repeat (first | refine blk_drewN ?_ _ | refine blk_drew ?_ | refine blk_alloc ?_ _)); exact BK360.out⟩, ⟨by (with_reducible repeat (first | refine blk_drewN ?_ _ | refine blk_drew ?_ | refine blk_alloc ?_ _)); exact BK366.out⟩, ⟨by repeat (first | (with_reducible first | exact HB.out | apply below_alloc | apply pw_below_drewN | apply below_drew1 | refine below_set ?_ GE348.out | refine below_set ?_ GE354.out | refine below_set ?_ GE360.out | refine below_set ?_ GE366.out) | exact HB.out)⟩⟩
            case rest =>
              clear HC74
              try clear c1
              try clear c2
              try clear p2
              try clear c3
              try clear c4
              try clear c4b0
              try clear c4b1
              try clear c5
              try clear c6
              try clear c7
              try clear c8
              try clear c9
              try clear c10
              try clear c13
              try clear c17
              try clear c22
              try clear c23
              try clear c25
              try clear c26
              try clear c27
              try clear c28
              try clear c29
              try clear c30
              try clear c31
              try clear c32
              try clear c33
              try clear c34
              try clear c35
              try clear c35b0
              try clear c35b1
              try clear c43
              try clear c47
              try clear c48
              try clear c49
              try clear c52
              try clear c53
              try clear c56
              try clear c62
              try clear c63
              try clear c64
              try clear c65
              try clear c67
              try clear c68
              try clear c71
              try clear c75
              try clear c76
              try clear c77
              try clear c80
              try clear c81
              try clear c84
              try clear c90
              try clear c91
              try clear c92
              try clear c93
              try clear c95
              try clear c96
              try clear hcz14_0
              try clear hcz14_1
              try clear hcz18_0
              try clear hcz18_1
              try clear hcz24_0
              try clear hcz24_1
              try clear hcz31_0
              try clear hcz31_1
              try clear hcz50_0
              try clear hcz50_1
              try clear hcz54_0
              try clear hcz54_1
              try clear hcz57_0
              try clear hcz57_1
              try clear hcz59_0
              try clear hcz59_1
              try clear hcz66_0
              try clear hcz66_1
              try clear hcz69_0
              try clear hcz69_1
              try clear hcz78_0
              try clear hcz78_1
              try clear hcz7_0
              try clear hcz7_1
              try clear hcz82_0
              try clear hcz82_1
              try clear hcz85_0
              try clear hcz85_1
              try clear hcz87_0
              try clear hcz87_1
              try clear hcz94_0
              try clear hcz94_1
              try clear hcz97_0
              try clear hcz97_1
              try clear hfz14_0
              try clear hfz14_1
              try clear hfz18_0
              try clear hfz18_1
              try clear hfz24_0
              try clear hfz24_1
              try clear hfz31_0
              try clear hfz31_1
              try clear hfz50_0
              try clear hfz50_1
              try clear hfz54_0
              try clear hfz54_1
              try clear hfz57_0
              try clear hfz57_1
              try clear hfz59_0
              try clear hfz59_1
              try clear hfz66_0
              try clear hfz66_1
              try clear hfz69_0
              try clear hfz69_1
              try clear hfz78_0
              try clear hfz78_1
              try clear hfz7_0
              try clear hfz7_1
              try clear hfz82_0
              try clear hfz82_1
              try clear hfz85_0
              try clear hfz85_1
              try clear hfz87_0
              try clear hfz87_1
              try clear hfz94_0
              try clear hfz94_1
              try clear hfz97_0
              try clear hfz97_1
              try clear p2
              obtain ⟨kq, x86_73, rfl, HA, HJ73, HO_355001, HO_361001, HO_367001, BK348, BK354, BK360, BK366, HB⟩ := hcut
              cases kq with
              | zero => exact absurd HA.out (by simp [L17_LockTurns.j2])
              | succ kj73 =>
                have H := HA.out
                clear HA
                simp only [L17_LockTurns.j2] at H
                by_cases c99 : x86_73 = true
                · subst c99
                  have H1 : (some false) = some true := by rw [if_pos rfl] at H; exact H
                  clear H
                  have H := H1
                  clear H1
                  exact absurd H (by repeat (first | exact never_none | exact never_false | refine never_ite ?_ ?_ | refine never_bind (fun _ => ?_) | exact L17_LockTurns.j0_d46true _ _ _ _ _ _ | exact L17_LockTurns.j1_d67true _ _ _ _ _ | exact L17_LockTurns.j2_d86true _ _ _ _ _))
                replace c99 := Bool.eq_false_iff.mpr c99
                subst c99
                have H1 : ((lock_Slam.f t350 t351).bind fun bt392 => ((R17_Slam.f kj73 a0_0 l0_1).bind fun bt398 => ((K_SameChain.f kj73 bt392.1 bt392.2.1 bt398.1 bt398.2.1).bind fun t404 => (if t404 = true then (if bt392.2.2.1 = bt398.2.2.1 then (if bt392.2.2.2 = bt398.2.2.2 then ((K_SameChain.f kj73 t350 t351 a0_0 l0_1).bind fun t405 => (if t405 = true then ((L17_awake.f).bind fun t406 => (some t406)) else (some false))) else (some false)) else (some false)) else (some false))))) = some true := by rw [if_neg (show ¬ (false = true) by decide)] at H; exact H
                clear H
                have H := H1
                clear H1
                replace H := Option.bind_eq_some_iff.mp H
                obtain ⟨⟨t392, t393, t396, t397⟩, A1000, H⟩ := H
                replace H : ((R17_Slam.f kj73 a0_0 l0_1).bind fun bt398 => ((K_SameChain.f kj73 t392 t393 bt398.1 bt398.2.1).bind fun t404 => (if t404 = true then (if t396 = bt398.2.2.1 then (if t397 = bt398.2.2.2 then ((K_SameChain.f kj73 t350 t351 a0_0 l0_1).bind fun t405 => (if t405 = true then ((L17_awake.f).bind fun t406 => (some t406)) else (some false))) else (some false)) else (some false)) else (some false)))) = some true := H
                have A100 := Aside0.mk A1000
                clear A1000
                replace H := Option.bind_eq_some_iff.mp H
                obtain ⟨⟨t398, t399, t402, t403⟩, A1010, H⟩ := H
                replace H : ((K_SameChain.f kj73 t392 t393 t398 t399).bind fun t404 => (if t404 = true then (if t396 = t402 then (if t397 = t403 then ((K_SameChain.f kj73 t350 t351 a0_0 l0_1).bind fun t405 => (if t405 = true then ((L17_awake.f).bind fun t406 => (some t406)) else (some false))) else (some false)) else (some false)) else (some false))) = some true := H
                have A101 := Aside0.mk A1010
                clear A1010
                replace H := Option.bind_eq_some_iff.mp H
                obtain ⟨t404, A1020, H⟩ := H
                replace H : (if t404 = true then (if t396 = t402 then (if t397 = t403 then ((K_SameChain.f kj73 t350 t351 a0_0 l0_1).bind fun t405 => (if t405 = true then ((L17_awake.f).bind fun t406 => (some t406)) else (some false))) else (some false)) else (some false)) else (some false)) = some true := H
                have A102 := Aside0.mk A1020
                clear A1020
                by_cases c103 : t404 = true
                rotate_left
                · replace c103 := Bool.eq_false_iff.mpr c103
                  subst c103
                  have H1 : (some false) = some true := by rw [if_neg (show ¬ (false = true) by decide)] at H; exact H
                  clear H
                  have H := H1
                  clear H1
                  exact absurd H (by repeat (first | exact never_none | exact never_false | refine never_ite ?_ ?_ | refine never_bind (fun _ => ?_) | exact L17_LockTurns.j0_d46true _ _ _ _ _ _ | exact L17_LockTurns.j1_d67true _ _ _ _ _ | exact L17_LockTurns.j2_d86true _ _ _ _ _))
                subst c103
                have H1 : (if t396 = t402 then (if t397 = t403 then ((K_SameChain.f kj73 t350 t351 a0_0 l0_1).bind fun t405 => (if t405 = true then ((L17_awake.f).bind fun t406 => (some t406)) else (some false))) else (some false)) else (some false)) = some true := by rw [if_pos rfl] at H; exact H
                clear H
                have H := H1
                clear H1
                by_cases c104 : t396 = t402
                rotate_left
                · rw [if_neg c104] at H
                  exact absurd H (by repeat (first | exact never_none | exact never_false | refine never_ite ?_ ?_ | refine never_bind (fun _ => ?_) | exact L17_LockTurns.j0_d46true _ _ _ _ _ _ | exact L17_LockTurns.j1_d67true _ _ _ _ _ | exact L17_LockTurns.j2_d86true _ _ _ _ _))
                rw [if_pos c104] at H
                have c104b0 : (t396 == t402) = true := beq_iff_eq.mpr c104
                have c104b1 : (t396 != t402) = false := bne_eq_false_iff_eq.mpr c104
                clear c104
                by_cases c105 : t397 = t403
                rotate_left
                · rw [if_neg c105] at H
                  exact absurd H (by repeat (first | exact never_none | exact never_false | refine never_ite ?_ ?_ | refine never_bind (fun _ => ?_) | exact L17_LockTurns.j0_d46true _ _ _ _ _ _ | exact L17_LockTurns.j1_d67true _ _ _ _ _ | exact L17_LockTurns.j2_d86true _ _ _ _ _))
                rw [if_pos c105] at H
                have c105b0 : (t397 == t403) = true := beq_iff_eq.mpr c105
                have c105b1 : (t397 != t403) = false := bne_eq_false_iff_eq.mpr c105
                clear c105
                replace H := Option.bind_eq_some_iff.mp H
                obtain ⟨t405, A1060, H⟩ := H
                replace H : (if t405 = true then ((L17_awake.f).bind fun t406 => (some t406)) else (some false)) = some true := H
                have A106 := Aside0.mk A1060
                clear A1060
                by_cases c107 : t405 = true
                rotate_left
                · replace c107 := Bool.eq_false_iff.mpr c107
                  subst c107
                  have H1 : (some false) = some true := by rw [if_neg (show ¬ (false = true) by decide)] at H; exact H
                  clear H
                  have H := H1
                  clear H1
                  exact absurd H (by repeat (first | exact never_none | exact never_false | refine never_ite ?_ ?_ | refine never_bind (fun _ => ?_) | exact L17_LockTurns.j0_d46true _ _ _ _ _ _ | exact L17_LockTurns.j1_d67true _ _ _ _ _ | exact L17_LockTurns.j2_d86true _ _ _ _ _))
                subst c107
                have H1 : ((L17_awake.f).bind fun t406 => (some t406)) = some true := by rw [if_pos rfl] at H; exact H
                clear H
                have H := H1
                clear H1
                replace H := Option.bind_eq_some_iff.mp H
                obtain ⟨t406, A1080, H⟩ := H
                replace H : (some t406) = some true := H
                have A108 := Aside0.mk A1080
                clear A1080
                have Ht_ := Option.some.inj H
                clear H
                subst Ht_
                have H : (some true : Option Bool) = some true := rfl
                clear H
                have hnb109 := NB354_348.out
                have hnc109 := NB348_354.out
                have hnb110 := NB354_360.out
                have hnc110 := NB360_354.out
                have hnb111 := NB354_366.out
                have hnc111 := NB366_354.out
                have hcz112_0 : wc.cell? ⟨gb354, 0, none⟩ = some (.bool t350) := (blk_cell BK354.out 0).trans rfl
                have hcz112_1 : wc.cell? ⟨gb354, 1, none⟩ = some (.slice Ao19 t351.length co19) := (blk_cell BK354.out 1).trans rfl
                have hfz112_0 := blk_frozen BK354.out 0
                have hfz112_1 := blk_frozen BK354.out 1
                go_wp2_with (first | ((with_reducible refine gate_callee (f := 34) rfl ?_); refine goesL_ (some 89) rfl rfl Try.func34 (by kernel_rfl) rfl #[.agg #[.bool t350, .slice Ao19 t351.length co19]] rfl (by (try simp only [List.map_toArray, List.map_cons, List.map_nil]); first | done | rfl | (simp only [List.length_drop, List.length_take]; rfl)) ?_; (with_reducible refine (lock_Slam.calls t350 _ _ t351 t392 t393 t396 t397 _ ?side1 ?side2 A100.out).mono ?_); (case side1 => repeat (first | exact (Kd.R_reads' HO_355001.out).2.2 | (with_reducible refine Kd.C_alloc ?_ _) | (with_reducible refine Kd.C_drewN ?_ _) | (with_reducible refine Kd.C_drew ?_))); (case side2 => exact (Kd.R_reads' HO_355001.out).2.1); rintro e w113 ⟨v394, rfl, ho0, hb⟩; refine ⟨_, rfl, ?_⟩; have n0_ := Aside0.mk (Kd.R_elder' (by (with_reducible repeat (first | apply Kd.R_alloc | apply Kd.R_drewN | apply Kd.R_drew)); exact HO_355001.out) (Kd.R_base ho0) hb); have n1_ := Aside0.mk (Kd.R_elder' (by (with_reducible repeat (first | apply Kd.R_alloc | apply Kd.R_drewN | apply Kd.R_drew)); exact HO_361001.out) (Kd.R_base ho0) hb); have n2_ := Aside0.mk (Kd.R_elder' (by (with_reducible repeat (first | apply Kd.R_alloc | apply Kd.R_drewN | apply Kd.R_drew)); exact HO_367001.out) (Kd.R_base ho0) hb); have n3_ := Aside0.mk (Kd.R_lower (Kd.R_new' (Kd.R_new' (Kd.R_new' ho0 (Kd.R_lt (by (with_reducible repeat (first | apply Kd.R_alloc | apply Kd.R_drewN | apply Kd.R_drew)); exact HO_355001.out))) (Kd.R_lt (by (with_reducible repeat (first | apply Kd.R_alloc | apply Kd.R_drewN | apply Kd.R_drew)); exact HO_361001.out))) (Kd.R_lt (by (with_reducible repeat (first | apply Kd.R_alloc | apply Kd.R_drewN | apply Kd.R_drew)); exact HO_367001.out))) (below_size (by repeat (first | (with_reducible first | exact HB.out | apply below_alloc | apply pw_below_drewN | apply below_drew1 | refine below_set ?_ GE348.out | refine below_set ?_ GE354.out | refine below_set ?_ GE360.out | refine below_set ?_ GE366.out) | exact HB.out)))); have n4_ := Aside0.mk (blk_below (g := gb348) (o := .cells #[.bool a0_0, .slice A0_1 l0_1.length c0_1] 25 (0, 0)) (by (with_reducible repeat (first | refine blk_drewN ?_ _ | refine blk_drew ?_ | refine blk_alloc ?_ _)); exact BK348.out) hb); have n5_ := Aside0.mk (blk_below (g := gb354) (o := .cells #[.bool t350, .slice Ao19 t351.length co19] 25 (0, 0)) (by (with_reducible repeat (first | refine blk_drewN ?_ _ | refine blk_drew ?_ | refine blk_alloc ?_ _)); exact BK354.out) hb); have n6_ := Aside0.mk (blk_below (g := gb360) (o := .cells #[.bool t381, .slice Ao83 t382.length co83] 25 (0, 0)) (by (with_reducible repeat (first | refine blk_drewN ?_ _ | refine blk_drew ?_ | refine blk_alloc ?_ _)); exact BK360.out) hb); have n7_ := Aside0.mk (blk_below (g := gb366) (o := .cells #[.bool t386, .slice Ao88 t387.length co88] 25 (0, 0)) (by (with_reducible repeat (first | refine blk_drewN ?_ _ | refine blk_drew ?_ | refine blk_alloc ?_ _)); exact BK366.out) hb); have n8_ := Aside0.mk (below_step (by repeat (first | (with_reducible first | exact HB.out | apply below_alloc | apply pw_below_drewN | apply below_drew1 | refine below_set ?_ GE348.out | refine below_set ?_ GE354.out | refine below_set ?_ GE360.out | refine below_set ?_ GE366.out) | exact HB.out)) hb); clear HO_355001; clear HO_361001; clear HO_367001; clear BK348; clear BK354; clear BK360; clear BK366; clear HB; have HO_355001 := n0_; have HO_361001 := n1_; have HO_367001 := n2_; have HO395 := n3_; have BK348 := n4_; have BK354 := n5_; have BK360 := n6_; have BK366 := n7_; have HB := n8_; clear n0_ n1_ n2_ n3_ n4_ n5_ n6_ n7_ n8_; (try clear hb); (try clear hb2); (try clear hk); (try clear hi); (try clear ho0); have hnb114 := NB360_348.out; have hnc114 := NB348_360.out; have hnb115 := NB360_366.out; have hnc115 := NB366_360.out; have hcz116_0 : w113.cell? ⟨gb360, 0, none⟩ = some (.bool t381) := (blk_cell BK360.out 0).trans rfl; have hcz116_1 : w113.cell? ⟨gb360, 1, none⟩ = some (.slice Ao83 t382.length co83) := (blk_cell BK360.out 1).trans rfl; have hfz116_0 := blk_frozen BK360.out 0; have hfz116_1 := blk_frozen BK360.out 1; obtain ⟨Ao117, co117, eo117⟩ := Kd.R_slice HO395.out; subst eo117; have hnb118 := NB348_366.out; have hnc118 := NB366_348.out; have hcz119_0 : w113.cell? ⟨gb348, 0, none⟩ = some (.bool a0_0) := (blk_cell BK348.out 0).trans rfl; have hcz119_1 : w113.cell? ⟨gb348, 1, none⟩ = some (.slice A0_1 l0_1.length c0_1) := (blk_cell BK348.out 1).trans rfl; have hfz119_0 := blk_frozen BK348.out 0; have hfz119_1 := blk_frozen BK348.out 1) | ((with_reducible refine gate_callee (f := 35) rfl ?_); refine goesL_ (some 95) rfl rfl Try.func35 (by kernel_rfl) rfl #[.agg #[.bool a0_0, .slice A0_1 l0_1.length c0_1]] rfl (by (try simp only [List.map_toArray, List.map_cons, List.map_nil]); first | done | rfl | (simp only [List.length_drop, List.length_take]; rfl)) ?_; (with_reducible refine (R17_Slam.calls kj73 a0_0 _ _ l0_1 t398 t399 t402 t403 _ ?side1 ?side2 A101.out).mono ?_); (case side1 => exact Kd.C_below HR0_1.out (by repeat (first | (with_reducible first | exact HB.out | apply below_alloc | apply pw_below_drewN | apply below_drew1 | refine below_set ?_ GE348.out | refine below_set ?_ GE354.out | refine below_set ?_ GE360.out | refine below_set ?_ GE366.out) | exact HB.out))); (case side2 => exact HC0_1.out); rintro e w120 ⟨v400, rfl, ho0, hb⟩; refine ⟨_, rfl, ?_⟩; have n0_ := Aside0.mk (Kd.R_elder' (by (with_reducible repeat (first | apply Kd.R_alloc | apply Kd.R_drewN | apply Kd.R_drew)); exact (Kd.R_mono (Kd.R_far (p := ⟨gb360, 1, none⟩) (Kd.R_far (p := ⟨gb360, 0, none⟩) (Kd.R_types HO_355001.out BK360.out (by decide)) (fun _ hk => hk.2) (.bool t392)) (fun _ hk => hk.2) (.slice Ao117 t393.length co117)) (fun _ h_ => h_.1))) (Kd.R_base ho0) hb); have n1_ := Aside0.mk (Kd.R_elder' (by (with_reducible repeat (first | apply Kd.R_alloc | apply Kd.R_drewN | apply Kd.R_drew)); exact (Kd.R_mono (Kd.R_far (p := ⟨gb360, 1, none⟩) (Kd.R_far (p := ⟨gb360, 0, none⟩) (Kd.R_types HO_361001.out BK360.out (by decide)) (fun _ hk => hk.2) (.bool t392)) (fun _ hk => hk.2) (.slice Ao117 t393.length co117)) (fun _ h_ => h_.1))) (Kd.R_base ho0) hb); have n2_ := Aside0.mk (Kd.R_elder' (by (with_reducible repeat (first | apply Kd.R_alloc | apply Kd.R_drewN | apply Kd.R_drew)); exact (Kd.R_mono (Kd.R_far (p := ⟨gb360, 1, none⟩) (Kd.R_far (p := ⟨gb360, 0, none⟩) (Kd.R_types HO_367001.out BK360.out (by decide)) (fun _ hk => hk.2) (.bool t392)) (fun _ hk => hk.2) (.slice Ao117 t393.length co117)) (fun _ h_ => h_.1))) (Kd.R_base ho0) hb); have n3_ := Aside0.mk (Kd.R_elder' (by (with_reducible repeat (first | apply Kd.R_alloc | apply Kd.R_drewN | apply Kd.R_drew)); exact (Kd.R_mono (Kd.R_far (p := ⟨gb360, 1, none⟩) (Kd.R_far (p := ⟨gb360, 0, none⟩) (Kd.R_types HO395.out BK360.out (by decide)) (fun _ hk => hk.2) (.bool t392)) (fun _ hk => hk.2) (.slice Ao117 t393.length co117)) (fun _ h_ => h_.1))) (Kd.R_base ho0) hb); have n4_ := Aside0.mk (Kd.R_lower (Kd.R_new' (Kd.R_new' (Kd.R_new' (Kd.R_new' ho0 (Kd.R_lt (by (with_reducible repeat (first | apply Kd.R_alloc | apply Kd.R_drewN | apply Kd.R_drew)); exact (Kd.R_mono (Kd.R_far (p := ⟨gb360, 1, none⟩) (Kd.R_far (p := ⟨gb360, 0, none⟩) (Kd.R_types HO_355001.out BK360.out (by decide)) (fun _ hk => hk.2) (.bool t392)) (fun _ hk => hk.2) (.slice Ao117 t393.length co117)) (fun _ h_ => h_.1))))) (Kd.R_lt (by (with_reducible repeat (first | apply Kd.R_alloc | apply Kd.R_drewN | apply Kd.R_drew)); exact (Kd.R_mono (Kd.R_far (p := ⟨gb360, 1, none⟩) (Kd.R_far (p := ⟨gb360, 0, none⟩) (Kd.R_types HO_361001.out BK360.out (by decide)) (fun _ hk => hk.2) (.bool t392)) (fun _ hk => hk.2) (.slice Ao117 t393.length co117)) (fun _ h_ => h_.1))))) (Kd.R_lt (by (with_reducible repeat (first | apply Kd.R_alloc | apply Kd.R_drewN | apply Kd.R_drew)); exact (Kd.R_mono (Kd.R_far (p := ⟨gb360, 1, none⟩) (Kd.R_far (p := ⟨gb360, 0, none⟩) (Kd.R_types HO_367001.out BK360.out (by decide)) (fun _ hk => hk.2) (.bool t392)) (fun _ hk => hk.2) (.slice Ao117 t393.length co117)) (fun _ h_ => h_.1))))) (Kd.R_lt (by (with_reducible repeat (first | apply Kd.R_alloc | apply Kd.R_drewN | apply Kd.R_drew)); exact (Kd.R_mono (Kd.R_far (p := ⟨gb360, 1, none⟩) (Kd.R_far (p := ⟨gb360, 0, none⟩) (Kd.R_types HO395.out BK360.out (by decide)) (fun _ hk => hk.2) (.bool t392)) (fun _ hk => hk.2) (.slice Ao117 t393.length co117)) (fun _ h_ => h_.1))))) (below_size (by repeat (first | (with_reducible first | exact HB.out | apply below_alloc | apply pw_below_drewN | apply below_drew1 | refine below_set ?_ GE348.out | refine below_set ?_ GE354.out | refine below_set ?_ GE360.out | refine below_set ?_ GE366.out) | exact HB.out)))); have n5_ := Aside0.mk (blk_below (g := gb348) (o := .cells #[.bool a0_0, .slice A0_1 l0_1.length c0_1] 25 (0, 0)) (by (with_reducible repeat (first | refine blk_drewN ?_ _ | refine blk_drew ?_ | refine blk_alloc ?_ _)); refine blk_far ?_ NB348_360.out _; (with_reducible repeat (first | refine blk_drewN ?_ _ | refine blk_drew ?_ | refine blk_alloc ?_ _)); refine blk_far ?_ NB348_360.out _; (with_reducible repeat (first | refine blk_drewN ?_ _ | refine blk_drew ?_ | refine blk_alloc ?_ _)); exact BK348.out) hb); have n6_ := Aside0.mk (blk_below (g := gb354) (o := .cells #[.bool t350, .slice Ao19 t351.length co19] 25 (0, 0)) (by (with_reducible repeat (first | refine blk_drewN ?_ _ | refine blk_drew ?_ | refine blk_alloc ?_ _)); refine blk_far ?_ NB354_360.out _; (with_reducible repeat (first | refine blk_drewN ?_ _ | refine blk_drew ?_ | refine blk_alloc ?_ _)); refine blk_far ?_ NB354_360.out _; (with_reducible repeat (first | refine blk_drewN ?_ _ | refine blk_drew ?_ | refine blk_alloc ?_ _)); exact BK354.out) hb); have n7_ := Aside0.mk (blk_below (g := gb360) (o := .cells #[.bool t392, .slice Ao117 t393.length co117] 25 (0, 0)) (by (with_reducible repeat (first | refine blk_drewN ?_ _ | refine blk_drew ?_ | refine blk_alloc ?_ _)); refine blk_put (cs := #[.bool t392, .slice Ao83 t382.length co83]) ?_ 1 _ rfl; (with_reducible repeat (first | refine blk_drewN ?_ _ | refine blk_drew ?_ | refine blk_alloc ?_ _)); refine blk_put (cs := #[.bool t381, .slice Ao83 t382.length co83]) ?_ 0 _ rfl; (with_reducible repeat (first | refine blk_drewN ?_ _ | refine blk_drew ?_ | refine blk_alloc ?_ _)); exact BK360.out) hb); have n8_ := Aside0.mk (blk_below (g := gb366) (o := .cells #[.bool t386, .slice Ao88 t387.length co88] 25 (0, 0)) (by (with_reducible repeat (first | refine blk_drewN ?_ _ | refine blk_drew ?_ | refine blk_alloc ?_ _)); refine blk_far ?_ NB366_360.out _; (with_reducible repeat (first | refine blk_drewN ?_ _ | refine blk_drew ?_ | refine blk_alloc ?_ _)); refine blk_far ?_ NB366_360.out _; (with_reducible repeat (first | refine blk_drewN ?_ _ | refine blk_drew ?_ | refine blk_alloc ?_ _)); exact BK366.out) hb); have n9_ := Aside0.mk (below_step (by repeat (first | (with_reducible first | exact HB.out | apply below_alloc | apply pw_below_drewN | apply below_drew1 | refine below_set ?_ GE348.out | refine below_set ?_ GE354.out | refine below_set ?_ GE360.out | refine below_set ?_ GE366.out) | exact HB.out)) hb); clear HO_355001; clear HO_361001; clear HO_367001; clear HO395; clear BK348; clear BK354; clear BK360; clear BK366; clear HB; have HO_355001 := n0_; have HO_361001 := n1_; have HO_367001 := n2_; have HO395 := n3_; have HO401 := n4_; have BK348 := n5_; have BK354 := n6_; have BK360 := n7_; have BK366 := n8_; have HB := n9_; clear n0_ n1_ n2_ n3_ n4_ n5_ n6_ n7_ n8_ n9_; (try clear hb); (try clear hb2); (try clear hk); (try clear hi); (try clear ho0); have hcz121_0 : w120.cell? ⟨gb366, 0, none⟩ = some (.bool t386) := (blk_cell BK366.out 0).trans rfl; have hcz121_1 : w120.cell? ⟨gb366, 1, none⟩ = some (.slice Ao88 t387.length co88) := (blk_cell BK366.out 1).trans rfl; have hfz121_0 := blk_frozen BK366.out 0; have hfz121_1 := blk_frozen BK366.out 1; obtain ⟨Ao122, co122, eo122⟩ := Kd.R_slice HO401.out; subst eo122; have hcz123_0 : w120.cell? ⟨gb360, 0, none⟩ = some (.bool t392) := (blk_cell BK360.out 0).trans rfl; have hcz123_1 : w120.cell? ⟨gb360, 1, none⟩ = some (.slice Ao117 t393.length co117) := (blk_cell BK360.out 1).trans rfl; have hfz123_0 := blk_frozen BK360.out 0; have hfz123_1 := blk_frozen BK360.out 1) | ((with_reducible refine gate_callee (f := 13) rfl ?_); refine goesL_ (some 101) rfl rfl Try.func13 (by kernel_rfl) rfl #[.agg #[.bool t392, .slice Ao117 t393.length co117], .agg #[.bool t398, .slice Ao122 t399.length co122]] rfl (by (try simp only [List.map_toArray, List.map_cons, List.map_nil]); first | done | rfl | (simp only [List.length_drop, List.length_take]; rfl)) ?_; (with_reducible refine (K_SameChain.calls kj73 t392 _ _ t393 t398 _ _ t399 true _ ?side1 ?side2 ?side3 ?side4 A102.out).mono ?_); (case side1 => refine (Kd.R_reads' (e := 4) (base := w.heap.size) (ok := fun k_ => ((((True ∧ some k_ ≠ (.slice Ao19 t351.length co19 : Value).ownBlock) ∧ some k_ ≠ (.slice Ao83 t382.length co83 : Value).ownBlock) ∧ some k_ ≠ (.slice Ao88 t387.length co88 : Value).ownBlock) ∧ some k_ ≠ (.slice Ao122 t399.length co122 : Value).ownBlock)) (n := t393.length) (c := co117) ?_).2.2; exact (by (with_reducible repeat (first | apply Kd.R_alloc | apply Kd.R_drewN | apply Kd.R_drew)); exact (Kd.R_mono (Kd.R_far (p := ⟨gb366, 1, none⟩) (Kd.R_far (p := ⟨gb366, 0, none⟩) (Kd.R_types HO395.out BK366.out (by decide)) (fun _ hk => hk.2) (.bool t398)) (fun _ hk => hk.2) (.slice Ao122 t399.length co122)) (fun _ h_ => h_.1)))); (case side2 => exact (Kd.R_reads' HO395.out).2.1); (case side3 => refine (Kd.R_reads' (e := 4) (base := w.heap.size) (ok := fun k_ => ((((True ∧ some k_ ≠ (.slice Ao19 t351.length co19 : Value).ownBlock) ∧ some k_ ≠ (.slice Ao83 t382.length co83 : Value).ownBlock) ∧ some k_ ≠ (.slice Ao88 t387.length co88 : Value).ownBlock) ∧ some k_ ≠ (.slice Ao117 t393.length co117 : Value).ownBlock)) (n := t399.length) (c := co122) ?_).2.2; exact (by (with_reducible repeat (first | apply Kd.R_alloc | apply Kd.R_drewN | apply Kd.R_drew)); exact (Kd.R_mono (Kd.R_far (p := ⟨gb366, 1, none⟩) (Kd.R_far (p := ⟨gb366, 0, none⟩) (Kd.R_types HO401.out BK366.out (by decide)) (fun _ hk => hk.2) (.bool t398)) (fun _ hk => hk.2) (.slice Ao122 t399.length co122)) (fun _ h_ => h_.1)))); (case side4 => exact (Kd.R_reads' HO401.out).2.1); rintro e w124 ⟨rfl, hb⟩; refine ⟨_, rfl, ?_⟩; have n0_ := Aside0.mk (Kd.R_below (by (with_reducible repeat (first | apply Kd.R_alloc | apply Kd.R_drewN | apply Kd.R_drew)); exact (Kd.R_mono (Kd.R_far (p := ⟨gb366, 1, none⟩) (Kd.R_far (p := ⟨gb366, 0, none⟩) (Kd.R_types HO_355001.out BK366.out (by decide)) (fun _ hk => hk.2) (.bool t398)) (fun _ hk => hk.2) (.slice Ao122 t399.length co122)) (fun _ h_ => h_.1))) hb); have n5_ := Aside0.mk (blk_below (g := gb348) (o := .cells #[.bool a0_0, .slice A0_1 l0_1.length c0_1] 25 (0, 0)) (by (with_reducible repeat (first | refine blk_drewN ?_ _ | refine blk_drew ?_ | refine blk_alloc ?_ _)); refine blk_far ?_ NB348_366.out _; (with_reducible repeat (first | refine blk_drewN ?_ _ | refine blk_drew ?_ | refine blk_alloc ?_ _)); refine blk_far ?_ NB348_366.out _; (with_reducible repeat (first | refine blk_drewN ?_ _ | refine blk_drew ?_ | refine blk_alloc ?_ _)); exact BK348.out) hb); have n6_ := Aside0.mk (blk_below (g := gb354) (o := .cells #[.bool t350, .slice Ao19 t351.length co19] 25 (0, 0)) (by (with_reducible repeat (first | refine blk_drewN ?_ _ | refine blk_drew ?_ | refine blk_alloc ?_ _)); refine blk_far ?_ NB354_366.out _; (with_reducible repeat (first | refine blk_drewN ?_ _ | refine blk_drew ?_ | refine blk_alloc ?_ _)); refine blk_far ?_ NB354_366.out _; (with_reducible repeat (first | refine blk_drewN ?_ _ | refine blk_drew ?_ | refine blk_alloc ?_ _)); exact BK354.out) hb); have n8_ := Aside0.mk (blk_below (g := gb366) (o := .cells #[.bool t398, .slice Ao122 t399.length co122] 25 (0, 0)) (by (with_reducible repeat (first | refine blk_drewN ?_ _ | refine blk_drew ?_ | refine blk_alloc ?_ _)); refine blk_put (cs := #[.bool t398, .slice Ao88 t387.length co88]) ?_ 1 _ rfl; (with_reducible repeat (first | refine blk_drewN ?_ _ | refine blk_drew ?_ | refine blk_alloc ?_ _)); refine blk_put (cs := #[.bool t386, .slice Ao88 t387.length co88]) ?_ 0 _ rfl; (with_reducible repeat (first | refine blk_drewN ?_ _ | refine blk_drew ?_ | refine blk_alloc ?_ _)); exact BK366.out) hb); have n9_ := Aside0.mk (below_step (by repeat (first | (with_reducible first | exact HB.out | apply below_alloc | apply pw_below_drewN | apply below_drew1 | refine below_set ?_ GE348.out | refine below_set ?_ GE354.out | refine below_set ?_ GE360.out | refine below_set ?_ GE366.out) | exact HB.out)) hb); clear HO_355001; clear HO_361001; clear HO_367001; clear HO395; clear HO401; clear BK348; clear BK354; clear BK360; clear BK366; clear HB; have HO_355001 := n0_; have BK348 := n5_; have BK354 := n6_; have BK366 := n8_; have HB := n9_; clear n0_ n5_ n6_ n8_ n9_; (try clear hb); (try clear hb2); (try clear hk); (try clear hi); have hcz125_0 : w124.cell? ⟨gb354, 0, none⟩ = some (.bool t350) := (blk_cell BK354.out 0).trans rfl; have hcz125_1 : w124.cell? ⟨gb354, 1, none⟩ = some (.slice Ao19 t351.length co19) := (blk_cell BK354.out 1).trans rfl; have hfz125_0 := blk_frozen BK354.out 0; have hfz125_1 := blk_frozen BK354.out 1; have hcz126_0 : w124.cell? ⟨gb348, 0, none⟩ = some (.bool a0_0) := (blk_cell BK348.out 0).trans rfl; have hcz126_1 : w124.cell? ⟨gb348, 1, none⟩ = some (.slice A0_1 l0_1.length c0_1) := (blk_cell BK348.out 1).trans rfl; have hfz126_0 := blk_frozen BK348.out 0; have hfz126_1 := blk_frozen BK348.out 1) | ((with_reducible refine gate_callee (f := 13) rfl ?_); (with_reducible refine gate_dst (N := 115) rfl ?_); refine gate_guard (by rfl) ?_; dsimp only; refine goesL_ (some 115) rfl rfl Try.func13 (by kernel_rfl) rfl #[.agg #[.bool t350, .slice Ao19 t351.length co19], .agg #[.bool a0_0, .slice A0_1 l0_1.length c0_1]] rfl (by (try simp only [List.map_toArray, List.map_cons, List.map_nil]); first | done | rfl | (simp only [List.length_drop, List.length_take]; rfl)) ?_; (with_reducible refine (K_SameChain.calls kj73 t350 _ _ t351 a0_0 _ _ l0_1 true _ ?side1 ?side2 ?side3 ?side4 A106.out).mono ?_); (case side1 => repeat (first | exact (Kd.R_reads' HO_355001.out).2.2 | (with_reducible refine Kd.C_alloc ?_ _) | (with_reducible refine Kd.C_drewN ?_ _) | (with_reducible refine Kd.C_drew ?_))); (case side2 => exact (Kd.R_reads' HO_355001.out).2.1); (case side3 => repeat (first | exact (Kd.C_below HR0_1.out HB.out) | (with_reducible refine Kd.C_alloc ?_ _) | (with_reducible refine Kd.C_drewN ?_ _) | (with_reducible refine Kd.C_drew ?_))); (case side4 => exact HC0_1.out); rintro e w127 ⟨rfl, hb⟩; refine ⟨_, rfl, ?_⟩; have n9_ := Aside0.mk (below_step (by repeat (first | (with_reducible first | exact HB.out | apply below_alloc | apply pw_below_drewN | apply below_drew1 | refine below_set ?_ GE348.out | refine below_set ?_ GE354.out | refine below_set ?_ GE360.out | refine below_set ?_ GE366.out) | exact HB.out)) hb); clear HO_355001; clear BK348; clear BK354; clear BK366; clear HB; have HB := n9_; clear n9_; (try clear hb); (try clear hb2); (try clear hk); (try clear hi)) | ((with_reducible refine gate_callee (f := 10) rfl ?_); (with_reducible refine gate_dst (N := 118) rfl ?_); refine gate_guard (by rfl) ?_; dsimp only; refine goesL_ (some 118) rfl rfl Try.func10 (by kernel_rfl) rfl #[] rfl (by (try simp only [List.map_toArray, List.map_cons, List.map_nil]); first | done | rfl | (simp only [List.length_drop, List.length_take]; rfl)) ?_; (with_reducible refine (L17_awake.calls  true _ A108.out).mono ?_); rintro e w128 ⟨rfl, hb⟩; refine ⟨_, rfl, ?_⟩; have n9_ := Aside0.mk (below_step (by repeat (first | (with_reducible first | exact HB.out | apply below_alloc | apply pw_below_drewN | apply below_drew1 | refine below_set ?_ GE348.out | refine below_set ?_ GE354.out | refine below_set ?_ GE360.out | refine below_set ?_ GE366.out) | exact HB.out)) hb); clear HB; have HB := n9_; clear n9_; (try clear hb); (try clear hb2); (try clear hk); (try clear hi)))
                all_goals go_ret
                all_goals exact ⟨by first | rfl | (simp [errW_none, errW_some] <;> rfl) | (simp [*, errW_none, errW_some] <;> rfl), by repeat (first | (with_reducible first | exact HB.out | apply below_alloc | apply pw_below_drewN | apply below_drew1 | refine below_set ?_ GE348.out | refine below_set ?_ GE354.out | refine below_set ?_ GE360.out | refine below_set ?_ GE366.out) | exact HB.out)⟩


end Go.Proofs.Ytdkabbjknclifaa.F
end
