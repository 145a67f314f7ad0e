/- Part 1 of LockValid: what the functions reckon, step by step, and plain laws. No condition. -/
import Derived.Test.YtdkabbjknclifaaWSized
import Derived.Test.YtdkabbjknclifaaKL17x2
section
-- Written by fork.py (this session's program over the kit's print.py). Not trusted: Lean checks it.
namespace Go.Proofs.Ytdkabbjknclifaa.F
open Go.RowKit Go.Proofs.YtdkabbjknclifaaW.PrintWords Go.Proofs.YtdkabbjknclifaaW.PrintLast Go.Proofs.YtdkabbjknclifaaW.PrintMore
attribute [local go_sem] max2_int min2_int max_two min_two max_three min_three max_four min_four
set_option linter.unusedVariables false
set_option linter.unusedSimpArgs false

/-! ### slices_Index_bool_bool: function 51 -/
def slices_Index_bool_bool.l0 : Nat → List Bool → Bool → Int → Int → Option (Int)
  | 0, _, _, _, _ => none
  | k + 1, x0, x1, x7, x8 => if x8 < x7 then (if 0 ≤ x8 then (if x8 < (x0.length : Int) then (if (x1 == (rdOf false x0 x8)) = true then (some x8) else (slices_Index_bool_bool.l0 k x0 x1 x7 (wrap64 (x8 + 1)))) else (none)) else (none)) else (some (-1))
def slices_Index_bool_bool.f (k : Nat) (l0 : List Bool) (a1 : Bool) : Option (Int) := slices_Index_bool_bool.l0 k l0 a1 (l0.length : Int) 0
theorem slices_Index_bool_bool.mono_l : ∀ k, (∀ y0 y1 y2 y3, LeO (slices_Index_bool_bool.l0 k y0 y1 y2 y3) (slices_Index_bool_bool.l0 (k + 1) y0 y1 y2 y3))
  | 0 => fun _ _ _ _ r h => by simp [slices_Index_bool_bool.l0] at h
  | k + 1 => by
    have ih0 := slices_Index_bool_bool.mono_l k
    · intro y0 y1 y2 y3
      unfold slices_Index_bool_bool.l0
      repeat' first
      | (with_reducible exact ih0 _ _ _ _)
      | (with_reducible exact LeO.refl _)
      | (with_reducible exact LeO.none _)
      | (with_reducible refine LeO.ite ?_ ?_)
      | (with_reducible refine LeO.bind ?_ (fun _ => ?_))
      | exact ih0 _ _ _ _
      | exact LeO.none _
      | refine LeO.ite ?_ ?_
      | refine LeO.bind ?_ (fun _ => ?_)
theorem slices_Index_bool_bool.mono : ∀ a0 a1 k, LeO (slices_Index_bool_bool.f k a0 a1) (slices_Index_bool_bool.f (k + 1) a0 a1) := by
  intro a0 a1 k
  have ih0 := slices_Index_bool_bool.mono_l k
  unfold slices_Index_bool_bool.f
  repeat' first
      | (with_reducible exact ih0 _ _ _ _)
      | (with_reducible exact LeO.refl _)
      | (with_reducible exact LeO.none _)
      | (with_reducible refine LeO.ite ?_ ?_)
      | (with_reducible refine LeO.bind ?_ (fun _ => ?_))
      | exact ih0 _ _ _ _
      | exact LeO.none _
      | refine LeO.ite ?_ ?_
      | refine LeO.bind ?_ (fun _ => ?_)
set_option maxHeartbeats 8000000 in
set_option maxRecDepth 100000 in
theorem slices_Index_bool_bool.calls (k : Nat) (A0 : Option Addr) (c0 : Nat) (l0 : List Bool) (a1 : Bool) (r : Int) (w : World) (hr0 : Kd.C Kd.bool w A0 l0.length l0) (hc0 : l0.length ≤ c0) (h : slices_Index_bool_bool.f k l0 a1 = some r) :
    Calls Try.prog 51 #[.slice A0 l0.length c0, .bool a1] w fun e w' => e = .returned (.int .i64 r) ∧ Drawn0 w w' := by
  have HR0 := Aside0.mk hr0
  have HC0 := Aside0.mk hc0
  clear hr0 hc0
  have H : (slices_Index_bool_bool.l0 k l0 a1 (l0.length : Int) 0) = some r := h
  clear h
  have H' := Aside0.mk H
  clear H
  go_enter Try.func51, Try.ntmps51
  go_wp2
  go_loopg [8] k (fun kq v8 w' => ∃ (x8_1 : Int), v8 = .int .i64 x8_1 ∧ Aside0 (slices_Index_bool_bool.l0 kq l0 a1 (l0.length : Int) x8_1 = some r) ∧ Aside0 (kq ≤ k) ∧ Drawn0 w w')
  case atStart => exact ⟨(0), (by first | rfl | (simp; done) | (simp [*]; done)), H', ⟨Nat.le_refl _⟩, by repeat (first | exact Drawn0.refl _ | apply Drawn0.step)⟩
  case round =>
    clear H'
    try clear p2
    obtain ⟨x8_1, rfl, HA, HK1, ⟨m1, rfl⟩⟩ := hrel
    cases gk with
    | zero => exact absurd HA.out (by simp [slices_Index_bool_bool.l0])
    | succ k1 =>
      have H := HA.out
      clear HA
      simp only [slices_Index_bool_bool.l0] at H
      by_cases c3 : x8_1 < (l0.length : Int)
      · rw [if_pos c3] at H
        have c3b0 : decide (x8_1 < (l0.length : Int)) = true := decide_eq_true c3
        clear c3
        by_cases c4 : 0 ≤ x8_1
        · rw [if_pos c4] at H
          have c4b0 : decide (0 ≤ x8_1) = true := decide_eq_true c4
          clear c4
          by_cases c5 : x8_1 < (l0.length : Int)
          · rw [if_pos c5] at H
            have c5b0 : decide (x8_1 < (l0.length : Int)) = true := decide_eq_true c5
            clear c5
            by_cases c6 : (a1 == (rdOf false l0 x8_1)) = true
            · rw [if_pos c6] at H
              have c6b0 : (a1 == (rdOf false l0 x8_1)) = true := c6
              (try (have c6b1 : decide (a1 = (rdOf false l0 x8_1)) = true := by simpa using c6))
              (try (have c6b2 : (a1 == (rdOf false l0 x8_1)) = true := by simpa using c6))
              clear c6
              obtain rfl := Option.some.inj H
              have p333 : 0 ≤ (x8_1 : Int) := of_decide_eq_true (by first | (with_reducible assumption) | assumption)
              have q333 : x8_1 < (l0.length : Int) := of_decide_eq_true (by first | (with_reducible assumption) | assumption)
              obtain ⟨ad333, e333, hx333_0⟩ := Kd.at_bool HR0.out x8_1 p333 q333
              cases e333
              replace p333 := eq_true p333
              replace q333 := eq_true q333
              go_wp2
              all_goals go_ret
              all_goals exact ⟨by first | rfl | (simp; done) | (simp [*]; done), by repeat (first | exact Drawn0.refl _ | apply Drawn0.step)⟩
            · rw [if_neg c6] at H
              have c6b0 : (a1 == (rdOf false l0 x8_1)) = false := by simpa using c6
              (try (have c6b1 : decide (a1 = (rdOf false l0 x8_1)) = false := by simpa using c6))
              (try (have c6b2 : (a1 == (rdOf false l0 x8_1)) = false := by simpa using c6))
              (try (have c6b3 : ¬ (a1 = (rdOf false l0 x8_1)) := by simpa using c6))
              clear c6
              have H' := Aside0.mk H
              clear H
              have p333 : 0 ≤ (x8_1 : Int) := of_decide_eq_true (by first | (with_reducible assumption) | assumption)
              have q333 : x8_1 < (l0.length : Int) := of_decide_eq_true (by first | (with_reducible assumption) | assumption)
              obtain ⟨ad333, e333, hx333_0⟩ := Kd.at_bool HR0.out x8_1 p333 q333
              cases e333
              replace p333 := eq_true p333
              replace q333 := eq_true q333
              go_wp2
              go_roundg k1
              case measure => have := HK1.out; omega
              case rel => exact ⟨(wrap64 (x8_1 + 1)), (by first | rfl | (simp; done) | (simp [*]; done)), H', ⟨by have := HK1.out; omega⟩, by repeat (first | exact Drawn0.refl _ | apply Drawn0.step)⟩
          · rw [if_neg c5] at H
            exact absurd H (by simp)
        · rw [if_neg c4] at H
          exact absurd H (by simp)
      · rw [if_neg c3] at H
        have c3b0 : decide (x8_1 < (l0.length : Int)) = false := decide_eq_false c3
        clear c3
        obtain rfl := Option.some.inj H
        go_wp2
        all_goals go_ret
        all_goals exact ⟨by first | rfl | (simp; done) | (simp [*]; done), by repeat (first | exact Drawn0.refl _ | apply Drawn0.step)⟩


end Go.Proofs.Ytdkabbjknclifaa.F
end
section
-- Written by fork.py (this session's program over the kit's print.py). Not trusted: Lean checks it.
namespace Go.Proofs.Ytdkabbjknclifaa.F
open Go.RowKit Go.Proofs.YtdkabbjknclifaaW.PrintWords Go.Proofs.YtdkabbjknclifaaW.PrintLast Go.Proofs.YtdkabbjknclifaaW.PrintMore
attribute [local go_sem] max2_int min2_int max_two min_two max_three min_three max_four min_four
set_option linter.unusedVariables false
set_option linter.unusedSimpArgs false

/-! ### K_Mod: function 36 -/
def K_Mod.f (a0 : Int) (a1 : Int) : Option (Int) := if a1 < 1 then (some 0) else (if a1 = 0 then (none) else (if (Int.tmod a0 a1) < 0 then (some (wrap64 ((Int.tmod a0 a1) + a1))) else (some (Int.tmod a0 a1))))
set_option maxHeartbeats 8000000 in
set_option maxRecDepth 100000 in
theorem K_Mod.calls (a0 : Int) (a1 : Int) (r : Int) (w : World) (h : K_Mod.f a0 a1 = some r) :
    Calls Try.prog 36 #[.int .i64 a0, .int .i64 a1] w fun e w' => e = .returned (.int .i64 r) ∧ Drawn0 w w' := by
  have H : (if a1 < 1 then (some 0) else (if a1 = 0 then (none) else (if (Int.tmod a0 a1) < 0 then (some (wrap64 ((Int.tmod a0 a1) + a1))) else (some (Int.tmod a0 a1))))) = some r := h
  clear h
  by_cases c3 : a1 < 1
  · rw [if_pos c3] at H
    have c3b0 : decide (a1 < 1) = true := decide_eq_true c3
    clear c3
    obtain rfl := Option.some.inj H
    go_enter Try.func36, Try.ntmps36
    go_wp2
    all_goals go_ret
    all_goals exact ⟨by first | rfl | (simp; done) | (simp [*]; done), by repeat (first | exact Drawn0.refl _ | apply Drawn0.step)⟩
  · rw [if_neg c3] at H
    have c3b0 : decide (a1 < 1) = false := decide_eq_false c3
    clear c3
    by_cases c4 : a1 = 0
    · rw [if_pos c4] at H
      exact absurd H (by simp)
    · rw [if_neg c4] at H
      have c4b0 : (a1 == 0) = false := beq_eq_false_iff_ne.mpr c4
      have c4b1 : (a1 != 0) = true := bne_iff_ne.mpr c4
      by_cases c5 : (Int.tmod a0 a1) < 0
      · rw [if_pos c5] at H
        have c5b0 : decide ((Int.tmod a0 a1) < 0) = true := decide_eq_true c5
        clear c5
        obtain rfl := Option.some.inj H
        go_enter Try.func36, Try.ntmps36
        go_wp2
        all_goals go_ret
        all_goals exact ⟨by first | rfl | (simp; done) | (simp [*]; done), by repeat (first | exact Drawn0.refl _ | apply Drawn0.step)⟩
      · rw [if_neg c5] at H
        have c5b0 : decide ((Int.tmod a0 a1) < 0) = false := decide_eq_false c5
        clear c5
        obtain rfl := Option.some.inj H
        go_enter Try.func36, Try.ntmps36
        go_wp2
        all_goals go_ret
        all_goals exact ⟨by first | rfl | (simp; done) | (simp [*]; done), by repeat (first | exact Drawn0.refl _ | apply Drawn0.step)⟩

end Go.Proofs.Ytdkabbjknclifaa.F
end
section
-- Written by fork.py (this session's program over the kit's print.py). Not trusted: Lean checks it.
namespace Go.Proofs.Ytdkabbjknclifaa.F
open Go.RowKit Go.Proofs.YtdkabbjknclifaaW.PrintWords Go.Proofs.YtdkabbjknclifaaW.PrintLast Go.Proofs.YtdkabbjknclifaaW.PrintMore
attribute [local go_sem] max2_int min2_int max_two min_two max_three min_three max_four min_four
set_option linter.unusedVariables false
set_option linter.unusedSimpArgs false

/-! ### lock_Open: function 19 -/
def lock_Open.j0 : Nat → List Int → Int → Bool → Option (Int × Int)
  | 0, _, _, _ => none
  | k + 1, x4, x5, x17 => if x17 = true then (if 6 = 0 then (if 0 < (x4.length : Int) then (some (rd x4 0, 0)) else (none)) else (some (0, 6))) else (if x5 = 0 then (if 0 < (x4.length : Int) then (some (rd x4 0, 0)) else (none)) else (some (0, x5)))
def lock_Open.f (k : Nat) (a0_0 : Bool) (l0_1 : List Bool) : Option (Int × Int) := (lock_Missing.f a0_0 l0_1).bind fun bt206 => (if bt206.2 = 0 then (lock_Open.j0 k bt206.1 bt206.2 ((bt206.1.length : Int) == 0)) else (lock_Open.j0 k bt206.1 bt206.2 false))
theorem lock_Open.mono_l : ∀ k, (∀ y0 y1 y2, LeO (lock_Open.j0 k y0 y1 y2) (lock_Open.j0 (k + 1) y0 y1 y2))
  | 0 => fun _ _ _ r h => by simp [lock_Open.j0] at h
  | k + 1 => by
    have ih0 := lock_Open.mono_l k
    · intro y0 y1 y2
      unfold lock_Open.j0
      repeat' first
      | (with_reducible exact ih0 _ _ _)
      | (with_reducible exact LeO.refl _)
      | (with_reducible exact LeO.none _)
      | (with_reducible refine LeO.ite ?_ ?_)
      | (with_reducible refine LeO.bind ?_ (fun _ => ?_))
      | exact ih0 _ _ _
      | exact LeO.none _
      | refine LeO.ite ?_ ?_
      | refine LeO.bind ?_ (fun _ => ?_)
theorem lock_Open.mono : ∀ a0 a1 k, LeO (lock_Open.f k a0 a1) (lock_Open.f (k + 1) a0 a1) := by
  intro a0 a1 k
  have ih0 := lock_Open.mono_l k
  unfold lock_Open.f
  repeat' first
      | (with_reducible exact ih0 _ _ _)
      | (with_reducible exact LeO.refl _)
      | (with_reducible exact LeO.none _)
      | (with_reducible refine LeO.ite ?_ ?_)
      | (with_reducible refine LeO.bind ?_ (fun _ => ?_))
      | exact ih0 _ _ _
      | exact LeO.none _
      | refine LeO.ite ?_ ?_
      | refine LeO.bind ?_ (fun _ => ?_)
set_option maxHeartbeats 8000000 in
set_option maxRecDepth 100000 in
theorem lock_Open.calls (k : Nat) (a0_0 : Bool) (A0_1 : Option Addr) (c0_1 : Nat) (l0_1 : List Bool) (r1 : Int) (r2 : Int) (w : World) (hr0_1 : Kd.C Kd.bool w A0_1 l0_1.length l0_1) (hc0_1 : l0_1.length ≤ c0_1) (h : lock_Open.f k a0_0 l0_1 = some (r1, r2)) :
    Calls Try.prog 19 #[.agg #[.bool a0_0, .slice A0_1 l0_1.length c0_1]] w fun e w' => e = .returned (.tuple #[.int .i64 r1, .int .i64 r2]) ∧ Below w.heap.size w w' := by
  have hu25 := Try.underlying25
  have HR0_1 := Aside0.mk hr0_1
  have HC0_1 := Aside0.mk hc0_1
  clear hr0_1 hc0_1
  have HB := Aside0.mk (Below.refl w.heap.size w)
  have H : ((lock_Missing.f a0_0 l0_1).bind fun bt206 => (if bt206.2 = 0 then (lock_Open.j0 k bt206.1 bt206.2 ((bt206.1.length : Int) == 0)) else (lock_Open.j0 k bt206.1 bt206.2 false))) = some (r1, r2) := h
  clear h
  replace H := Option.bind_eq_some_iff.mp H
  obtain ⟨⟨t206, t209⟩, A20, H⟩ := H
  replace H : (if t209 = 0 then (lock_Open.j0 k t206 t209 ((t206.length : Int) == 0)) else (lock_Open.j0 k t206 t209 false)) = some (r1, r2) := H
  have A2 := Aside0.mk A20
  clear A20
  have HC3 := Aside0.mk H
  clear H
  go_enter Try.func19, Try.ntmps19
  go_upto_region 2 with (first | ((with_reducible refine gate_dst (N := 1) rfl ?_); (try (refine gate_guard (by rfl) ?_; dsimp only)); refine box_event ?hg (N := 1) ?hd (cs := #[.bool a0_0, .slice A0_1 l0_1.length c0_1]) (t := 25) ?hr ?_; (case hd => rfl); (case hg => rfl); (case hr => first | (go_simp; done) | (go_simp; rfl)); intro gb205 hg w4 hbox hb; have n0_ := Aside0.mk (below_step (by repeat (first | (with_reducible first | exact HB.out | apply below_alloc | apply pw_below_drewN | apply below_drew1) | exact HB.out)) hb); have n1_ := Aside0.mk (hbox); have n2_ := Aside0.mk ((by rw [hg]; exact (below_size (by repeat (first | (with_reducible first | exact HB.out | apply below_alloc | apply pw_below_drewN | apply below_drew1) | exact HB.out))) : w.heap.size ≤ gb205)); have n3_ := Aside0.mk ((by rw [hg]; exact (below_size (by repeat (first | (with_reducible first | exact HB.out | apply below_alloc | apply pw_below_drewN | apply below_drew1) | exact HB.out))) : w.heap.size ≤ gb205)); clear HB; have HB := n0_; have BK205 := n1_; have GW205 := n2_; have GE205 := n3_; clear n0_ n1_ n2_ n3_; clear hb hbox hg; have hcz5_0 : w4.cell? ⟨gb205, 0, none⟩ = some (.bool a0_0) := (blk_cell BK205.out 0).trans rfl; have hcz5_1 : w4.cell? ⟨gb205, 1, none⟩ = some (.slice A0_1 l0_1.length c0_1) := (blk_cell BK205.out 1).trans rfl; have hfz5_0 := blk_frozen BK205.out 0; have hfz5_1 := blk_frozen BK205.out 1) | ((with_reducible refine gate_callee (f := 16) rfl ?_); refine goesL_ (some 8) rfl rfl Try.func16 (by kernel_rfl) rfl #[.agg #[.bool a0_0, .slice A0_1 l0_1.length c0_1]] rfl (by (try simp only [List.map_toArray, List.map_cons, List.map_nil]); first | done | rfl | (simp only [List.length_drop, List.length_take]; rfl)) ?_; (with_reducible refine (lock_Missing.calls a0_0 _ _ l0_1 t206 t209 _ ?side1 ?side2 A2.out).mono ?_); (case side1 => repeat (first | exact (Kd.C_below HR0_1.out HB.out) | (with_reducible refine Kd.C_alloc ?_ _) | (with_reducible refine Kd.C_drewN ?_ _) | (with_reducible refine Kd.C_drew ?_))); (case side2 => exact HC0_1.out); rintro e w6 ⟨v207, rfl, ho0, hb⟩; refine ⟨_, rfl, ?_⟩; have n0_ := Aside0.mk (Kd.R_lower ho0 (below_size (by repeat (first | (with_reducible first | exact HB.out | apply below_alloc | apply pw_below_drewN | apply below_drew1 | refine below_set ?_ GE205.out) | exact HB.out)))); have n1_ := Aside0.mk (blk_below (g := gb205) (o := .cells #[.bool a0_0, .slice A0_1 l0_1.length c0_1] 25 (0, 0)) (by (with_reducible repeat (first | refine blk_drewN ?_ _ | refine blk_drew ?_ | refine blk_alloc ?_ _)); exact BK205.out) hb); have n2_ := Aside0.mk (below_step (by repeat (first | (with_reducible first | exact HB.out | apply below_alloc | apply pw_below_drewN | apply below_drew1 | refine below_set ?_ GE205.out) | exact HB.out)) hb); clear BK205; clear HB; have HO208 := n0_; have BK205 := n1_; have HB := n2_; clear n0_ n1_ n2_; (try clear hb); (try clear hb2); (try clear hk); (try clear hi); (try clear ho0)))
  (try simp only [Act.put, List.setIfInBounds_toArray, List.set_cons_zero, List.set_cons_succ])
  go_cut [17] (fun v17 wc => ∃ (kq : Nat) (x17_2 : Bool), v17 = .bool x17_2 ∧ Aside0 (lock_Open.j0 kq t206 t209 x17_2 = some (r1, r2)) ∧ Aside0 (kq ≤ k) ∧ Aside0 (Kd.R (Kd.int .i64) 3 wc w.heap.size (fun _ => True) v207 t206) ∧ Aside0 (wc.heap[gb205]? = some (.cells #[.bool a0_0, (.slice A0_1 l0_1.length c0_1)] 25 (0, 0))) ∧ Aside0 (Below w.heap.size w wc))
  case first =>
    have H := HC3.out
    clear HC3
    by_cases c7 : t209 = 0
    · rw [if_pos c7] at H
      have c7b0 : (t209 == 0) = true := beq_iff_eq.mpr c7
      have c7b1 : (t209 != 0) = false := bne_eq_false_iff_eq.mpr c7
      clear c7
      (first | rw [c7b0] | (simp only [i64_w, i32_w]; rw [c7b0]) | skip)
      have H' := Aside0.mk H
      clear H
      obtain ⟨Ao8, co8, eo8⟩ := Kd.R_slice HO208.out
      subst eo8
      go_wp2
      go_meet
      case rel => exact ⟨_, (((t206.length : Int) == 0)), (by first | rfl | (simp; done) | (simp [*]; done)), H', ⟨by first | omega | exact Nat.le_refl _⟩, ⟨by (with_reducible repeat (first | apply Kd.R_alloc | apply Kd.R_drewN | apply Kd.R_drew)); exact HO208.out⟩, ⟨by (with_reducible repeat (first | refine blk_drewN ?_ _ | refine blk_drew ?_ | refine blk_alloc ?_ _)); exact BK205.out⟩, ⟨by repeat (first | (with_reducible first | exact HB.out | apply below_alloc | apply pw_below_drewN | apply below_drew1 | refine below_set ?_ GE205.out) | exact HB.out)⟩⟩
    · rw [if_neg c7] at H
      have c7b0 : (t209 == 0) = false := beq_eq_false_iff_ne.mpr c7
      have c7b1 : (t209 != 0) = true := bne_iff_ne.mpr c7
      (first | rw [c7b0] | (simp only [i64_w, i32_w]; rw [c7b0]) | skip)
      have H' := Aside0.mk H
      clear H
      go_wp2
      go_meet
      case rel => exact ⟨_, (false), (by first | rfl | (simp; done) | (simp [*]; done)), H', ⟨by first | omega | exact Nat.le_refl _⟩, ⟨by (with_reducible repeat (first | apply Kd.R_alloc | apply Kd.R_drewN | apply Kd.R_drew)); exact HO208.out⟩, ⟨by (with_reducible repeat (first | refine blk_drewN ?_ _ | refine blk_drew ?_ | refine blk_alloc ?_ _)); exact BK205.out⟩, ⟨by repeat (first | (with_reducible first | exact HB.out | apply below_alloc | apply pw_below_drewN | apply below_drew1 | refine below_set ?_ GE205.out) | exact HB.out)⟩⟩
  case rest =>
    clear HC3
    try clear c1
    try clear p2
    try clear c7
    try clear c7b0
    try clear c7b1
    try clear hcz5_0
    try clear hcz5_1
    try clear hfz5_0
    try clear hfz5_1
    obtain ⟨kq, x17_2, rfl, HA, HJ2, HO_4, BK205, HB⟩ := hcut
    cases kq with
    | zero => exact absurd HA.out (by simp [lock_Open.j0])
    | succ kj2 =>
      have H := HA.out
      clear HA
      simp only [lock_Open.j0] at H
      by_cases c9 : x17_2 = true
      · subst c9
        have H1 : (if 6 = 0 then (if 0 < (t206.length : Int) then (some (rd t206 0, 0)) else (none)) else (some (0, 6))) = some (r1, r2) := by rw [if_pos rfl] at H; exact H
        clear H
        have H := H1
        clear H1
        by_cases c10 : 6 = 0
        · exact absurd c10 (by decide)
        · rw [if_neg c10] at H
          have c10b0 : (6 == 0) = false := beq_eq_false_iff_ne.mpr c10
          have c10b1 : (6 != 0) = true := bne_iff_ne.mpr c10
          simp only [Option.some.injEq, Prod.mk.injEq] at H
          obtain ⟨rfl, rfl⟩ := H
          go_wp2
          all_goals go_ret2
          all_goals exact ⟨by first | rfl | (simp [errW_none, errW_some] <;> rfl) | (simp [*, errW_none, errW_some] <;> rfl), by repeat (first | (with_reducible first | exact HB.out | apply below_alloc | apply pw_below_drewN | apply below_drew1 | refine below_set ?_ GE205.out) | exact HB.out)⟩
      · replace c9 := Bool.eq_false_iff.mpr c9
        subst c9
        have H1 : (if t209 = 0 then (if 0 < (t206.length : Int) then (some (rd t206 0, 0)) else (none)) else (some (0, t209))) = some (r1, r2) := by rw [if_neg (show ¬ (false = true) by decide)] at H; exact H
        clear H
        have H := H1
        clear H1
        by_cases c13 : t209 = 0
        · rw [if_pos c13] at H
          have c13b0 : (t209 == 0) = true := beq_iff_eq.mpr c13
          have c13b1 : (t209 != 0) = false := bne_eq_false_iff_eq.mpr c13
          clear c13
          by_cases c14 : 0 < (t206.length : Int)
          rotate_left
          · rw [if_neg c14] at H
            exact absurd H (by simp)
          rw [if_pos c14] at H
          have c14b0 : decide (0 < (t206.length : Int)) = true := decide_eq_true c14
          have c14b1 : decide (0 < t206.length) = true := decide_eq_true (by omega)
          clear c14
          simp only [Option.some.injEq, Prod.mk.injEq] at H
          obtain ⟨rfl, rfl⟩ := H
          obtain ⟨Ao15, co15, eo15⟩ := Kd.R_slice HO_4.out
          subst eo15
          have p211 : 0 ≤ (0 : Int) := (by omega)
          have q211 : 0 < (t206.length : Int) := of_decide_eq_true (by first | (with_reducible assumption) | assumption)
          obtain ⟨ad211, e211, hx211_0⟩ := Kd.at_int (Kd.R_reads' HO_4.out).2.2 0 p211 q211
          cases e211
          have qi211 : (0 < t206.length) = True := eq_true (by omega)
          (try rw [show ((0 : Int)).toNat = 0 from rfl] at hx211_0)
          (try rw [Addr.add_zero'] at hx211_0)
          replace p211 := eq_true p211
          replace q211 := eq_true q211
          go_wp2
          all_goals go_ret2
          all_goals exact ⟨by first | rfl | (simp [errW_none, errW_some] <;> rfl) | (simp [*, errW_none, errW_some] <;> rfl), by repeat (first | (with_reducible first | exact HB.out | apply below_alloc | apply pw_below_drewN | apply below_drew1 | refine below_set ?_ GE205.out) | exact HB.out)⟩
        · rw [if_neg c13] at H
          have c13b0 : (t209 == 0) = false := beq_eq_false_iff_ne.mpr c13
          have c13b1 : (t209 != 0) = true := bne_iff_ne.mpr c13
          simp only [Option.some.injEq, Prod.mk.injEq] at H
          obtain ⟨rfl, rfl⟩ := H
          go_wp2
          all_goals go_ret2
          all_goals exact ⟨by first | rfl | (simp [errW_none, errW_some] <;> rfl) | (simp [*, errW_none, errW_some] <;> rfl), by repeat (first | (with_reducible first | exact HB.out | apply below_alloc | apply pw_below_drewN | apply below_drew1 | refine below_set ?_ GE205.out) | exact HB.out)⟩


end Go.Proofs.Ytdkabbjknclifaa.F
end
section
-- Written by fork.py (this session's program over the kit's print.py). Not trusted: Lean checks it.
namespace Go.Proofs.Ytdkabbjknclifaa.F
open Go.RowKit Go.Proofs.YtdkabbjknclifaaW.PrintWords Go.Proofs.YtdkabbjknclifaaW.PrintLast Go.Proofs.YtdkabbjknclifaaW.PrintMore
attribute [local go_sem] max2_int min2_int max_two min_two max_three min_three max_four min_four
set_option linter.unusedVariables false
set_option linter.unusedSimpArgs false

/-! ### lock_Lock: function 32 -/
def lock_Lock.f (k : Nat) (a0_0 : Bool) (l0_1 : List Bool) : Option (Bool × List Bool × Int) := (lock_Check.f k a0_0 l0_1).bind fun t319 => (if t319 = 0 then ((lock_New.f (l0_1.length : Int)).bind fun bt320 => (some (bt320.1, bt320.2.1, bt320.2.2))) else (some (false, ([] : List Bool), t319)))
theorem lock_Lock.mono : ∀ a0 a1 k, LeO (lock_Lock.f k a0 a1) (lock_Lock.f (k + 1) a0 a1) := by
  intro a0 a1 k
  unfold lock_Lock.f
  repeat' first
      | (with_reducible exact lock_Check.mono _ _ _)
      | (with_reducible exact LeO.refl _)
      | (with_reducible exact LeO.none _)
      | (with_reducible refine LeO.ite ?_ ?_)
      | (with_reducible refine LeO.bind ?_ (fun _ => ?_))
      | exact lock_Check.mono _ _ _
      | exact LeO.none _
      | refine LeO.ite ?_ ?_
      | refine LeO.bind ?_ (fun _ => ?_)
set_option maxHeartbeats 8000000 in
set_option maxRecDepth 100000 in
theorem lock_Lock.calls (k : Nat) (a0_0 : Bool) (A0_1 : Option Addr) (c0_1 : Nat) (l0_1 : List Bool) (r1 : Bool) (r2 : List Bool) (r3 : Int) (w : World) (hr0_1 : Kd.C Kd.bool w A0_1 l0_1.length l0_1) (hc0_1 : l0_1.length ≤ c0_1) (h : lock_Lock.f k a0_0 l0_1 = some (r1, r2, r3)) :
    Calls Try.prog 32 #[.agg #[.bool a0_0, .slice A0_1 l0_1.length c0_1]] w fun e w' => ∃ v1_ : Value, e = .returned (.tuple #[.agg #[.bool r1, v1_], .int .i64 r3]) ∧ Kd.R Kd.bool 4 w' w.heap.size (fun _ => True) v1_ r2 ∧ Below w.heap.size w w' := by
  have hu25 := Try.underlying25
  have HR0_1 := Aside0.mk hr0_1
  have HC0_1 := Aside0.mk hc0_1
  clear hr0_1 hc0_1
  have HB := Aside0.mk (Below.refl w.heap.size w)
  have H : ((lock_Check.f k a0_0 l0_1).bind fun t319 => (if t319 = 0 then ((lock_New.f (l0_1.length : Int)).bind fun bt320 => (some (bt320.1, bt320.2.1, bt320.2.2))) else (some (false, ([] : List Bool), t319)))) = some (r1, r2, r3) := h
  clear h
  replace H := Option.bind_eq_some_iff.mp H
  obtain ⟨t319, A20, H⟩ := H
  replace H : (if t319 = 0 then ((lock_New.f (l0_1.length : Int)).bind fun bt320 => (some (bt320.1, bt320.2.1, bt320.2.2))) else (some (false, ([] : List Bool), t319))) = some (r1, r2, r3) := H
  have A2 := Aside0.mk A20
  clear A20
  by_cases c3 : t319 = 0
  · rw [if_pos c3] at H
    have c3b0 : (t319 == 0) = true := beq_iff_eq.mpr c3
    have c3b1 : (t319 != 0) = false := bne_eq_false_iff_eq.mpr c3
    clear c3
    replace H := Option.bind_eq_some_iff.mp H
    obtain ⟨⟨t320, t321, t324⟩, A40, H⟩ := H
    replace H : (some (t320, t321, t324)) = some (r1, r2, r3) := H
    have A4 := Aside0.mk A40
    clear A40
    simp only [Option.some.injEq, Prod.mk.injEq] at H
    obtain ⟨rfl, rfl, rfl⟩ := H
    go_enter Try.func32, Try.ntmps32
    go_wp2_with (first | ((with_reducible refine gate_dst (N := 1) rfl ?_); refine box_event ?hg (N := 1) ?hd (cs := #[.bool a0_0, .slice A0_1 l0_1.length c0_1]) (t := 25) ?hr ?_; (case hd => rfl); (case hg => rfl); (case hr => first | (go_simp; done) | (go_simp; rfl)); intro gb317 hg w5 hbox hb; have n0_ := Aside0.mk (below_step (by repeat (first | (with_reducible first | exact HB.out | apply below_alloc | apply pw_below_drewN | apply below_drew1) | exact HB.out)) hb); have n1_ := Aside0.mk (hbox); have n2_ := Aside0.mk ((by rw [hg]; exact (below_size (by repeat (first | (with_reducible first | exact HB.out | apply below_alloc | apply pw_below_drewN | apply below_drew1) | exact HB.out))) : w.heap.size ≤ gb317)); have n3_ := Aside0.mk ((by rw [hg]; exact (below_size (by repeat (first | (with_reducible first | exact HB.out | apply below_alloc | apply pw_below_drewN | apply below_drew1) | exact HB.out))) : w.heap.size ≤ gb317)); clear HB; have HB := n0_; have BK317 := n1_; have GW317 := n2_; have GE317 := n3_; clear n0_ n1_ n2_ n3_; clear hb hbox hg) | ((with_reducible refine gate_dst (N := 2) rfl ?_); refine box_event ?hg (N := 2) ?hd (cs := #[.bool false, .slice none 0 0]) (t := 25) ?hr ?_; (case hd => rfl); (case hg => rfl); (case hr => first | (go_simp; done) | (go_simp; rfl)); intro gb318 hg w6 hbox hb; have n0_ := Aside0.mk (blk_below (g := gb317) (o := .cells #[.bool a0_0, .slice A0_1 l0_1.length c0_1] 25 (0, 0)) (by (with_reducible repeat (first | refine blk_drewN ?_ _ | refine blk_drew ?_ | refine blk_alloc ?_ _)); exact BK317.out) hb); have n1_ := Aside0.mk (below_step (by repeat (first | (with_reducible first | exact HB.out | apply below_alloc | apply pw_below_drewN | apply below_drew1 | refine below_set ?_ GE317.out) | exact HB.out)) hb); have n2_ := Aside0.mk (hbox); have n3_ := Aside0.mk ((by rw [hg]; exact (below_size (by repeat (first | (with_reducible first | exact HB.out | apply below_alloc | apply pw_below_drewN | apply below_drew1 | refine below_set ?_ GE317.out) | exact HB.out))) : w.heap.size ≤ gb318)); have n4_ := Aside0.mk ((by rw [hg]; exact (below_size (by repeat (first | (with_reducible first | exact HB.out | apply below_alloc | apply pw_below_drewN | apply below_drew1 | refine below_set ?_ GE317.out) | exact HB.out))) : w.heap.size ≤ gb318)); have n5_ := Aside0.mk ((by rw [hg]; exact Nat.ne_of_lt (blk_lt (g := gb317) (o := .cells #[.bool a0_0, .slice A0_1 l0_1.length c0_1] 25 (0, 0)) (by (with_reducible repeat (first | refine blk_drewN ?_ _ | refine blk_drew ?_ | refine blk_alloc ?_ _)); exact BK317.out)) : gb317 ≠ gb318)); have n6_ := Aside0.mk ((by rw [hg]; exact Nat.ne_of_gt (blk_lt (g := gb317) (o := .cells #[.bool a0_0, .slice A0_1 l0_1.length c0_1] 25 (0, 0)) (by (with_reducible repeat (first | refine blk_drewN ?_ _ | refine blk_drew ?_ | refine blk_alloc ?_ _)); exact BK317.out)) : gb318 ≠ gb317)); clear BK317; clear HB; have BK317 := n0_; have HB := n1_; have BK318 := n2_; have GW318 := n3_; have GE318 := n4_; have NB317_318 := n5_; have NB318_317 := n6_; clear n0_ n1_ n2_ n3_ n4_ n5_ n6_; clear hb hbox hg; have hnb7 := NB317_318.out; have hnc7 := NB318_317.out; have hcz8_0 : w6.cell? ⟨gb317, 0, none⟩ = some (.bool a0_0) := (blk_cell BK317.out 0).trans rfl; have hcz8_1 : w6.cell? ⟨gb317, 1, none⟩ = some (.slice A0_1 l0_1.length c0_1) := (blk_cell BK317.out 1).trans rfl; have hfz8_0 := blk_frozen BK317.out 0; have hfz8_1 := blk_frozen BK317.out 1) | ((with_reducible refine gate_callee (f := 28) rfl ?_); refine goesL_ (some 6) rfl rfl Try.func28 (by kernel_rfl) rfl #[.agg #[.bool a0_0, .slice A0_1 l0_1.length c0_1]] rfl (by (try simp only [List.map_toArray, List.map_cons, List.map_nil]); first | done | rfl | (simp only [List.length_drop, List.length_take]; rfl)) ?_; (with_reducible refine (lock_Check.calls k a0_0 _ _ l0_1 t319 _ ?side1 ?side2 A2.out).mono ?_); (case side1 => repeat (first | exact (Kd.C_below HR0_1.out HB.out) | (with_reducible refine Kd.C_alloc ?_ _) | (with_reducible refine Kd.C_drewN ?_ _) | (with_reducible refine Kd.C_drew ?_))); (case side2 => exact HC0_1.out); rintro e w9 ⟨rfl, hb⟩; refine ⟨_, rfl, ?_⟩; have n0_ := Aside0.mk (blk_below (g := gb317) (o := .cells #[.bool a0_0, .slice A0_1 l0_1.length c0_1] 25 (0, 0)) (by (with_reducible repeat (first | refine blk_drewN ?_ _ | refine blk_drew ?_ | refine blk_alloc ?_ _)); exact BK317.out) hb); have n1_ := Aside0.mk (blk_below (g := gb318) (o := .cells #[.bool false, .slice none 0 0] 25 (0, 0)) (by (with_reducible repeat (first | refine blk_drewN ?_ _ | refine blk_drew ?_ | refine blk_alloc ?_ _)); exact BK318.out) hb); have n2_ := Aside0.mk (below_step (by repeat (first | (with_reducible first | exact HB.out | apply below_alloc | apply pw_below_drewN | apply below_drew1 | refine below_set ?_ GE317.out | refine below_set ?_ GE318.out) | exact HB.out)) hb); clear BK317; clear BK318; clear HB; have BK317 := n0_; have BK318 := n1_; have HB := n2_; clear n0_ n1_ n2_; (try clear hb); (try clear hb2); (try clear hk); (try clear hi); have hcz10_0 : w9.cell? ⟨gb317, 0, none⟩ = some (.bool a0_0) := (blk_cell BK317.out 0).trans rfl; have hcz10_1 : w9.cell? ⟨gb317, 1, none⟩ = some (.slice A0_1 l0_1.length c0_1) := (blk_cell BK317.out 1).trans rfl; have hfz10_0 := blk_frozen BK317.out 0; have hfz10_1 := blk_frozen BK317.out 1) | ((with_reducible refine gate_callee (f := 26) rfl ?_); refine goesL_ (some 14) rfl rfl Try.func26 (by kernel_rfl) rfl #[.int .i64 (l0_1.length : Int)] rfl (by (try simp only [List.map_toArray, List.map_cons, List.map_nil]); first | done | rfl | (simp only [List.length_drop, List.length_take]; rfl)) ?_; (with_reducible refine (lock_New.calls (l0_1.length : Int) t320 t321 t324 _ A4.out).mono ?_); rintro e w11 ⟨v322, rfl, ho0, hb⟩; refine ⟨_, rfl, ?_⟩; have n0_ := Aside0.mk (Kd.R_lower ho0 (below_size (by repeat (first | (with_reducible first | exact HB.out | apply below_alloc | apply pw_below_drewN | apply below_drew1 | refine below_set ?_ GE317.out | refine below_set ?_ GE318.out) | exact HB.out)))); have n1_ := Aside0.mk (blk_below (g := gb317) (o := .cells #[.bool a0_0, .slice A0_1 l0_1.length c0_1] 25 (0, 0)) (by (with_reducible repeat (first | refine blk_drewN ?_ _ | refine blk_drew ?_ | refine blk_alloc ?_ _)); exact BK317.out) hb); have n2_ := Aside0.mk (blk_below (g := gb318) (o := .cells #[.bool false, .slice none 0 0] 25 (0, 0)) (by (with_reducible repeat (first | refine blk_drewN ?_ _ | refine blk_drew ?_ | refine blk_alloc ?_ _)); exact BK318.out) hb); have n3_ := Aside0.mk (below_step (by repeat (first | (with_reducible first | exact HB.out | apply below_alloc | apply pw_below_drewN | apply below_drew1 | refine below_set ?_ GE317.out | refine below_set ?_ GE318.out) | exact HB.out)) hb); clear BK317; clear BK318; clear HB; have HO323 := n0_; have BK317 := n1_; have BK318 := n2_; have HB := n3_; clear n0_ n1_ n2_ n3_; (try clear hb); (try clear hb2); (try clear hk); (try clear hi); (try clear ho0); have hcz12_0 : w11.cell? ⟨gb318, 0, none⟩ = some (.bool false) := (blk_cell BK318.out 0).trans rfl; have hcz12_1 : w11.cell? ⟨gb318, 1, none⟩ = some (.slice none 0 0) := (blk_cell BK318.out 1).trans rfl; have hfz12_0 := blk_frozen BK318.out 0; have hfz12_1 := blk_frozen BK318.out 1; obtain ⟨Ao13, co13, eo13⟩ := Kd.R_slice HO323.out; subst eo13))
    all_goals refine bodyPost_ret (results_ct rfl _ _ gb318 25 #[.bool t320, .slice Ao13 t321.length co13] (0, 0) _ rfl (by (with_reducible repeat (first | refine blk_drewN ?_ _ | refine blk_drew ?_ | refine blk_alloc ?_ _)); refine blk_put (cs := #[.bool t320, .slice none 0 0]) ?_ 1 _ rfl; (with_reducible repeat (first | refine blk_drewN ?_ _ | refine blk_drew ?_ | refine blk_alloc ?_ _)); refine blk_put (cs := #[.bool false, .slice none 0 0]) ?_ 0 _ rfl; (with_reducible repeat (first | refine blk_drewN ?_ _ | refine blk_drew ?_ | refine blk_alloc ?_ _)); exact BK318.out) Try.underlying25 rfl (by kernel_rfl)) rfl ?_
    all_goals exact ⟨_, by first | rfl | (simp [errW_none, errW_some] <;> rfl) | (simp [*, errW_none, errW_some] <;> rfl), by (with_reducible repeat (first | apply Kd.R_alloc | apply Kd.R_drewN | apply Kd.R_drew)); exact Kd.R_mono (Kd.R_far (p := ⟨gb318, 1, none⟩) (Kd.R_far (p := ⟨gb318, 0, none⟩) (Kd.R_types HO323.out BK318.out (by decide)) (fun _ hk => hk.2) (.bool t320)) (fun _ hk => hk.2) (.slice Ao13 t321.length co13)) (fun _ hk => trivial), by repeat (first | (with_reducible first | exact HB.out | apply below_alloc | apply pw_below_drewN | apply below_drew1 | refine below_set ?_ GE317.out | refine below_set ?_ GE318.out) | exact HB.out)⟩
  · rw [if_neg c3] at H
    have c3b0 : (t319 == 0) = false := beq_eq_false_iff_ne.mpr c3
    have c3b1 : (t319 != 0) = true := bne_iff_ne.mpr c3
    simp only [Option.some.injEq, Prod.mk.injEq] at H
    obtain ⟨rfl, rfl, rfl⟩ := H
    go_enter Try.func32, Try.ntmps32
    go_wp2_with (first | ((with_reducible refine gate_dst (N := 1) rfl ?_); refine box_event ?hg (N := 1) ?hd (cs := #[.bool a0_0, .slice A0_1 l0_1.length c0_1]) (t := 25) ?hr ?_; (case hd => rfl); (case hg => rfl); (case hr => first | (go_simp; done) | (go_simp; rfl)); intro gb317 hg w14 hbox hb; have n0_ := Aside0.mk (below_step (by repeat (first | (with_reducible first | exact HB.out | apply below_alloc | apply pw_below_drewN | apply below_drew1) | exact HB.out)) hb); have n1_ := Aside0.mk (hbox); have n2_ := Aside0.mk ((by rw [hg]; exact (below_size (by repeat (first | (with_reducible first | exact HB.out | apply below_alloc | apply pw_below_drewN | apply below_drew1) | exact HB.out))) : w.heap.size ≤ gb317)); have n3_ := Aside0.mk ((by rw [hg]; exact (below_size (by repeat (first | (with_reducible first | exact HB.out | apply below_alloc | apply pw_below_drewN | apply below_drew1) | exact HB.out))) : w.heap.size ≤ gb317)); clear HB; have HB := n0_; have BK317 := n1_; have GW317 := n2_; have GE317 := n3_; clear n0_ n1_ n2_ n3_; clear hb hbox hg) | ((with_reducible refine gate_dst (N := 2) rfl ?_); refine box_event ?hg (N := 2) ?hd (cs := #[.bool false, .slice none 0 0]) (t := 25) ?hr ?_; (case hd => rfl); (case hg => rfl); (case hr => first | (go_simp; done) | (go_simp; rfl)); intro gb318 hg w15 hbox hb; have n0_ := Aside0.mk (blk_below (g := gb317) (o := .cells #[.bool a0_0, .slice A0_1 l0_1.length c0_1] 25 (0, 0)) (by (with_reducible repeat (first | refine blk_drewN ?_ _ | refine blk_drew ?_ | refine blk_alloc ?_ _)); exact BK317.out) hb); have n1_ := Aside0.mk (below_step (by repeat (first | (with_reducible first | exact HB.out | apply below_alloc | apply pw_below_drewN | apply below_drew1 | refine below_set ?_ GE317.out) | exact HB.out)) hb); have n2_ := Aside0.mk (hbox); have n3_ := Aside0.mk ((by rw [hg]; exact (below_size (by repeat (first | (with_reducible first | exact HB.out | apply below_alloc | apply pw_below_drewN | apply below_drew1 | refine below_set ?_ GE317.out) | exact HB.out))) : w.heap.size ≤ gb318)); have n4_ := Aside0.mk ((by rw [hg]; exact (below_size (by repeat (first | (with_reducible first | exact HB.out | apply below_alloc | apply pw_below_drewN | apply below_drew1 | refine below_set ?_ GE317.out) | exact HB.out))) : w.heap.size ≤ gb318)); have n5_ := Aside0.mk ((by rw [hg]; exact Nat.ne_of_lt (blk_lt (g := gb317) (o := .cells #[.bool a0_0, .slice A0_1 l0_1.length c0_1] 25 (0, 0)) (by (with_reducible repeat (first | refine blk_drewN ?_ _ | refine blk_drew ?_ | refine blk_alloc ?_ _)); exact BK317.out)) : gb317 ≠ gb318)); have n6_ := Aside0.mk ((by rw [hg]; exact Nat.ne_of_gt (blk_lt (g := gb317) (o := .cells #[.bool a0_0, .slice A0_1 l0_1.length c0_1] 25 (0, 0)) (by (with_reducible repeat (first | refine blk_drewN ?_ _ | refine blk_drew ?_ | refine blk_alloc ?_ _)); exact BK317.out)) : gb318 ≠ gb317)); clear BK317; clear HB; have BK317 := n0_; have HB := n1_; have BK318 := n2_; have GW318 := n3_; have GE318 := n4_; have NB317_318 := n5_; have NB318_317 := n6_; clear n0_ n1_ n2_ n3_ n4_ n5_ n6_; clear hb hbox hg; have hnb16 := NB317_318.out; have hnc16 := NB318_317.out; have hcz17_0 : w15.cell? ⟨gb317, 0, none⟩ = some (.bool a0_0) := (blk_cell BK317.out 0).trans rfl; have hcz17_1 : w15.cell? ⟨gb317, 1, none⟩ = some (.slice A0_1 l0_1.length c0_1) := (blk_cell BK317.out 1).trans rfl; have hfz17_0 := blk_frozen BK317.out 0; have hfz17_1 := blk_frozen BK317.out 1) | ((with_reducible refine gate_callee (f := 28) rfl ?_); refine goesL_ (some 6) rfl rfl Try.func28 (by kernel_rfl) rfl #[.agg #[.bool a0_0, .slice A0_1 l0_1.length c0_1]] rfl (by (try simp only [List.map_toArray, List.map_cons, List.map_nil]); first | done | rfl | (simp only [List.length_drop, List.length_take]; rfl)) ?_; (with_reducible refine (lock_Check.calls k a0_0 _ _ l0_1 t319 _ ?side1 ?side2 A2.out).mono ?_); (case side1 => repeat (first | exact (Kd.C_below HR0_1.out HB.out) | (with_reducible refine Kd.C_alloc ?_ _) | (with_reducible refine Kd.C_drewN ?_ _) | (with_reducible refine Kd.C_drew ?_))); (case side2 => exact HC0_1.out); rintro e w18 ⟨rfl, hb⟩; refine ⟨_, rfl, ?_⟩; have n1_ := Aside0.mk (blk_below (g := gb318) (o := .cells #[.bool false, .slice none 0 0] 25 (0, 0)) (by (with_reducible repeat (first | refine blk_drewN ?_ _ | refine blk_drew ?_ | refine blk_alloc ?_ _)); exact BK318.out) hb); have n2_ := Aside0.mk (below_step (by repeat (first | (with_reducible first | exact HB.out | apply below_alloc | apply pw_below_drewN | apply below_drew1 | refine below_set ?_ GE317.out | refine below_set ?_ GE318.out) | exact HB.out)) hb); clear BK317; clear BK318; clear HB; have BK318 := n1_; have HB := n2_; clear n1_ n2_; (try clear hb); (try clear hb2); (try clear hk); (try clear hi); have hcz19_0 : w18.cell? ⟨gb318, 0, none⟩ = some (.bool false) := (blk_cell BK318.out 0).trans rfl; have hcz19_1 : w18.cell? ⟨gb318, 1, none⟩ = some (.slice none 0 0) := (blk_cell BK318.out 1).trans rfl; have hfz19_0 := blk_frozen BK318.out 0; have hfz19_1 := blk_frozen BK318.out 1))
    all_goals refine bodyPost_ret (results_ct rfl _ _ gb318 25 #[.bool false, .slice none 0 0] (0, 0) _ rfl (by (with_reducible repeat (first | refine blk_drewN ?_ _ | refine blk_drew ?_ | refine blk_alloc ?_ _)); refine blk_put (cs := #[.bool false, .slice none 0 0]) ?_ 1 _ rfl; (with_reducible repeat (first | refine blk_drewN ?_ _ | refine blk_drew ?_ | refine blk_alloc ?_ _)); refine blk_put (cs := #[.bool false, .slice none 0 0]) ?_ 0 _ rfl; (with_reducible repeat (first | refine blk_drewN ?_ _ | refine blk_drew ?_ | refine blk_alloc ?_ _)); exact BK318.out) Try.underlying25 rfl (by kernel_rfl)) rfl ?_
    all_goals exact ⟨_, by first | rfl | (simp [errW_none, errW_some] <;> rfl) | (simp [*, errW_none, errW_some] <;> rfl), by first | exact Kd.R_nil _ _ _ _ _ | exact Kd.N_nil _ _ _ _ _ | exact Kd.V_nil _ _ _ _ _ | exact Kd.Q_nil _ _ _ _ _ | exact Kd.S_nil _ _ _ _ _, by repeat (first | (with_reducible first | exact HB.out | apply below_alloc | apply pw_below_drewN | apply below_drew1 | refine below_set ?_ GE317.out | refine below_set ?_ GE318.out) | exact HB.out)⟩


end Go.Proofs.Ytdkabbjknclifaa.F
end
section
namespace Go.Proofs.Ytdkabbjknclifaa.F
open Go.RowKit Go.Shelf Go.Proofs.YtdkabbjknclifaaW.PrintWords Go.Proofs.YtdkabbjknclifaaW.PrintLast Go.Proofs.YtdkabbjknclifaaW.PrintMore
attribute [local go_sem] Oper.semAt_some Instr.field asAgg
set_option linter.unusedVariables false
set_option linter.unusedSimpArgs false
def lock_Slam.f (a0_0 : Bool) (l0_1 : List Bool) : Option (Bool × List Bool × Int × Int) :=
  (lock_Check.f 4096 a0_0 l0_1).bind fun e => if e = 0 then ((slices_Index_bool_bool.f 4096 l0_1 false).bind fun i => if i < 0 then some (false, [], 0, 6) else
    if l0_1.length ≤ 64 then (if i < l0_1.length then some (a0_0, l0_1.set i.toNat true, i, 0) else none) else none) else some (false, [], 0, e)
end Go.Proofs.Ytdkabbjknclifaa.F
end
section
namespace Go.Proofs.Ytdkabbjknclifaa.F
open Go.RowKit Go.Shelf Go.Proofs.YtdkabbjknclifaaW.PrintWords Go.Proofs.YtdkabbjknclifaaW.PrintLast Go.Proofs.YtdkabbjknclifaaW.PrintMore
attribute [local go_sem] Oper.semAt_some Instr.field asAgg
set_option linter.unusedVariables false
set_option linter.unusedSimpArgs false
set_option maxHeartbeats 4000000 in
set_option maxRecDepth 100000 in
theorem lock_Slam.calls (a0_0 : Bool) (A0_1 : Option Addr) (c0_1 : Nat) (l0_1 : List Bool) (r1 : Bool) (r2 : List Bool) (r3 : Int) (r4 : Int) (w : World) (hr0_1 : Kd.C Kd.bool w A0_1 l0_1.length l0_1) (hc0_1 : l0_1.length ≤ c0_1) (h : lock_Slam.f a0_0 l0_1 = some (r1, r2, r3, r4)) :
    Calls Try.prog 34 #[.agg #[.bool a0_0, .slice A0_1 l0_1.length c0_1]] w fun e w' => ∃ v1_ : Value, e = .returned (.tuple #[.agg #[.bool r1, v1_], .int .i64 r3, .int .i64 r4]) ∧ Kd.R Kd.bool 4 w' w.heap.size (fun _ => True) v1_ r2 ∧ Below w.heap.size w w' := by
  have hu25 := Try.underlying25
  have hu64 := Try.underlying64
  have hu66 := Try.underlying66
  unfold lock_Slam.f at h
  obtain ⟨e, he, h⟩ := Option.bind_eq_some_iff.mp h
  have HE := Aside0.mk he
  have HR := Aside0.mk hr0_1
  clear he hr0_1
  by_cases c : e = 0
  · subst c
    rw [if_pos rfl] at h
    obtain ⟨i, hx, h⟩ := Option.bind_eq_some_iff.mp h
    have HX := Aside0.mk hx
    clear hx
    by_cases c1 : i < 0
    · rw [if_pos c1] at h
      simp only [Option.some.injEq, Prod.mk.injEq] at h
      obtain ⟨rfl, rfl, rfl, rfl⟩ := h
      have d1 : decide (i < 0) = true := decide_eq_true c1
      clear c1
      go_enter Try.func34, Try.ntmps34
      go_wp2_with (first | (go_at_call 28; refine (lock_Check.calls 4096 a0_0 A0_1 c0_1 l0_1 0 _ ?hr hc0_1 HE.out).mono ?_; (case hr => exact Kd.C_below HR.out (((Below.refl _ w).alloc (Nat.le_refl _) _).alloc (by simp) _)); rintro e w1 ⟨rfl, hbw⟩; have HS := Aside0.mk (show Two w w1 _ _ from two_boxes hbw); obtain ⟨q0, q1, q2, q3⟩ := con_cells HS.out.2.1; obtain ⟨q4, q5, q6, q7⟩ := con_cells HS.out.2.2; have ql := blk_lt HS.out.2.1; have ql' := blk_lt HS.out.2.2; clear hbw) | (go_at_call 51; refine (slices_Index_bool_bool.calls 4096 A0_1 c0_1 l0_1 false i _ ?hr hc0_1 HX.out).mono ?_; (case hr => exact Kd.C_below HR.out HS.out.1); rintro e wm ⟨rfl, hd⟩; have hb := hd.below; clear hd; clear q0 q1 q2 q3 q4 q5 q6 q7 ql ql'; have HS1 := Aside0.mk (HS.out.below hb); clear HS; have HS := HS1; clear HS1; obtain ⟨q0, q1, q2, q3⟩ := con_cells HS.out.2.1; obtain ⟨q4, q5, q6, q7⟩ := con_cells HS.out.2.2; have ql := blk_lt HS.out.2.1; have ql' := blk_lt HS.out.2.2; clear hb))
      exact bodyPost_ret (results_ctt rfl _ _ (w.heap.size + 1) 25 #[.bool false, .slice none 0 0] (0, 0) _ rfl (blk_put (blk_put HS.out.2.2 0 _ rfl) 1 _ rfl) hu25 rfl (by kernel_rfl)) rfl ⟨_, rfl, Kd.R_nil _ _ _ _ _, (HS.out.1.setCell (p := ⟨w.heap.size + 1, 0, none⟩) (Nat.le_succ _) _).setCell (p := ⟨w.heap.size + 1, 1, none⟩) (Nat.le_succ _) _⟩
    · rw [if_neg c1] at h
      have d1 : decide (i < 0) = false := decide_eq_false c1
      by_cases c3 : l0_1.length ≤ 64
      · rw [if_pos c3] at h
        by_cases c2 : i < (l0_1.length : Int)
        · rw [if_pos c2] at h
          simp only [Option.some.injEq, Prod.mk.injEq] at h
          obtain ⟨rfl, rfl, rfl, rfl⟩ := h
          have HP := Aside0.mk (show 0 < l0_1.length by omega)
          have HL := Aside0.mk c3
          have HI := Aside0.mk c1
          have HI' := Aside0.mk (show ¬ (l0_1.length : Int) ≤ i by omega)
          clear c1 c2 c3
          go_enter Try.func34, Try.ntmps34
          go_upto_region 8 with (first | (go_at_call 28; refine (lock_Check.calls 4096 a0_0 A0_1 c0_1 l0_1 0 _ ?hr hc0_1 HE.out).mono ?_; (case hr => exact Kd.C_below HR.out (((Below.refl _ w).alloc (Nat.le_refl _) _).alloc (by simp) _)); rintro e w1 ⟨rfl, hbw⟩; have HS := Aside0.mk (show Two w w1 _ _ from two_boxes hbw); obtain ⟨q0, q1, q2, q3⟩ := con_cells HS.out.2.1; obtain ⟨q4, q5, q6, q7⟩ := con_cells HS.out.2.2; have ql := blk_lt HS.out.2.1; have ql' := blk_lt HS.out.2.2; clear hbw) | (go_at_call 42; refine (of_calls _ _ _ _ _).mono ?_; rintro e wo ⟨rfl, hb⟩; clear q0 q1 q2 q3 q4 q5 q6 q7 ql ql'; have HS1 := Aside0.mk (HS.out.below hb); clear HS; have HS := HS1; clear HS1; obtain ⟨q0, q1, q2, q3⟩ := con_cells HS.out.2.1; obtain ⟨q4, q5, q6, q7⟩ := con_cells HS.out.2.2; have ql := blk_lt HS.out.2.1; have ql' := blk_lt HS.out.2.2; clear hb) | (go_at_call 51; refine (slices_Index_bool_bool.calls 4096 A0_1 c0_1 l0_1 false i _ ?hr hc0_1 HX.out).mono ?_; (case hr => exact Kd.C_below HR.out HS.out.1); rintro e wm ⟨rfl, hd⟩; have hb := hd.below; clear hd; clear q0 q1 q2 q3 q4 q5 q6 q7 ql ql'; have HS1 := Aside0.mk (HS.out.below hb); clear HS; have HS := HS1; clear HS1; obtain ⟨q0, q1, q2, q3⟩ := con_cells HS.out.2.1; obtain ⟨q4, q5, q6, q7⟩ := con_cells HS.out.2.2; have ql := blk_lt HS.out.2.1; have ql' := blk_lt HS.out.2.2; clear hb) | (go_at_call 49; refine (chain_clone a0_0 A0_1 c0_1 l0_1 _ ?hr HP.out HL.out).mono ?_; (case hr => exact Kd.C_below HR.out HS.out.1); rintro e wc ⟨vc, rfl, hRc, hb⟩; obtain ⟨gc, cc, rfl, hgc, hgc', cells, hcells⟩ := Kd.R_form hRc HP.out; have HG := Aside0.mk (show w.heap.size + 2 ≤ gc by omega); have HRC := Aside0.mk (Kd.R_lower hRc HS.out.1.size); clear hRc hgc hgc' hcells; clear q0 q1 q2 q3 q4 q5 q6 q7 ql ql'; have HS1 := Aside0.mk (HS.out.below hb); clear HS; have HS := HS1; clear HS1; obtain ⟨q0, q1, q2, q3⟩ := con_cells HS.out.2.1; obtain ⟨q4, q5, q6, q7⟩ := con_cells HS.out.2.2; have ql := blk_lt HS.out.2.1; have ql' := blk_lt HS.out.2.2; clear hb))
          have hgl : gc < wc.heap.size := Kd.R_lt HRC.out gc rfl
          obtain ⟨W5, hW5⟩ : ∃ W5, (wc.alloc (Obj.cells #[Value.bool a0_0, Value.slice (some { block := gc, off := 0 }) l0_1.length cc] 64)) = W5 := ⟨_, rfl⟩
          have HT := Aside0.mk (show Two w W5 _ _ from HS.out.below (by rw [← hW5]; exact (Below.refl _ wc).alloc (Nat.le_refl _) _))
          have HO := Aside0.mk (show W5.heap[wc.heap.size]? = some (.cells #[Value.bool a0_0, Value.slice (some { block := gc, off := 0 }) l0_1.length cc] 64 (0, 0)) by rw [← hW5]; exact blk_new wc _)
          have HRD := Aside0.mk (show Kd.R Kd.bool 4 W5 w.heap.size (fun _ => True) (.slice (some ⟨gc, 0, none⟩) l0_1.length cc) l0_1 by rw [← hW5]; exact Kd.R_alloc HRC.out _)
          rw [hW5]
          have HWZ := Aside0.mk ql'
          clear q0 q1 q2 q3 q4 q5 q6 q7 ql ql'
          obtain ⟨q4, q5, q6, q7⟩ := con_cells HT.out.2.2
          obtain ⟨q0, q1, q2, q3⟩ := con_cells HO.out
          have p1 : (0 ≤ i) = True := eq_true (by have := HI.out; omega)
          have p2 : (i < (l0_1.length : Int)) = True := eq_true (by have := HI'.out; omega)
          have HCE := Kd.R_cell false HRD.out i (by have := HI.out; omega) (by have := HI'.out; omega)
          obtain ⟨q8, q9⟩ := HCE
          have n1 : wc.heap.size ≠ gc := by omega
          have n2 : gc ≠ wc.heap.size := by omega
          have n3 : wc.heap.size ≠ w.heap.size + 1 := by have := HWZ.out; omega
          have n4 : w.heap.size + 1 ≠ wc.heap.size := by have := HWZ.out; omega
          have n5 : gc ≠ w.heap.size + 1 := by have := HG.out; omega
          have n6 : w.heap.size + 1 ≠ gc := by have := HG.out; omega
          go_wp2
          have r1 := Kd.R_types (Kd.R_types HRD.out HO.out (by decide)) HT.out.2.2 (by decide)
          have r3 := (Kd.R_put r1 i true).1
          have r5 := Kd.R_far (p := ⟨w.heap.size + 1, 1, none⟩) (Kd.R_far (p := ⟨w.heap.size + 1, 0, none⟩) r3 (fun _ hk => hk.2) (.bool a0_0)) (fun _ hk => hk.2) (.slice (some ⟨gc, 0, none⟩) l0_1.length cc)
          have hz1 : w.heap.size ≤ wc.heap.size := by have := HWZ.out; omega
          have hz2 : w.heap.size ≤ gc := by have := HG.out; omega
          exact bodyPost_ret (results_ctt rfl _ _ (w.heap.size + 1) 25 #[.bool a0_0, .slice (some ⟨gc, 0, none⟩) l0_1.length cc] (0, 0) _ rfl (blk_put (blk_put (blk_far (p := ⟨gc, i.toNat, none⟩) HT.out.2.2 n6 _) 0 _ rfl) 1 _ rfl) hu25 rfl (by kernel_rfl)) rfl ⟨_, rfl, Kd.R_mono r5 (fun _ _ => trivial), ((HT.out.1.setCell (p := ⟨gc, i.toNat, none⟩) hz2 _).setCell (p := ⟨w.heap.size + 1, 0, none⟩) (Nat.le_succ _) _).setCell (p := ⟨w.heap.size + 1, 1, none⟩) (Nat.le_succ _) _⟩
        · rw [if_neg c2] at h
          cases h
      · rw [if_neg c3] at h
        cases h
  · rw [if_neg c] at h
    have cb : (e != 0) = true := bne_iff_ne.mpr c
    clear c
    simp only [Option.some.injEq, Prod.mk.injEq] at h
    obtain ⟨rfl, rfl, rfl, rfl⟩ := h
    go_enter Try.func34, Try.ntmps34
    go_wp2_with (first | (go_at_call 28; refine (lock_Check.calls 4096 a0_0 A0_1 c0_1 l0_1 e _ ?hr hc0_1 HE.out).mono ?_; (case hr => exact Kd.C_below HR.out (((Below.refl _ w).alloc (Nat.le_refl _) _).alloc (by simp) _)); rintro e w1 ⟨rfl, hbw⟩; have HS := Aside0.mk (show Two w w1 _ _ from two_boxes hbw); obtain ⟨q0, q1, q2, q3⟩ := con_cells HS.out.2.1; obtain ⟨q4, q5, q6, q7⟩ := con_cells HS.out.2.2; have ql := blk_lt HS.out.2.1; have ql' := blk_lt HS.out.2.2; clear hbw))
    exact bodyPost_ret (results_ctt rfl _ _ (w.heap.size + 1) 25 #[.bool false, .slice none 0 0] (0, 0) _ rfl (blk_put (blk_put HS.out.2.2 0 _ rfl) 1 _ rfl) hu25 rfl (by kernel_rfl)) rfl ⟨_, rfl, Kd.R_nil _ _ _ _ _, (HS.out.1.setCell (p := ⟨w.heap.size + 1, 0, none⟩) (Nat.le_succ _) _).setCell (p := ⟨w.heap.size + 1, 1, none⟩) (Nat.le_succ _) _⟩

end Go.Proofs.Ytdkabbjknclifaa.F
end
section
-- Written by fork.py (this session's program over the kit's print.py). Not trusted: Lean checks it.
namespace Go.Proofs.Ytdkabbjknclifaa.F
open Go.RowKit Go.Proofs.YtdkabbjknclifaaW.PrintWords Go.Proofs.YtdkabbjknclifaaW.PrintLast Go.Proofs.YtdkabbjknclifaaW.PrintMore
attribute [local go_sem] max2_int min2_int max_two min_two max_three min_three max_four min_four
set_option linter.unusedVariables false
set_option linter.unusedSimpArgs false

/-! ### L17_LockValid: function 7 -/
mutual
def L17_LockValid.l0 : Nat → List Int → Int → Int → Bool → List Bool → Option (Bool)
  | 0, _, _, _, _, _ => none
  | k + 1, x1, x5, x8, x453000, x453001 => if x8 < (x1.length : Int) then (L17_LockValid.j1 k x1 x5 x8 (decide (x8 < 30)) x453000 x453001) else (L17_LockValid.j1 k x1 x5 x8 false x453000 x453001)
def L17_LockValid.j1 : Nat → List Int → Int → Int → Bool → Bool → List Bool → Option (Bool)
  | 0, _, _, _, _, _, _ => none
  | k + 1, x1, x5, x8, x34, x453000, x453001 => if x34 = true then (if 0 ≤ x8 then (if x8 < (x1.length : Int) then ((K_Mod.f (rd x1 x8) (wrap64 (3 * x5))).bind fun t455 => (if (Int.tmod t455 3) = 0 then ((lock_Unlock.f x453000 x453001 (wrap64 (Int.tdiv t455 3))).bind fun bt457 => (L17_LockValid.j2 k x1 x5 bt457.2.2 x8 x453000 x453001 bt457.1 bt457.2.1)) else (if (Int.tmod t455 3) = 1 then ((lock_Lock.f k x453000 x453001).bind fun bt462 => (L17_LockValid.j2 k x1 x5 bt462.2.2 x8 x453000 x453001 bt462.1 bt462.2.1)) else ((lock_Slam.f x453000 x453001).bind fun bt467 => (L17_LockValid.j2 k x1 x5 bt467.2.2.2 x8 x453000 x453001 bt467.1 bt467.2.1))))) else (none)) else (none)) else ((L17_awake.f).bind fun t453 => (some t453))
def L17_LockValid.j2 : Nat → List Int → Int → Int → Int → Bool → List Bool → Bool → List Bool → Option (Bool)
  | 0, _, _, _, _, _, _, _, _ => none
  | k + 1, x1, x5, x7, x8, x453000, x453001, x457000, x457001 => if x7 = 0 then (L17_LockValid.j3 k x1 x5 x8 x457000 x457001) else (L17_LockValid.j3 k x1 x5 x8 x453000 x453001)
def L17_LockValid.j3 : Nat → List Int → Int → Int → Bool → List Bool → Option (Bool)
  | 0, _, _, _, _, _ => none
  | k + 1, x1, x5, x8, x453000, x453001 => (lock_May.f x453000 x453001).bind fun bt473 => ((lock_Missing.f x453000 x453001).bind fun bt475 => ((lock_Open.f k x453000 x453001).bind fun bt479 => ((lock_Check.f k x453000 x453001).bind fun t481 => (if t481 = 0 then (if bt473.2 = 0 then (if bt475.2 = 0 then (if (bt473.1 != ((bt475.1.length : Int) == 0)) = true then (some false) else (if (bt473.1 != (bt479.2 == 6)) = true then (some false) else (if bt473.1 = true then (L17_LockValid.l0 k x1 x5 (wrap64 (x8 + 1)) x453000 x453001) else (if bt479.2 = 0 then (L17_LockValid.l0 k x1 x5 (wrap64 (x8 + 1)) x453000 x453001) else (some false))))) else (some false)) else (some false)) else (some false)))))
end
def L17_LockValid.f (k : Nat) (a0 : Int) (l1 : List Int) : Option (Bool) := (K_Mod.f a0 10).bind fun t446 => ((lock_New.f (wrap64 (2 + t446))).bind fun bt447 => (if bt447.2.2 = 0 then (L17_LockValid.l0 k l1 (wrap64 (2 + t446)) 0 bt447.1 bt447.2.1) else (some false)))
theorem L17_LockValid.mono_l : ∀ k, (∀ y0 y1 y2 y3 y4, LeO (L17_LockValid.l0 k y0 y1 y2 y3 y4) (L17_LockValid.l0 (k + 1) y0 y1 y2 y3 y4)) ∧ (∀ y0 y1 y2 y3 y4 y5, LeO (L17_LockValid.j1 k y0 y1 y2 y3 y4 y5) (L17_LockValid.j1 (k + 1) y0 y1 y2 y3 y4 y5)) ∧ (∀ y0 y1 y2 y3 y4 y5 y6 y7, LeO (L17_LockValid.j2 k y0 y1 y2 y3 y4 y5 y6 y7) (L17_LockValid.j2 (k + 1) y0 y1 y2 y3 y4 y5 y6 y7)) ∧ (∀ y0 y1 y2 y3 y4, LeO (L17_LockValid.j3 k y0 y1 y2 y3 y4) (L17_LockValid.j3 (k + 1) y0 y1 y2 y3 y4))
  | 0 => ⟨fun _ _ _ _ _ r h => by simp [L17_LockValid.l0] at h, fun _ _ _ _ _ _ r h => by simp [L17_LockValid.j1] at h, fun _ _ _ _ _ _ _ _ r h => by simp [L17_LockValid.j2] at h, fun _ _ _ _ _ r h => by simp [L17_LockValid.j3] at h⟩
  | k + 1 => by
    obtain ⟨ih0, ih1, ih2, ih3⟩ := L17_LockValid.mono_l k
    refine ⟨?_, ?_, ?_, ?_⟩
    · intro y0 y1 y2 y3 y4
      unfold L17_LockValid.l0
      repeat' first
      | (with_reducible exact ih0 _ _ _ _ _)
      | (with_reducible exact ih1 _ _ _ _ _ _)
      | (with_reducible exact ih2 _ _ _ _ _ _ _ _)
      | (with_reducible exact ih3 _ _ _ _ _)
      | (with_reducible exact lock_Check.mono _ _ _)
      | (with_reducible exact lock_Lock.mono _ _ _)
      | (with_reducible exact lock_Open.mono _ _ _)
      | (with_reducible exact LeO.refl _)
      | (with_reducible exact LeO.none _)
      | (with_reducible refine LeO.ite ?_ ?_)
      | (with_reducible refine LeO.bind ?_ (fun _ => ?_))
      | exact ih0 _ _ _ _ _
      | exact ih1 _ _ _ _ _ _
      | exact ih2 _ _ _ _ _ _ _ _
      | exact ih3 _ _ _ _ _
      | exact lock_Check.mono _ _ _
      | exact lock_Lock.mono _ _ _
      | exact lock_Open.mono _ _ _
      | exact LeO.none _
      | refine LeO.ite ?_ ?_
      | refine LeO.bind ?_ (fun _ => ?_)
    · intro y0 y1 y2 y3 y4 y5
      unfold L17_LockValid.j1
      repeat' first
      | (with_reducible exact ih0 _ _ _ _ _)
      | (with_reducible exact ih1 _ _ _ _ _ _)
      | (with_reducible exact ih2 _ _ _ _ _ _ _ _)
      | (with_reducible exact ih3 _ _ _ _ _)
      | (with_reducible exact lock_Check.mono _ _ _)
      | (with_reducible exact lock_Lock.mono _ _ _)
      | (with_reducible exact lock_Open.mono _ _ _)
      | (with_reducible exact LeO.refl _)
      | (with_reducible exact LeO.none _)
      | (with_reducible refine LeO.ite ?_ ?_)
      | (with_reducible refine LeO.bind ?_ (fun _ => ?_))
      | exact ih0 _ _ _ _ _
      | exact ih1 _ _ _ _ _ _
      | exact ih2 _ _ _ _ _ _ _ _
      | exact ih3 _ _ _ _ _
      | exact lock_Check.mono _ _ _
      | exact lock_Lock.mono _ _ _
      | exact lock_Open.mono _ _ _
      | exact LeO.none _
      | refine LeO.ite ?_ ?_
      | refine LeO.bind ?_ (fun _ => ?_)
    · intro y0 y1 y2 y3 y4 y5 y6 y7
      unfold L17_LockValid.j2
      repeat' first
      | (with_reducible exact ih0 _ _ _ _ _)
      | (with_reducible exact ih1 _ _ _ _ _ _)
      | (with_reducible exact ih2 _ _ _ _ _ _ _ _)
      | (with_reducible exact ih3 _ _ _ _ _)
      | (with_reducible exact lock_Check.mono _ _ _)
      | (with_reducible exact lock_Lock.mono _ _ _)
      | (with_reducible exact lock_Open.mono _ _ _)
      | (with_reducible exact LeO.refl _)
      | (with_reducible exact LeO.none _)
      | (with_reducible refine LeO.ite ?_ ?_)
      | (with_reducible refine LeO.bind ?_ (fun _ => ?_))
      | exact ih0 _ _ _ _ _
      | exact ih1 _ _ _ _ _ _
      | exact ih2 _ _ _ _ _ _ _ _
      | exact ih3 _ _ _ _ _
      | exact lock_Check.mono _ _ _
      | exact lock_Lock.mono _ _ _
      | exact lock_Open.mono _ _ _
      | exact LeO.none _
      | refine LeO.ite ?_ ?_
      | refine LeO.bind ?_ (fun _ => ?_)
    · intro y0 y1 y2 y3 y4
      unfold L17_LockValid.j3
      repeat' first
      | (with_reducible exact ih0 _ _ _ _ _)
      | (with_reducible exact ih1 _ _ _ _ _ _)
      | (with_reducible exact ih2 _ _ _ _ _ _ _ _)
      | (with_reducible exact ih3 _ _ _ _ _)
      | (with_reducible exact lock_Check.mono _ _ _)
      | (with_reducible exact lock_Lock.mono _ _ _)
      | (with_reducible exact lock_Open.mono _ _ _)
      | (with_reducible exact LeO.refl _)
      | (with_reducible exact LeO.none _)
      | (with_reducible refine LeO.ite ?_ ?_)
      | (with_reducible refine LeO.bind ?_ (fun _ => ?_))
      | exact ih0 _ _ _ _ _
      | exact ih1 _ _ _ _ _ _
      | exact ih2 _ _ _ _ _ _ _ _
      | exact ih3 _ _ _ _ _
      | exact lock_Check.mono _ _ _
      | exact lock_Lock.mono _ _ _
      | exact lock_Open.mono _ _ _
      | exact LeO.none _
      | refine LeO.ite ?_ ?_
      | refine LeO.bind ?_ (fun _ => ?_)
theorem L17_LockValid.mono : ∀ a0 a1 k, LeO (L17_LockValid.f k a0 a1) (L17_LockValid.f (k + 1) a0 a1) := by
  intro a0 a1 k
  obtain ⟨ih0, ih1, ih2, ih3⟩ := L17_LockValid.mono_l k
  unfold L17_LockValid.f
  repeat' first
      | (with_reducible exact ih0 _ _ _ _ _)
      | (with_reducible exact ih1 _ _ _ _ _ _)
      | (with_reducible exact ih2 _ _ _ _ _ _ _ _)
      | (with_reducible exact ih3 _ _ _ _ _)
      | (with_reducible exact lock_Check.mono _ _ _)
      | (with_reducible exact lock_Lock.mono _ _ _)
      | (with_reducible exact lock_Open.mono _ _ _)
      | (with_reducible exact LeO.refl _)
      | (with_reducible exact LeO.none _)
      | (with_reducible refine LeO.ite ?_ ?_)
      | (with_reducible refine LeO.bind ?_ (fun _ => ?_))
      | exact ih0 _ _ _ _ _
      | exact ih1 _ _ _ _ _ _
      | exact ih2 _ _ _ _ _ _ _ _
      | exact ih3 _ _ _ _ _
      | exact lock_Check.mono _ _ _
      | exact lock_Lock.mono _ _ _
      | exact lock_Open.mono _ _ _
      | exact LeO.none _
      | refine LeO.ite ?_ ?_
      | refine LeO.bind ?_ (fun _ => ?_)
set_option maxHeartbeats 8000000 in
set_option maxRecDepth 100000 in
theorem L17_LockValid.calls (k : Nat) (a0 : Int) (A1 : Option Addr) (c1 : Nat) (l1 : List Int) (r : Bool) (w : World) (hr1 : Kd.C (Kd.int .i64) w A1 l1.length l1) (hc1 : l1.length ≤ c1) (h : L17_LockValid.f k a0 l1 = some r) (ht_ : r = true := by rfl) :
    Calls Try.prog 7 #[.int .i64 a0, .slice A1 l1.length c1] w fun e w' => e = .returned (.bool r) ∧ Below w.heap.size w w' := by
  subst ht_
  have hu25 := Try.underlying25
  have HR1 := Aside0.mk hr1
  have HC1 := Aside0.mk hc1
  clear hr1 hc1
  have HB := Aside0.mk (Below.refl w.heap.size w)
  have H : ((K_Mod.f a0 10).bind fun t446 => ((lock_New.f (wrap64 (2 + t446))).bind fun bt447 => (if bt447.2.2 = 0 then (L17_LockValid.l0 k l1 (wrap64 (2 + t446)) 0 bt447.1 bt447.2.1) else (some false)))) = some true := h
  clear h
  replace H := Option.bind_eq_some_iff.mp H
  obtain ⟨t446, A30, H⟩ := H
  replace H : ((lock_New.f (wrap64 (2 + t446))).bind fun bt447 => (if bt447.2.2 = 0 then (L17_LockValid.l0 k l1 (wrap64 (2 + t446)) 0 bt447.1 bt447.2.1) else (some false))) = some true := H
  have A3 := Aside0.mk A30
  clear A30
  replace H := Option.bind_eq_some_iff.mp H
  obtain ⟨⟨t447, t448, t451⟩, A40, H⟩ := H
  replace H : (if t451 = 0 then (L17_LockValid.l0 k l1 (wrap64 (2 + t446)) 0 t447 t448) else (some false)) = some true := H
  have A4 := Aside0.mk A40
  clear A40
  by_cases c5 : t451 = 0
  rotate_left
  · rw [if_neg c5] at H
    exact absurd H (by repeat (first | exact never_none | exact never_false | refine never_ite ?_ ?_ | refine never_bind (fun _ => ?_)))
  rw [if_pos c5] at H
  have c5b0 : (t451 == 0) = true := beq_iff_eq.mpr c5
  have c5b1 : (t451 != 0) = false := bne_eq_false_iff_eq.mpr c5
  clear c5
  have H' := Aside0.mk H
  clear H
  go_enter Try.func7, Try.ntmps7
  go_wp2_with (first | ((with_reducible refine gate_callee (f := 36) rfl ?_); refine goesL_ (some 18) rfl rfl Try.func36 (by kernel_rfl) rfl #[.int .i64 a0, .int .i64 10] rfl (by (try simp only [List.map_toArray, List.map_cons, List.map_nil]); first | done | rfl | (simp only [List.length_drop, List.length_take]; rfl)) ?_; (with_reducible refine (K_Mod.calls a0 10 t446 _ A3.out).mono ?_); rintro e w' ⟨rfl, ⟨nd, rfl⟩⟩; refine ⟨_, rfl, ?_⟩) | ((with_reducible refine gate_callee (f := 26) rfl ?_); refine goesL_ (some 22) rfl rfl Try.func26 (by kernel_rfl) rfl #[.int .i64 (wrap64 (2 + t446))] rfl (by (try simp only [List.map_toArray, List.map_cons, List.map_nil]); first | done | rfl | (simp only [List.length_drop, List.length_take]; rfl)) ?_; (with_reducible refine (lock_New.calls (wrap64 (2 + t446)) t447 t448 t451 _ A4.out).mono ?_); rintro e w6 ⟨v449, rfl, ho0, hb⟩; refine ⟨_, rfl, ?_⟩; have n0_ := Aside0.mk (Kd.R_lower ho0 (below_size (by repeat (first | (with_reducible first | exact HB.out | apply below_alloc | apply pw_below_drewN | apply below_drew1) | exact HB.out)))); have n1_ := Aside0.mk (below_step (by repeat (first | (with_reducible first | exact HB.out | apply below_alloc | apply pw_below_drewN | apply below_drew1) | exact HB.out)) hb); clear HB; have HO450 := n0_; have HB := n1_; clear n0_ n1_; (try clear hb); (try clear hb2); (try clear hk); (try clear hi); (try clear ho0)) | ((with_reducible refine gate_dst (N := 6) rfl ?_); (try (refine gate_guard (by rfl) ?_; dsimp only)); refine box_event ?hg (N := 6) ?hd (cs := #[.bool false, .slice none 0 0]) (t := 25) ?hr ?_; (case hd => rfl); (case hg => rfl); (case hr => first | (go_simp; done) | (go_simp; rfl)); intro gb452 hg w7 hbox hb; have n0_ := Aside0.mk (Kd.R_below (by (with_reducible repeat (first | apply Kd.R_alloc | apply Kd.R_drewN | apply Kd.R_drew)); exact HO450.out) hb); have n1_ := Aside0.mk (below_step (by repeat (first | (with_reducible first | exact HB.out | apply below_alloc | apply pw_below_drewN | apply below_drew1) | exact HB.out)) hb); have n2_ := Aside0.mk (hbox); have n3_ := Aside0.mk ((by rw [hg]; exact (below_size (by repeat (first | (with_reducible first | exact HB.out | apply below_alloc | apply pw_below_drewN | apply below_drew1) | exact HB.out))) : w.heap.size ≤ gb452)); have n4_ := Aside0.mk ((by rw [hg]; exact (below_size (by repeat (first | (with_reducible first | exact HB.out | apply below_alloc | apply pw_below_drewN | apply below_drew1) | exact HB.out))) : w.heap.size ≤ gb452)); clear HO450; clear HB; have HO450 := n0_; have HB := n1_; have BK452 := n2_; have GW452 := n3_; have GE452 := n4_; clear n0_ n1_ n2_ n3_ n4_; clear hb hbox hg; have hcz8_0 : w7.cell? ⟨gb452, 0, none⟩ = some (.bool false) := (blk_cell BK452.out 0).trans rfl; have hcz8_1 : w7.cell? ⟨gb452, 1, none⟩ = some (.slice none 0 0) := (blk_cell BK452.out 1).trans rfl; have hfz8_0 := blk_frozen BK452.out 0; have hfz8_1 := blk_frozen BK452.out 1; obtain ⟨Ao9, co9, eo9⟩ := Kd.R_slice HO450.out; subst eo9))
  go_loopg [8] k (fun kq v8 w' => ∃ (x8_1 : Int) (x453000_1 : Bool) (x453001_1 : List Bool) (u453001 : Value), v8 = .int .i64 x8_1 ∧ Aside0 (L17_LockValid.l0 kq l1 (wrap64 (2 + t446)) x8_1 x453000_1 x453001_1 = some true) ∧ Aside0 (kq ≤ k) ∧ Aside0 (Kd.R Kd.bool 4 w' w.heap.size (fun _ => True) u453001 x453001_1) ∧ Aside0 (w'.heap[gb452]? = some (.cells #[.bool x453000_1, u453001] 25 (0, 0))) ∧ Aside0 (Below w.heap.size w w'))
  case atStart => exact ⟨(0), (t447), (t448), (.slice Ao9 t448.length co9), (by first | rfl | (simp; done) | (simp [*]; done)), H', ⟨Nat.le_refl _⟩, ⟨by (with_reducible repeat (first | apply Kd.R_alloc | apply Kd.R_drewN | apply Kd.R_drew)); exact Kd.R_mono (Kd.R_far (p := ⟨gb452, 1, none⟩) (Kd.R_far (p := ⟨gb452, 0, none⟩) (Kd.R_types HO450.out BK452.out (by decide)) (fun _ hk => hk.2) (.bool t447)) (fun _ hk => hk.2) (.slice Ao9 t448.length co9)) (fun _ hk => trivial)⟩, ⟨by (with_reducible repeat (first | refine blk_drewN ?_ _ | refine blk_drew ?_ | refine blk_alloc ?_ _)); refine blk_put (cs := #[.bool t447, .slice none 0 0]) ?_ 1 _ rfl; (with_reducible repeat (first | refine blk_drewN ?_ _ | refine blk_drew ?_ | refine blk_alloc ?_ _)); refine blk_put (cs := #[.bool false, .slice none 0 0]) ?_ 0 _ rfl; (with_reducible repeat (first | refine blk_drewN ?_ _ | refine blk_drew ?_ | refine blk_alloc ?_ _)); exact BK452.out⟩, ⟨by repeat (first | (with_reducible first | exact HB.out | apply below_alloc | apply pw_below_drewN | apply below_drew1 | refine below_set ?_ GE452.out) | exact HB.out)⟩⟩
  case round =>
    clear H'
    try clear c1
    try clear c2
    try clear p2
    try clear c3
    try clear c5
    try clear c5b0
    try clear c5b1
    try clear p6
    try clear c7
    try clear hcz8_0
    try clear hcz8_1
    try clear hfz8_0
    try clear hfz8_1
    obtain ⟨x8_1, x453000_1, x453001_1, u453001, rfl, HA, HK1, HO_453001, BK452, HB⟩ := hrel
    cases gk with
    | zero => exact absurd HA.out (by simp [L17_LockValid.l0])
    | succ k1 =>
      have H := HA.out
      clear HA
      simp only [L17_LockValid.l0] at H
      have HC10 := Aside0.mk H
      clear H
      go_upto_region 6 with (fail)
      go_cut [34] (fun v34 wc => ∃ (kq : Nat) (x34_9 : Bool), v34 = .bool x34_9 ∧ Aside0 (L17_LockValid.j1 kq l1 (wrap64 (2 + t446)) x8_1 x34_9 x453000_1 x453001_1 = some true) ∧ Aside0 (kq ≤ k1) ∧ Aside0 (Kd.R Kd.bool 4 wc w.heap.size (fun _ => True) u453001 x453001_1) ∧ Aside0 (wc.heap[gb452]? = some (.cells #[.bool x453000_1, u453001] 25 (0, 0))) ∧ Aside0 (Below w.heap.size w wc))
      case first =>
        have H := HC10.out
        clear HC10
        by_cases c11 : x8_1 < (l1.length : Int)
        · rw [if_pos c11] at H
          have c11b0 : decide (x8_1 < (l1.length : Int)) = true := decide_eq_true c11
          clear c11
          (first | rw [c11b0] | (simp only [i64_w, i32_w]; rw [c11b0]) | skip)
          have H' := Aside0.mk H
          clear H
          go_wp2
          go_meet
          case rel => exact ⟨_, (decide (x8_1 < 30)), (by first | rfl | (simp; done) | (simp [*]; done)), H', ⟨by have := HK1.out; first | omega | exact Nat.le_refl _⟩, ⟨by (with_reducible repeat (first | apply Kd.R_alloc | apply Kd.R_drewN | apply Kd.R_drew)); exact HO_453001.out⟩, ⟨by (with_reducible repeat (first | refine blk_drewN ?_ _ | refine blk_drew ?_ | refine blk_alloc ?_ _)); exact BK452.out⟩, ⟨by repeat (first | (with_reducible first | exact HB.out | apply below_alloc | apply pw_below_drewN | apply below_drew1 | refine below_set ?_ GE452.out) | exact HB.out)⟩⟩
        · rw [if_neg c11] at H
          have c11b0 : decide (x8_1 < (l1.length : Int)) = false := decide_eq_false c11
          clear c11
          (first | rw [c11b0] | (simp only [i64_w, i32_w]; rw [c11b0]) | skip)
          have H' := Aside0.mk H
          clear H
          go_wp2
          go_meet
          case rel => exact ⟨_, (false), (by first | rfl | (simp; done) | (simp [*]; done)), H', ⟨by have := HK1.out; first | omega | exact Nat.le_refl _⟩, ⟨by (with_reducible repeat (first | apply Kd.R_alloc | apply Kd.R_drewN | apply Kd.R_drew)); exact HO_453001.out⟩, ⟨by (with_reducible repeat (first | refine blk_drewN ?_ _ | refine blk_drew ?_ | refine blk_alloc ?_ _)); exact BK452.out⟩, ⟨by repeat (first | (with_reducible first | exact HB.out | apply below_alloc | apply pw_below_drewN | apply below_drew1 | refine below_set ?_ GE452.out) | exact HB.out)⟩⟩
      case rest =>
        clear HC10
        try clear c1
        try clear c2
        try clear p2
        try clear c3
        try clear c5
        try clear c5b0
        try clear c5b1
        try clear p6
        try clear c7
        try clear c11
        try clear c11b0
        try clear hcz8_0
        try clear hcz8_1
        try clear hfz8_0
        try clear hfz8_1
        try clear p2
        try clear p6
        obtain ⟨kq, x34_9, rfl, HA, HJ9, HO_453001, BK452, HB⟩ := hcut
        cases kq with
        | zero => exact absurd HA.out (by simp [L17_LockValid.j1])
        | succ kj9 =>
          have H := HA.out
          clear HA
          simp only [L17_LockValid.j1] at H
          by_cases c12 : x34_9 = true
          · subst c12
            have H1 : (if 0 ≤ x8_1 then (if x8_1 < (l1.length : Int) then ((K_Mod.f (rd l1 x8_1) (wrap64 (3 * (wrap64 (2 + t446))))).bind fun t455 => (if (Int.tmod t455 3) = 0 then ((lock_Unlock.f x453000_1 x453001_1 (wrap64 (Int.tdiv t455 3))).bind fun bt457 => (L17_LockValid.j2 kj9 l1 (wrap64 (2 + t446)) bt457.2.2 x8_1 x453000_1 x453001_1 bt457.1 bt457.2.1)) else (if (Int.tmod t455 3) = 1 then ((lock_Lock.f kj9 x453000_1 x453001_1).bind fun bt462 => (L17_LockValid.j2 kj9 l1 (wrap64 (2 + t446)) bt462.2.2 x8_1 x453000_1 x453001_1 bt462.1 bt462.2.1)) else ((lock_Slam.f x453000_1 x453001_1).bind fun bt467 => (L17_LockValid.j2 kj9 l1 (wrap64 (2 + t446)) bt467.2.2.2 x8_1 x453000_1 x453001_1 bt467.1 bt467.2.1))))) else (none)) else (none)) = some true := by rw [if_pos rfl] at H; exact H
            clear H
            have H := H1
            clear H1
            by_cases c13 : 0 ≤ x8_1
            rotate_left
            · rw [if_neg c13] at H
              exact absurd H (by repeat (first | exact never_none | exact never_false | refine never_ite ?_ ?_ | refine never_bind (fun _ => ?_)))
            rw [if_pos c13] at H
            have c13b0 : decide (0 ≤ x8_1) = true := decide_eq_true c13
            clear c13
            by_cases c14 : x8_1 < (l1.length : Int)
            rotate_left
            · rw [if_neg c14] at H
              exact absurd H (by repeat (first | exact never_none | exact never_false | refine never_ite ?_ ?_ | refine never_bind (fun _ => ?_)))
            rw [if_pos c14] at H
            have c14b0 : decide (x8_1 < (l1.length : Int)) = true := decide_eq_true c14
            clear c14
            replace H := Option.bind_eq_some_iff.mp H
            obtain ⟨t455, A150, H⟩ := H
            replace H : (if (Int.tmod t455 3) = 0 then ((lock_Unlock.f x453000_1 x453001_1 (wrap64 (Int.tdiv t455 3))).bind fun bt457 => (L17_LockValid.j2 kj9 l1 (wrap64 (2 + t446)) bt457.2.2 x8_1 x453000_1 x453001_1 bt457.1 bt457.2.1)) else (if (Int.tmod t455 3) = 1 then ((lock_Lock.f kj9 x453000_1 x453001_1).bind fun bt462 => (L17_LockValid.j2 kj9 l1 (wrap64 (2 + t446)) bt462.2.2 x8_1 x453000_1 x453001_1 bt462.1 bt462.2.1)) else ((lock_Slam.f x453000_1 x453001_1).bind fun bt467 => (L17_LockValid.j2 kj9 l1 (wrap64 (2 + t446)) bt467.2.2.2 x8_1 x453000_1 x453001_1 bt467.1 bt467.2.1)))) = some true := H
            have A15 := Aside0.mk A150
            clear A150
            have HC16 := Aside0.mk H
            clear H
            have p454 : 0 ≤ (x8_1 : Int) := of_decide_eq_true (by first | (with_reducible assumption) | assumption)
            have q454 : x8_1 < (l1.length : Int) := of_decide_eq_true (by first | (with_reducible assumption) | assumption)
            obtain ⟨ad454, e454, hx454_0⟩ := Kd.at_int HR1.out x8_1 p454 q454
            cases e454
            replace hx454_0 := (HB.out.cell (World.block_lt_of_cell? w _ hx454_0)).trans hx454_0
            replace p454 := eq_true p454
            replace q454 := eq_true q454
            go_upto_block 2 with (first | ((with_reducible refine gate_callee (f := 36) rfl ?_); refine goesL_ (some 43) rfl rfl Try.func36 (by kernel_rfl) rfl #[.int .i64 (rd l1 x8_1), .int .i64 (wrap64 (3 * (wrap64 (2 + t446))))] rfl (by (try simp only [List.map_toArray, List.map_cons, List.map_nil]); first | done | rfl | (simp only [List.length_drop, List.length_take]; rfl)) ?_; (with_reducible refine (K_Mod.calls (rd l1 x8_1) (wrap64 (3 * (wrap64 (2 + t446)))) t455 _ A15.out).mono ?_); rintro e w' ⟨rfl, ⟨nd, rfl⟩⟩; refine ⟨_, rfl, ?_⟩) | ((with_reducible refine gate_dst (N := 10) rfl ?_); (try (refine gate_guard (by rfl) ?_; dsimp only)); refine box_event ?hg (N := 10) ?hd (cs := #[.bool false, .slice none 0 0]) (t := 25) ?hr ?_; (case hd => rfl); (case hg => rfl); (case hr => first | (go_simp; done) | (go_simp; rfl)); intro gb456 hg w17 hbox hb; have n0_ := Aside0.mk (Kd.R_below (by (with_reducible repeat (first | apply Kd.R_alloc | apply Kd.R_drewN | apply Kd.R_drew)); exact HO_453001.out) hb); have n1_ := Aside0.mk (blk_below (g := gb452) (o := .cells #[.bool x453000_1, u453001] 25 (0, 0)) (by (with_reducible repeat (first | refine blk_drewN ?_ _ | refine blk_drew ?_ | refine blk_alloc ?_ _)); exact BK452.out) hb); have n2_ := Aside0.mk (below_step (by repeat (first | (with_reducible first | exact HB.out | apply below_alloc | apply pw_below_drewN | apply below_drew1 | refine below_set ?_ GE452.out) | exact HB.out)) hb); have n3_ := Aside0.mk (hbox); have n4_ := Aside0.mk ((by rw [hg]; exact (below_size (by repeat (first | (with_reducible first | exact HB.out | apply below_alloc | apply pw_below_drewN | apply below_drew1 | refine below_set ?_ GE452.out) | exact HB.out))) : w.heap.size ≤ gb456)); have n5_ := Aside0.mk ((by rw [hg]; exact (below_size (by repeat (first | (with_reducible first | exact HB.out | apply below_alloc | apply pw_below_drewN | apply below_drew1 | refine below_set ?_ GE452.out) | exact HB.out))) : w.heap.size ≤ gb456)); have n6_ := Aside0.mk ((by rw [hg]; exact Nat.ne_of_lt (blk_lt (g := gb452) (o := .cells #[.bool x453000_1, u453001] 25 (0, 0)) (by (with_reducible repeat (first | refine blk_drewN ?_ _ | refine blk_drew ?_ | refine blk_alloc ?_ _)); exact BK452.out)) : gb452 ≠ gb456)); have n7_ := Aside0.mk ((by rw [hg]; exact Nat.ne_of_gt (blk_lt (g := gb452) (o := .cells #[.bool x453000_1, u453001] 25 (0, 0)) (by (with_reducible repeat (first | refine blk_drewN ?_ _ | refine blk_drew ?_ | refine blk_alloc ?_ _)); exact BK452.out)) : gb456 ≠ gb452)); clear HO_453001; clear BK452; clear HB; have HO_453001 := n0_; have BK452 := n1_; have HB := n2_; have BK456 := n3_; have GW456 := n4_; have GE456 := n5_; have NB452_456 := n6_; have NB456_452 := n7_; clear n0_ n1_ n2_ n3_ n4_ n5_ n6_ n7_; clear hb hbox hg))
            (try simp only [Act.put, List.setIfInBounds_toArray, List.set_cons_zero, List.set_cons_succ])
            go_cut [7] (fun v7 wc => ∃ (kq : Nat) (x7_15 : Int) (x457000_15 : Bool) (x457001_15 : List Bool) (u457001 : Value), v7 = .int .i64 x7_15 ∧ Aside0 (L17_LockValid.j2 kq l1 (wrap64 (2 + t446)) x7_15 x8_1 x453000_1 x453001_1 x457000_15 x457001_15 = some true) ∧ Aside0 (kq ≤ kj9) ∧ Aside0 (Kd.R Kd.bool 4 wc w.heap.size (fun k_ => some k_ ≠ (u457001 : Value).ownBlock) u453001 x453001_1) ∧ Aside0 (Kd.R Kd.bool 4 wc w.heap.size (fun k_ => some k_ ≠ (u453001 : Value).ownBlock) u457001 x457001_15) ∧ Aside0 (wc.heap[gb452]? = some (.cells #[.bool x453000_1, u453001] 25 (0, 0))) ∧ Aside0 (wc.heap[gb456]? = some (.cells #[.bool x457000_15, u457001] 25 (0, 0))) ∧ Aside0 (Below w.heap.size w wc))
            case first =>
              have H := HC16.out
              clear HC16
              by_cases c18 : (Int.tmod t455 3) = 0
              · rw [if_pos c18] at H
                have c18b0 : ((Int.tmod t455 3) == 0) = true := beq_iff_eq.mpr c18
                have c18b1 : ((Int.tmod t455 3) != 0) = false := bne_eq_false_iff_eq.mpr c18
                clear c18
                (first | rw [c18b0] | (simp only [i64_w, i32_w]; rw [c18b0]) | skip)
                replace H := Option.bind_eq_some_iff.mp H
                obtain ⟨⟨t457, t458, t461⟩, A190, H⟩ := H
                replace H : (L17_LockValid.j2 kj9 l1 (wrap64 (2 + t446)) t461 x8_1 x453000_1 x453001_1 t457 t458) = some true := H
                have A19 := Aside0.mk A190
                clear A190
                have H' := Aside0.mk H
                clear H
                have hnb20 := NB452_456.out
                have hnc20 := NB456_452.out
                have hcz21_0 : w17.cell? ⟨gb452, 0, none⟩ = some (.bool x453000_1) := (blk_cell BK452.out 0).trans rfl
                have hcz21_1 : w17.cell? ⟨gb452, 1, none⟩ = some (u453001) := (blk_cell BK452.out 1).trans rfl
                have hfz21_0 := blk_frozen BK452.out 0
                have hfz21_1 := blk_frozen BK452.out 1
                obtain ⟨Ao22, co22, eo22⟩ := Kd.R_slice HO_453001.out
                subst eo22
                go_wp2_with (first | ((with_reducible refine gate_callee (f := 30) rfl ?_); refine goesL_ (some 58) rfl rfl Try.func30 (by kernel_rfl) rfl #[.agg #[.bool x453000_1, .slice Ao22 x453001_1.length co22], .int .i64 (wrap64 (Int.tdiv t455 3))] rfl (by (try simp only [List.map_toArray, List.map_cons, List.map_nil]); first | done | rfl | (simp only [List.length_drop, List.length_take]; rfl)) ?_; (with_reducible refine (lock_Unlock.calls x453000_1 _ _ x453001_1 (wrap64 (Int.tdiv t455 3)) t457 t458 t461 _ ?side1 ?side2 A19.out).mono ?_); (case side1 => repeat (first | exact (Kd.R_reads' HO_453001.out).2.2 | (with_reducible refine Kd.C_alloc ?_ _) | (with_reducible refine Kd.C_drewN ?_ _) | (with_reducible refine Kd.C_drew ?_))); (case side2 => exact (Kd.R_reads' HO_453001.out).2.1); rintro e w23 ⟨v459, rfl, ho0, hb⟩; refine ⟨_, rfl, ?_⟩; have n0_ := Aside0.mk (Kd.R_elder' (by (with_reducible repeat (first | apply Kd.R_alloc | apply Kd.R_drewN | apply Kd.R_drew)); exact HO_453001.out) (Kd.R_base ho0) hb); have n1_ := Aside0.mk (Kd.R_lower (Kd.R_new' ho0 (Kd.R_lt (by (with_reducible repeat (first | apply Kd.R_alloc | apply Kd.R_drewN | apply Kd.R_drew)); exact HO_453001.out))) (below_size (by repeat (first | (with_reducible first | exact HB.out | apply below_alloc | apply pw_below_drewN | apply below_drew1 | refine below_set ?_ GE452.out | refine below_set ?_ GE456.out) | exact HB.out)))); have n2_ := Aside0.mk (blk_below (g := gb452) (o := .cells #[.bool x453000_1, .slice Ao22 x453001_1.length co22] 25 (0, 0)) (by (with_reducible repeat (first | refine blk_drewN ?_ _ | refine blk_drew ?_ | refine blk_alloc ?_ _)); exact BK452.out) hb); have n3_ := Aside0.mk (blk_below (g := gb456) (o := .cells #[.bool false, .slice none 0 0] 25 (0, 0)) (by (with_reducible repeat (first | refine blk_drewN ?_ _ | refine blk_drew ?_ | refine blk_alloc ?_ _)); exact BK456.out) hb); have n4_ := Aside0.mk (below_step (by repeat (first | (with_reducible first | exact HB.out | apply below_alloc | apply pw_below_drewN | apply below_drew1 | refine below_set ?_ GE452.out | refine below_set ?_ GE456.out) | exact HB.out)) hb); clear HO_453001; clear BK452; clear BK456; clear HB; have HO_453001 := n0_; have HO460 := n1_; have BK452 := n2_; have BK456 := n3_; have HB := n4_; clear n0_ n1_ n2_ n3_ n4_; (try clear hb); (try clear hb2); (try clear hk); (try clear hi); (try clear ho0); have hcz24_0 : w23.cell? ⟨gb456, 0, none⟩ = some (.bool false) := (blk_cell BK456.out 0).trans rfl; have hcz24_1 : w23.cell? ⟨gb456, 1, none⟩ = some (.slice none 0 0) := (blk_cell BK456.out 1).trans rfl; have hfz24_0 := blk_frozen BK456.out 0; have hfz24_1 := blk_frozen BK456.out 1; obtain ⟨Ao25, co25, eo25⟩ := Kd.R_slice HO460.out; subst eo25))
                go_meet
                case rel => exact ⟨_, (t461), (t457), (t458), (.slice Ao25 t458.length co25), (by first | rfl | (simp; done) | (simp [*]; done)), H', ⟨by have := HK1.out; have := HJ9.out; first | omega | exact Nat.le_refl _⟩, ⟨by (with_reducible repeat (first | apply Kd.R_alloc | apply Kd.R_drewN | apply Kd.R_drew)); exact Kd.R_mono (Kd.R_far (p := ⟨gb456, 1, none⟩) (Kd.R_far (p := ⟨gb456, 0, none⟩) (Kd.R_types HO_453001.out BK456.out (by decide)) (fun _ hk => hk.2) (.bool t457)) (fun _ hk => hk.2) (.slice Ao25 t458.length co25)) (fun _ hk => hk.1.2)⟩, ⟨by (with_reducible repeat (first | apply Kd.R_alloc | apply Kd.R_drewN | apply Kd.R_drew)); exact Kd.R_mono (Kd.R_far (p := ⟨gb456, 1, none⟩) (Kd.R_far (p := ⟨gb456, 0, none⟩) (Kd.R_types HO460.out BK456.out (by decide)) (fun _ hk => hk.2) (.bool t457)) (fun _ hk => hk.2) (.slice Ao25 t458.length co25)) (fun _ hk => hk.1.2)⟩, ⟨by (with_reducible repeat (first | refine blk_drewN ?_ _ | refine blk_drew ?_ | refine blk_alloc ?_ _)); refine blk_far ?_ NB452_456.out _; (with_reducible repeat (first | refine blk_drewN ?_ _ | refine blk_drew ?_ | refine blk_alloc ?_ _)); refine blk_far ?_ NB452_456.out _; (with_reducible repeat (first | refine blk_drewN ?_ _ | refine blk_drew ?_ | refine blk_alloc ?_ _)); exact BK452.out⟩, ⟨by (with_reducible repeat (first | refine blk_drewN ?_ _ | refine blk_drew ?_ | refine blk_alloc ?_ _)); refine blk_put (cs := #[.bool t457, .slice none 0 0]) ?_ 1 _ rfl; (with_reducible repeat (first | refine blk_drewN ?_ _ | refine blk_drew ?_ | refine blk_alloc ?_ _)); refine blk_put (cs := #[.bool false, .slice none 0 0]) ?_ 0 _ rfl; (with_reducible repeat (first | refine blk_drewN ?_ _ | refine blk_drew ?_ | refine blk_alloc ?_ _)); exact BK456.out⟩, ⟨by repeat (first | (with_reducible first | exact HB.out | apply below_alloc | apply pw_below_drewN | apply below_drew1 | refine below_set ?_ GE452.out | refine below_set ?_ GE456.out) | exact HB.out)⟩⟩
              · rw [if_neg c18] at H
                have c18b0 : ((Int.tmod t455 3) == 0) = false := beq_eq_false_iff_ne.mpr c18
                have c18b1 : ((Int.tmod t455 3) != 0) = true := bne_iff_ne.mpr c18
                (first | rw [c18b0] | (simp only [i64_w, i32_w]; rw [c18b0]) | skip)
                by_cases c26 : (Int.tmod t455 3) = 1
                · rw [if_pos c26] at H
                  have c26b0 : ((Int.tmod t455 3) == 1) = true := beq_iff_eq.mpr c26
                  have c26b1 : ((Int.tmod t455 3) != 1) = false := bne_eq_false_iff_eq.mpr c26
                  clear c26
                  replace H := Option.bind_eq_some_iff.mp H
                  obtain ⟨⟨t462, t463, t466⟩, A270, H⟩ := H
                  replace H : (L17_LockValid.j2 kj9 l1 (wrap64 (2 + t446)) t466 x8_1 x453000_1 x453001_1 t462 t463) = some true := H
                  have A27 := Aside0.mk A270
                  clear A270
                  have H' := Aside0.mk H
                  clear H
                  have hnb28 := NB452_456.out
                  have hnc28 := NB456_452.out
                  have hcz29_0 : w17.cell? ⟨gb452, 0, none⟩ = some (.bool x453000_1) := (blk_cell BK452.out 0).trans rfl
                  have hcz29_1 : w17.cell? ⟨gb452, 1, none⟩ = some (u453001) := (blk_cell BK452.out 1).trans rfl
                  have hfz29_0 := blk_frozen BK452.out 0
                  have hfz29_1 := blk_frozen BK452.out 1
                  obtain ⟨Ao30, co30, eo30⟩ := Kd.R_slice HO_453001.out
                  subst eo30
                  go_wp2_with (first | ((with_reducible refine gate_callee (f := 32) rfl ?_); refine goesL_ (some 65) rfl rfl Try.func32 (by kernel_rfl) rfl #[.agg #[.bool x453000_1, .slice Ao30 x453001_1.length co30]] rfl (by (try simp only [List.map_toArray, List.map_cons, List.map_nil]); first | done | rfl | (simp only [List.length_drop, List.length_take]; rfl)) ?_; (with_reducible refine (lock_Lock.calls kj9 x453000_1 _ _ x453001_1 t462 t463 t466 _ ?side1 ?side2 A27.out).mono ?_); (case side1 => repeat (first | exact (Kd.R_reads' HO_453001.out).2.2 | (with_reducible refine Kd.C_alloc ?_ _) | (with_reducible refine Kd.C_drewN ?_ _) | (with_reducible refine Kd.C_drew ?_))); (case side2 => exact (Kd.R_reads' HO_453001.out).2.1); rintro e w31 ⟨v464, rfl, ho0, hb⟩; refine ⟨_, rfl, ?_⟩; have n0_ := Aside0.mk (Kd.R_elder' (by (with_reducible repeat (first | apply Kd.R_alloc | apply Kd.R_drewN | apply Kd.R_drew)); exact HO_453001.out) (Kd.R_base ho0) hb); have n1_ := Aside0.mk (Kd.R_lower (Kd.R_new' ho0 (Kd.R_lt (by (with_reducible repeat (first | apply Kd.R_alloc | apply Kd.R_drewN | apply Kd.R_drew)); exact HO_453001.out))) (below_size (by repeat (first | (with_reducible first | exact HB.out | apply below_alloc | apply pw_below_drewN | apply below_drew1 | refine below_set ?_ GE452.out | refine below_set ?_ GE456.out) | exact HB.out)))); have n2_ := Aside0.mk (blk_below (g := gb452) (o := .cells #[.bool x453000_1, .slice Ao30 x453001_1.length co30] 25 (0, 0)) (by (with_reducible repeat (first | refine blk_drewN ?_ _ | refine blk_drew ?_ | refine blk_alloc ?_ _)); exact BK452.out) hb); have n3_ := Aside0.mk (blk_below (g := gb456) (o := .cells #[.bool false, .slice none 0 0] 25 (0, 0)) (by (with_reducible repeat (first | refine blk_drewN ?_ _ | refine blk_drew ?_ | refine blk_alloc ?_ _)); exact BK456.out) hb); have n4_ := Aside0.mk (below_step (by repeat (first | (with_reducible first | exact HB.out | apply below_alloc | apply pw_below_drewN | apply below_drew1 | refine below_set ?_ GE452.out | refine below_set ?_ GE456.out) | exact HB.out)) hb); clear HO_453001; clear BK452; clear BK456; clear HB; have HO_453001 := n0_; have HO465 := n1_; have BK452 := n2_; have BK456 := n3_; have HB := n4_; clear n0_ n1_ n2_ n3_ n4_; (try clear hb); (try clear hb2); (try clear hk); (try clear hi); (try clear ho0); have hcz32_0 : w31.cell? ⟨gb456, 0, none⟩ = some (.bool false) := (blk_cell BK456.out 0).trans rfl; have hcz32_1 : w31.cell? ⟨gb456, 1, none⟩ = some (.slice none 0 0) := (blk_cell BK456.out 1).trans rfl; have hfz32_0 := blk_frozen BK456.out 0; have hfz32_1 := blk_frozen BK456.out 1; obtain ⟨Ao33, co33, eo33⟩ := Kd.R_slice HO465.out; subst eo33))
                  go_meet
                  case rel => exact ⟨_, (t466), (t462), (t463), (.slice Ao33 t463.length co33), (by first | rfl | (simp; done) | (simp [*]; done)), H', ⟨by have := HK1.out; have := HJ9.out; first | omega | exact Nat.le_refl _⟩, ⟨by (with_reducible repeat (first | apply Kd.R_alloc | apply Kd.R_drewN | apply Kd.R_drew)); exact Kd.R_mono (Kd.R_far (p := ⟨gb456, 1, none⟩) (Kd.R_far (p := ⟨gb456, 0, none⟩) (Kd.R_types HO_453001.out BK456.out (by decide)) (fun _ hk => hk.2) (.bool t462)) (fun _ hk => hk.2) (.slice Ao33 t463.length co33)) (fun _ hk => hk.1.2)⟩, ⟨by (with_reducible repeat (first | apply Kd.R_alloc | apply Kd.R_drewN | apply Kd.R_drew)); exact Kd.R_mono (Kd.R_far (p := ⟨gb456, 1, none⟩) (Kd.R_far (p := ⟨gb456, 0, none⟩) (Kd.R_types HO465.out BK456.out (by decide)) (fun _ hk => hk.2) (.bool t462)) (fun _ hk => hk.2) (.slice Ao33 t463.length co33)) (fun _ hk => hk.1.2)⟩, ⟨by (with_reducible repeat (first | refine blk_drewN ?_ _ | refine blk_drew ?_ | refine blk_alloc ?_ _)); refine blk_far ?_ NB452_456.out _; (with_reducible repeat (first | refine blk_drewN ?_ _ | refine blk_drew ?_ | refine blk_alloc ?_ _)); refine blk_far ?_ NB452_456.out _; (with_reducible repeat (first | refine blk_drewN ?_ _ | refine blk_drew ?_ | refine blk_alloc ?_ _)); exact BK452.out⟩, ⟨by (with_reducible repeat (first | refine blk_drewN ?_ _ | refine blk_drew ?_ | refine blk_alloc ?_ _)); refine blk_put (cs := #[.bool t462, .slice none 0 0]) ?_ 1 _ rfl; (with_reducible repeat (first | refine blk_drewN ?_ _ | refine blk_drew ?_ | refine blk_alloc ?_ _)); refine blk_put (cs := #[.bool false, .slice none 0 0]) ?_ 0 _ rfl; (with_reducible repeat (first | refine blk_drewN ?_ _ | refine blk_drew ?_ | refine blk_alloc ?_ _)); exact BK456.out⟩, ⟨by repeat (first | (with_reducible first | exact HB.out | apply below_alloc | apply pw_below_drewN | apply below_drew1 | refine below_set ?_ GE452.out | refine below_set ?_ GE456.out) | exact HB.out)⟩⟩
                · rw [if_neg c26] at H
                  have c26b0 : ((Int.tmod t455 3) == 1) = false := beq_eq_false_iff_ne.mpr c26
                  have c26b1 : ((Int.tmod t455 3) != 1) = true := bne_iff_ne.mpr c26
                  replace H := Option.bind_eq_some_iff.mp H
                  obtain ⟨⟨t467, t468, t471, t472⟩, A340, H⟩ := H
                  replace H : (L17_LockValid.j2 kj9 l1 (wrap64 (2 + t446)) t472 x8_1 x453000_1 x453001_1 t467 t468) = some true := H
                  have A34 := Aside0.mk A340
                  clear A340
                  have H' := Aside0.mk H
                  clear H
                  have hnb35 := NB452_456.out
                  have hnc35 := NB456_452.out
                  have hcz36_0 : w17.cell? ⟨gb452, 0, none⟩ = some (.bool x453000_1) := (blk_cell BK452.out 0).trans rfl
                  have hcz36_1 : w17.cell? ⟨gb452, 1, none⟩ = some (u453001) := (blk_cell BK452.out 1).trans rfl
                  have hfz36_0 := blk_frozen BK452.out 0
                  have hfz36_1 := blk_frozen BK452.out 1
                  obtain ⟨Ao37, co37, eo37⟩ := Kd.R_slice HO_453001.out
                  subst eo37
                  go_wp2_with (first | ((with_reducible refine gate_callee (f := 34) rfl ?_); refine goesL_ (some 48) rfl rfl Try.func34 (by kernel_rfl) rfl #[.agg #[.bool x453000_1, .slice Ao37 x453001_1.length co37]] rfl (by (try simp only [List.map_toArray, List.map_cons, List.map_nil]); first | done | rfl | (simp only [List.length_drop, List.length_take]; rfl)) ?_; (with_reducible refine (lock_Slam.calls x453000_1 _ _ x453001_1 t467 t468 t471 t472 _ ?side1 ?side2 A34.out).mono ?_); (case side1 => repeat (first | exact (Kd.R_reads' HO_453001.out).2.2 | (with_reducible refine Kd.C_alloc ?_ _) | (with_reducible refine Kd.C_drewN ?_ _) | (with_reducible refine Kd.C_drew ?_))); (case side2 => exact (Kd.R_reads' HO_453001.out).2.1); rintro e w38 ⟨v469, rfl, ho0, hb⟩; refine ⟨_, rfl, ?_⟩; have n0_ := Aside0.mk (Kd.R_elder' (by (with_reducible repeat (first | apply Kd.R_alloc | apply Kd.R_drewN | apply Kd.R_drew)); exact HO_453001.out) (Kd.R_base ho0) hb); have n1_ := Aside0.mk (Kd.R_lower (Kd.R_new' ho0 (Kd.R_lt (by (with_reducible repeat (first | apply Kd.R_alloc | apply Kd.R_drewN | apply Kd.R_drew)); exact HO_453001.out))) (below_size (by repeat (first | (with_reducible first | exact HB.out | apply below_alloc | apply pw_below_drewN | apply below_drew1 | refine below_set ?_ GE452.out | refine below_set ?_ GE456.out) | exact HB.out)))); have n2_ := Aside0.mk (blk_below (g := gb452) (o := .cells #[.bool x453000_1, .slice Ao37 x453001_1.length co37] 25 (0, 0)) (by (with_reducible repeat (first | refine blk_drewN ?_ _ | refine blk_drew ?_ | refine blk_alloc ?_ _)); exact BK452.out) hb); have n3_ := Aside0.mk (blk_below (g := gb456) (o := .cells #[.bool false, .slice none 0 0] 25 (0, 0)) (by (with_reducible repeat (first | refine blk_drewN ?_ _ | refine blk_drew ?_ | refine blk_alloc ?_ _)); exact BK456.out) hb); have n4_ := Aside0.mk (below_step (by repeat (first | (with_reducible first | exact HB.out | apply below_alloc | apply pw_below_drewN | apply below_drew1 | refine below_set ?_ GE452.out | refine below_set ?_ GE456.out) | exact HB.out)) hb); clear HO_453001; clear BK452; clear BK456; clear HB; have HO_453001 := n0_; have HO470 := n1_; have BK452 := n2_; have BK456 := n3_; have HB := n4_; clear n0_ n1_ n2_ n3_ n4_; (try clear hb); (try clear hb2); (try clear hk); (try clear hi); (try clear ho0); have hcz39_0 : w38.cell? ⟨gb456, 0, none⟩ = some (.bool false) := (blk_cell BK456.out 0).trans rfl; have hcz39_1 : w38.cell? ⟨gb456, 1, none⟩ = some (.slice none 0 0) := (blk_cell BK456.out 1).trans rfl; have hfz39_0 := blk_frozen BK456.out 0; have hfz39_1 := blk_frozen BK456.out 1; obtain ⟨Ao40, co40, eo40⟩ := Kd.R_slice HO470.out; subst eo40))
                  go_meet
                  case rel => exact ⟨_, (t472), (t467), (t468), (.slice Ao40 t468.length co40), (by first | rfl | (simp; done) | (simp [*]; done)), H', ⟨by have := HK1.out; have := HJ9.out; first | omega | exact Nat.le_refl _⟩, ⟨by (with_reducible repeat (first | apply Kd.R_alloc | apply Kd.R_drewN | apply Kd.R_drew)); exact Kd.R_mono (Kd.R_far (p := ⟨gb456, 1, none⟩) (Kd.R_far (p := ⟨gb456, 0, none⟩) (Kd.R_types HO_453001.out BK456.out (by decide)) (fun _ hk => hk.2) (.bool t467)) (fun _ hk => hk.2) (.slice Ao40 t468.length co40)) (fun _ hk => hk.1.2)⟩, ⟨by (with_reducible repeat (first | apply Kd.R_alloc | apply Kd.R_drewN | apply Kd.R_drew)); exact Kd.R_mono (Kd.R_far (p := ⟨gb456, 1, none⟩) (Kd.R_far (p := ⟨gb456, 0, none⟩) (Kd.R_types HO470.out BK456.out (by decide)) (fun _ hk => hk.2) (.bool t467)) (fun _ hk => hk.2) (.slice Ao40 t468.length co40)) (fun _ hk => hk.1.2)⟩, ⟨by (with_reducible repeat (first | refine blk_drewN ?_ _ | refine blk_drew ?_ | refine blk_alloc ?_ _)); refine blk_far ?_ NB452_456.out _; (with_reducible repeat (first | refine blk_drewN ?_ _ | refine blk_drew ?_ | refine blk_alloc ?_ _)); refine blk_far ?_ NB452_456.out _; (with_reducible repeat (first | refine blk_drewN ?_ _ | refine blk_drew ?_ | refine blk_alloc ?_ _)); exact BK452.out⟩, ⟨by (with_reducible repeat (first | refine blk_drewN ?_ _ | refine blk_drew ?_ | refine blk_alloc ?_ _)); refine blk_put (cs := #[.bool t467, .slice none 0 0]) ?_ 1 _ rfl; (with_reducible repeat (first | refine blk_drewN ?_ _ | refine blk_drew ?_ | refine blk_alloc ?_ _)); refine blk_put (cs := #[.bool false, .slice none 0 0]) ?_ 0 _ rfl; (with_reducible repeat (first | refine blk_drewN ?_ _ | refine blk_drew ?_ | refine blk_alloc ?_ _)); exact BK456.out⟩, ⟨by repeat (first | (with_reducible first | exact HB.out | apply below_alloc | apply pw_below_drewN | apply below_drew1 | refine below_set ?_ GE452.out | refine below_set ?_ GE456.out) | exact HB.out)⟩⟩
            case rest =>
              clear HC16
              try clear c1
              try clear c2
              try clear p2
              try clear c3
              try clear p4
              try clear q4
              try clear hx4
              try clear c5
              try clear c5b0
              try clear c5b1
              try clear p6
              try clear c7
              try clear c11
              try clear c11b0
              try clear c12
              try clear c13
              try clear c13b0
              try clear c14
              try clear c14b0
              try clear c18
              try clear c18b0
              try clear c18b1
              try clear c20
              try clear c26
              try clear c26b0
              try clear c26b1
              try clear c28
              try clear c30
              try clear c32
              try clear c34
              try clear c35
              try clear c36
              try clear hcz21_0
              try clear hcz21_1
              try clear hcz24_0
              try clear hcz24_1
              try clear hcz29_0
              try clear hcz29_1
              try clear hcz32_0
              try clear hcz32_1
              try clear hcz36_0
              try clear hcz36_1
              try clear hcz39_0
              try clear hcz39_1
              try clear hcz8_0
              try clear hcz8_1
              try clear hfz21_0
              try clear hfz21_1
              try clear hfz24_0
              try clear hfz24_1
              try clear hfz29_0
              try clear hfz29_1
              try clear hfz32_0
              try clear hfz32_1
              try clear hfz36_0
              try clear hfz36_1
              try clear hfz39_0
              try clear hfz39_1
              try clear hfz8_0
              try clear hfz8_1
              try clear hx454_0
              try clear p2
              try clear p454
              try clear p6
              try clear q454
              obtain ⟨kq, x7_15, x457000_15, x457001_15, u457001, rfl, HA, HJ15, HO_453001, HO_457001, BK452, BK456, HB⟩ := hcut
              cases kq with
              | zero => exact absurd HA.out (by simp [L17_LockValid.j2])
              | succ kj15 =>
                have H := HA.out
                clear HA
                simp only [L17_LockValid.j2] at H
                have HC41 := Aside0.mk H
                clear H
                go_upto_if 69 with (fail)
                go_cut [] (fun wc => ∃ (kq : Nat) (x453000_40 : Bool) (x453001_40 : List Bool) (u453001 : Value), Aside0 (L17_LockValid.j3 kq l1 (wrap64 (2 + t446)) x8_1 x453000_40 x453001_40 = some true) ∧ Aside0 (kq ≤ kj15) ∧ Aside0 (Kd.R Kd.bool 4 wc w.heap.size (fun k_ => True) u453001 x453001_40) ∧ Aside0 (Kd.R Kd.bool 4 wc w.heap.size (fun k_ => True) u453001 x453001_40) ∧ Aside0 (wc.heap[gb452]? = some (.cells #[.bool x453000_40, u453001] 25 (0, 0))) ∧ Aside0 (wc.heap[gb456]? = some (.cells #[.bool x457000_15, u457001] 25 (0, 0))) ∧ Aside0 (Below w.heap.size w wc))
                case first =>
                  have H := HC41.out
                  clear HC41
                  by_cases c42 : x7_15 = 0
                  · rw [if_pos c42] at H
                    have c42b0 : (x7_15 == 0) = true := beq_iff_eq.mpr c42
                    have c42b1 : (x7_15 != 0) = false := bne_eq_false_iff_eq.mpr c42
                    clear c42
                    (first | rw [c42b0] | (simp only [i64_w, i32_w]; rw [c42b0]) | skip)
                    have H' := Aside0.mk H
                    clear H
                    have hnb43 := NB456_452.out
                    have hnc43 := NB452_456.out
                    have hcz44_0 : wc.cell? ⟨gb456, 0, none⟩ = some (.bool x457000_15) := (blk_cell BK456.out 0).trans rfl
                    have hcz44_1 : wc.cell? ⟨gb456, 1, none⟩ = some (u457001) := (blk_cell BK456.out 1).trans rfl
                    have hfz44_0 := blk_frozen BK456.out 0
                    have hfz44_1 := blk_frozen BK456.out 1
                    have hcz45_0 : wc.cell? ⟨gb452, 0, none⟩ = some (.bool x453000_1) := (blk_cell BK452.out 0).trans rfl
                    have hcz45_1 : wc.cell? ⟨gb452, 1, none⟩ = some (u453001) := (blk_cell BK452.out 1).trans rfl
                    have hfz45_0 := blk_frozen BK452.out 0
                    have hfz45_1 := blk_frozen BK452.out 1
                    obtain ⟨Ao46, co46, eo46⟩ := Kd.R_slice HO_457001.out
                    subst eo46
                    go_wp2
                    go_meet
                    case rel => exact ⟨_, (x457000_15), (x457001_15), (.slice Ao46 x457001_15.length co46), H', ⟨by have := HK1.out; have := HJ9.out; have := HJ15.out; first | omega | exact Nat.le_refl _⟩, ⟨by (with_reducible repeat (first | apply Kd.R_alloc | apply Kd.R_drewN | apply Kd.R_drew)); exact Kd.R_mono (Kd.R_far (p := ⟨gb452, 1, none⟩) (Kd.R_far (p := ⟨gb452, 0, none⟩) (Kd.R_types HO_457001.out BK452.out (by decide)) (fun _ hk => hk.2) (.bool x457000_15)) (fun _ hk => hk.2) (.slice Ao46 x457001_15.length co46)) (fun _ hk => trivial)⟩, ⟨by (with_reducible repeat (first | apply Kd.R_alloc | apply Kd.R_drewN | apply Kd.R_drew)); exact Kd.R_mono (Kd.R_far (p := ⟨gb452, 1, none⟩) (Kd.R_far (p := ⟨gb452, 0, none⟩) (Kd.R_types HO_457001.out BK452.out (by decide)) (fun _ hk => hk.2) (.bool x457000_15)) (fun _ hk => hk.2) (.slice Ao46 x457001_15.length co46)) (fun _ hk => trivial)⟩, ⟨by (with_reducible repeat (first | refine blk_drewN ?_ _ | refine blk_drew ?_ | refine blk_alloc ?_ _)); refine blk_put (cs := #[.bool x457000_15, u453001]) ?_ 1 _ rfl; (with_reducible repeat (first | refine blk_drewN ?_ _ | refine blk_drew ?_ | refine blk_alloc ?_ _)); refine blk_put (cs := #[.bool x453000_1, u453001]) ?_ 0 _ rfl; (with_reducible repeat (first | refine blk_drewN ?_ _ | refine blk_drew ?_ | refine blk_alloc ?_ _)); exact BK452.out⟩, ⟨by (with_reducible repeat (first | refine blk_drewN ?_ _ | refine blk_drew ?_ | refine blk_alloc ?_ _)); refine blk_far ?_ NB456_452.out _; (with_reducible repeat (first | refine blk_drewN ?_ _ | refine blk_drew ?_ | refine blk_alloc ?_ _)); refine blk_far ?_ NB456_452.out _; (with_reducible repeat (first | refine blk_drewN ?_ _ | refine blk_drew ?_ | refine blk_alloc ?_ _)); exact BK456.out⟩, ⟨by repeat (first | (with_reducible first | exact HB.out | apply below_alloc | apply pw_below_drewN | apply below_drew1 | refine below_set ?_ GE452.out | refine below_set ?_ GE456.out) | exact HB.out)⟩⟩
                  · rw [if_neg c42] at H
                    have c42b0 : (x7_15 == 0) = false := beq_eq_false_iff_ne.mpr c42
                    have c42b1 : (x7_15 != 0) = true := bne_iff_ne.mpr c42
                    (first | rw [c42b0] | (simp only [i64_w, i32_w]; rw [c42b0]) | skip)
                    have H' := Aside0.mk H
                    clear H
                    go_wp2
                    go_meet
                    case rel => exact ⟨_, (x453000_1), (x453001_1), (u453001), H', ⟨by have := HK1.out; have := HJ9.out; have := HJ15.out; first | omega | exact Nat.le_refl _⟩, ⟨by (with_reducible repeat (first | apply Kd.R_alloc | apply Kd.R_drewN | apply Kd.R_drew)); exact Kd.R_mono HO_453001.out (fun _ _ => trivial)⟩, ⟨by (with_reducible repeat (first | apply Kd.R_alloc | apply Kd.R_drewN | apply Kd.R_drew)); exact Kd.R_mono HO_453001.out (fun _ _ => trivial)⟩, ⟨by (with_reducible repeat (first | refine blk_drewN ?_ _ | refine blk_drew ?_ | refine blk_alloc ?_ _)); exact BK452.out⟩, ⟨by (with_reducible repeat (first | refine blk_drewN ?_ _ | refine blk_drew ?_ | refine blk_alloc ?_ _)); exact BK456.out⟩, ⟨by repeat (first | (with_reducible first | exact HB.out | apply below_alloc | apply pw_below_drewN | apply below_drew1 | refine below_set ?_ GE452.out | refine below_set ?_ GE456.out) | exact HB.out)⟩⟩
                case rest =>
                  clear HC41
                  try clear c1
                  try clear c2
                  try clear p2
                  try clear c3
                  try clear c4
                  try clear p4
                  try clear q4
                  try clear hx4
                  try clear c5
                  try clear c5b0
                  try clear c5b1
                  try clear p6
                  try clear c7
                  try clear c11
                  try clear c11b0
                  try clear c12
                  try clear c13
                  try clear c13b0
                  try clear c14
                  try clear c14b0
                  try clear c18
                  try clear c18b0
                  try clear c18b1
                  try clear c20
                  try clear c26
                  try clear c26b0
                  try clear c26b1
                  try clear c28
                  try clear c30
                  try clear c32
                  try clear c34
                  try clear c35
                  try clear c36
                  try clear c42
                  try clear c42b0
                  try clear c42b1
                  try clear c43
                  try clear p45
                  try clear q45
                  try clear hx45
                  try clear hcz21_0
                  try clear hcz21_1
                  try clear hcz24_0
                  try clear hcz24_1
                  try clear hcz29_0
                  try clear hcz29_1
                  try clear hcz32_0
                  try clear hcz32_1
                  try clear hcz36_0
                  try clear hcz36_1
                  try clear hcz39_0
                  try clear hcz39_1
                  try clear hcz44_0
                  try clear hcz44_1
                  try clear hcz45_0
                  try clear hcz45_1
                  try clear hcz8_0
                  try clear hcz8_1
                  try clear hfz21_0
                  try clear hfz21_1
                  try clear hfz24_0
                  try clear hfz24_1
                  try clear hfz29_0
                  try clear hfz29_1
                  try clear hfz32_0
                  try clear hfz32_1
                  try clear hfz36_0
                  try clear hfz36_1
                  try clear hfz39_0
                  try clear hfz39_1
                  try clear hfz44_0
                  try clear hfz44_1
                  try clear hfz45_0
                  try clear hfz45_1
                  try clear hfz8_0
                  try clear hfz8_1
                  try clear hx454_0
                  try clear p2
                  try clear p4
                  try clear p454
                  try clear p6
                  try clear q4
                  try clear q454
                  obtain ⟨kq, x453000_40, x453001_40, u453001, HA, HJ40, HO_453001, HO_457001, BK452, BK456, HB⟩ := hcut
                  cases kq with
                  | zero => exact absurd HA.out (by simp [L17_LockValid.j3])
                  | succ kj40 =>
                    have H := HA.out
                    clear HA
                    simp only [L17_LockValid.j3] at H
                    replace H := Option.bind_eq_some_iff.mp H
                    obtain ⟨⟨t473, t474⟩, A470, H⟩ := H
                    replace H : ((lock_Missing.f x453000_40 x453001_40).bind fun bt475 => ((lock_Open.f kj40 x453000_40 x453001_40).bind fun bt479 => ((lock_Check.f kj40 x453000_40 x453001_40).bind fun t481 => (if t481 = 0 then (if t474 = 0 then (if bt475.2 = 0 then (if (t473 != ((bt475.1.length : Int) == 0)) = true then (some false) else (if (t473 != (bt479.2 == 6)) = true then (some false) else (if t473 = true then (L17_LockValid.l0 kj40 l1 (wrap64 (2 + t446)) (wrap64 (x8_1 + 1)) x453000_40 x453001_40) else (if bt479.2 = 0 then (L17_LockValid.l0 kj40 l1 (wrap64 (2 + t446)) (wrap64 (x8_1 + 1)) x453000_40 x453001_40) else (some false))))) else (some false)) else (some false)) else (some false))))) = some true := H
                    have A47 := Aside0.mk A470
                    clear A470
                    replace H := Option.bind_eq_some_iff.mp H
                    obtain ⟨⟨t475, t478⟩, A480, H⟩ := H
                    replace H : ((lock_Open.f kj40 x453000_40 x453001_40).bind fun bt479 => ((lock_Check.f kj40 x453000_40 x453001_40).bind fun t481 => (if t481 = 0 then (if t474 = 0 then (if t478 = 0 then (if (t473 != ((t475.length : Int) == 0)) = true then (some false) else (if (t473 != (bt479.2 == 6)) = true then (some false) else (if t473 = true then (L17_LockValid.l0 kj40 l1 (wrap64 (2 + t446)) (wrap64 (x8_1 + 1)) x453000_40 x453001_40) else (if bt479.2 = 0 then (L17_LockValid.l0 kj40 l1 (wrap64 (2 + t446)) (wrap64 (x8_1 + 1)) x453000_40 x453001_40) else (some false))))) else (some false)) else (some false)) else (some false)))) = some true := H
                    have A48 := Aside0.mk A480
                    clear A480
                    replace H := Option.bind_eq_some_iff.mp H
                    obtain ⟨⟨t479, t480⟩, A490, H⟩ := H
                    replace H : ((lock_Check.f kj40 x453000_40 x453001_40).bind fun t481 => (if t481 = 0 then (if t474 = 0 then (if t478 = 0 then (if (t473 != ((t475.length : Int) == 0)) = true then (some false) else (if (t473 != (t480 == 6)) = true then (some false) else (if t473 = true then (L17_LockValid.l0 kj40 l1 (wrap64 (2 + t446)) (wrap64 (x8_1 + 1)) x453000_40 x453001_40) else (if t480 = 0 then (L17_LockValid.l0 kj40 l1 (wrap64 (2 + t446)) (wrap64 (x8_1 + 1)) x453000_40 x453001_40) else (some false))))) else (some false)) else (some false)) else (some false))) = some true := H
                    have A49 := Aside0.mk A490
                    clear A490
                    replace H := Option.bind_eq_some_iff.mp H
                    obtain ⟨t481, A500, H⟩ := H
                    replace H : (if t481 = 0 then (if t474 = 0 then (if t478 = 0 then (if (t473 != ((t475.length : Int) == 0)) = true then (some false) else (if (t473 != (t480 == 6)) = true then (some false) else (if t473 = true then (L17_LockValid.l0 kj40 l1 (wrap64 (2 + t446)) (wrap64 (x8_1 + 1)) x453000_40 x453001_40) else (if t480 = 0 then (L17_LockValid.l0 kj40 l1 (wrap64 (2 + t446)) (wrap64 (x8_1 + 1)) x453000_40 x453001_40) else (some false))))) else (some false)) else (some false)) else (some false)) = some true := H
                    have A50 := Aside0.mk A500
                    clear A500
                    by_cases c51 : t481 = 0
                    rotate_left
                    · rw [if_neg c51] at H
                      exact absurd H (by repeat (first | exact never_none | exact never_false | refine never_ite ?_ ?_ | refine never_bind (fun _ => ?_)))
                    rw [if_pos c51] at H
                    have c51b0 : (t481 == 0) = true := beq_iff_eq.mpr c51
                    have c51b1 : (t481 != 0) = false := bne_eq_false_iff_eq.mpr c51
                    clear c51
                    by_cases c52 : t474 = 0
                    rotate_left
                    · rw [if_neg c52] at H
                      exact absurd H (by repeat (first | exact never_none | exact never_false | refine never_ite ?_ ?_ | refine never_bind (fun _ => ?_)))
                    rw [if_pos c52] at H
                    have c52b0 : (t474 == 0) = true := beq_iff_eq.mpr c52
                    have c52b1 : (t474 != 0) = false := bne_eq_false_iff_eq.mpr c52
                    clear c52
                    by_cases c53 : t478 = 0
                    rotate_left
                    · rw [if_neg c53] at H
                      exact absurd H (by repeat (first | exact never_none | exact never_false | refine never_ite ?_ ?_ | refine never_bind (fun _ => ?_)))
                    rw [if_pos c53] at H
                    have c53b0 : (t478 == 0) = true := beq_iff_eq.mpr c53
                    have c53b1 : (t478 != 0) = false := bne_eq_false_iff_eq.mpr c53
                    clear c53
                    by_cases c54 : (t473 != ((t475.length : Int) == 0)) = true
                    · rw [if_pos c54] at H
                      exact absurd H (by repeat (first | exact never_none | exact never_false | refine never_ite ?_ ?_ | refine never_bind (fun _ => ?_)))
                    rw [if_neg c54] at H
                    have c54b0 : (t473 != ((t475.length : Int) == 0)) = false := by simpa using c54
                    (try (have c54b1 : decide (t473 = ((t475.length : Int) == 0)) = true := by simpa using c54))
                    (try (have c54b2 : (t473 == ((t475.length : Int) == 0)) = true := by simpa using c54))
                    clear c54
                    by_cases c55 : (t473 != (t480 == 6)) = true
                    · rw [if_pos c55] at H
                      exact absurd H (by repeat (first | exact never_none | exact never_false | refine never_ite ?_ ?_ | refine never_bind (fun _ => ?_)))
                    rw [if_neg c55] at H
                    have c55b0 : (t473 != (t480 == 6)) = false := by simpa using c55
                    (try (have c55b1 : decide (t473 = (t480 == 6)) = true := by simpa using c55))
                    (try (have c55b2 : (t473 == (t480 == 6)) = true := by simpa using c55))
                    clear c55
                    by_cases c56 : t473 = true
                    · subst c56
                      have H1 : (L17_LockValid.l0 kj40 l1 (wrap64 (2 + t446)) (wrap64 (x8_1 + 1)) x453000_40 x453001_40) = some true := by rw [if_pos rfl] at H; exact H
                      clear H
                      have H := H1
                      clear H1
                      have H' := Aside0.mk H
                      clear H
                      have hnb57 := NB452_456.out
                      have hnc57 := NB456_452.out
                      have hcz58_0 : wc.cell? ⟨gb452, 0, none⟩ = some (.bool x453000_40) := (blk_cell BK452.out 0).trans rfl
                      have hcz58_1 : wc.cell? ⟨gb452, 1, none⟩ = some (u453001) := (blk_cell BK452.out 1).trans rfl
                      have hfz58_0 := blk_frozen BK452.out 0
                      have hfz58_1 := blk_frozen BK452.out 1
                      obtain ⟨Ao59, co59, eo59⟩ := Kd.R_slice HO_453001.out
                      subst eo59
                      go_wp2_with (first | ((with_reducible refine gate_callee (f := 14) rfl ?_); refine goesL_ (some 73) rfl rfl Try.func14 (by kernel_rfl) rfl #[.agg #[.bool x453000_40, .slice Ao59 x453001_40.length co59]] rfl (by (try simp only [List.map_toArray, List.map_cons, List.map_nil]); first | done | rfl | (simp only [List.length_drop, List.length_take]; rfl)) ?_; (with_reducible refine (lock_May.calls x453000_40 _ _ x453001_40 true t474 _ ?side1 ?side2 A47.out).mono ?_); (case side1 => repeat (first | exact (Kd.R_reads' HO_453001.out).2.2 | (with_reducible refine Kd.C_alloc ?_ _) | (with_reducible refine Kd.C_drewN ?_ _) | (with_reducible refine Kd.C_drew ?_))); (case side2 => exact (Kd.R_reads' HO_453001.out).2.1); rintro e w60 ⟨rfl, hb⟩; refine ⟨_, rfl, ?_⟩; have n0_ := Aside0.mk (Kd.R_below (by (with_reducible repeat (first | apply Kd.R_alloc | apply Kd.R_drewN | apply Kd.R_drew)); exact HO_453001.out) hb); have n1_ := Aside0.mk (Kd.R_below (by (with_reducible repeat (first | apply Kd.R_alloc | apply Kd.R_drewN | apply Kd.R_drew)); exact HO_457001.out) hb); have n2_ := Aside0.mk (blk_below (g := gb452) (o := .cells #[.bool x453000_40, .slice Ao59 x453001_40.length co59] 25 (0, 0)) (by (with_reducible repeat (first | refine blk_drewN ?_ _ | refine blk_drew ?_ | refine blk_alloc ?_ _)); exact BK452.out) hb); have n3_ := Aside0.mk (blk_below (g := gb456) (o := .cells #[.bool x457000_15, u457001] 25 (0, 0)) (by (with_reducible repeat (first | refine blk_drewN ?_ _ | refine blk_drew ?_ | refine blk_alloc ?_ _)); exact BK456.out) hb); have n4_ := Aside0.mk (below_step (by repeat (first | (with_reducible first | exact HB.out | apply below_alloc | apply pw_below_drewN | apply below_drew1 | refine below_set ?_ GE452.out | refine below_set ?_ GE456.out) | exact HB.out)) hb); clear HO_453001; clear HO_457001; clear BK452; clear BK456; clear HB; have HO_453001 := n0_; have HO_457001 := n1_; have BK452 := n2_; have BK456 := n3_; have HB := n4_; clear n0_ n1_ n2_ n3_ n4_; (try clear hb); (try clear hb2); (try clear hk); (try clear hi); have hcz61_0 : w60.cell? ⟨gb452, 0, none⟩ = some (.bool x453000_40) := (blk_cell BK452.out 0).trans rfl; have hcz61_1 : w60.cell? ⟨gb452, 1, none⟩ = some (.slice Ao59 x453001_40.length co59) := (blk_cell BK452.out 1).trans rfl; have hfz61_0 := blk_frozen BK452.out 0; have hfz61_1 := blk_frozen BK452.out 1) | ((with_reducible refine gate_callee (f := 16) rfl ?_); refine goesL_ (some 78) rfl rfl Try.func16 (by kernel_rfl) rfl #[.agg #[.bool x453000_40, .slice Ao59 x453001_40.length co59]] rfl (by (try simp only [List.map_toArray, List.map_cons, List.map_nil]); first | done | rfl | (simp only [List.length_drop, List.length_take]; rfl)) ?_; (with_reducible refine (lock_Missing.calls x453000_40 _ _ x453001_40 t475 t478 _ ?side1 ?side2 A48.out).mono ?_); (case side1 => repeat (first | exact (Kd.R_reads' HO_453001.out).2.2 | (with_reducible refine Kd.C_alloc ?_ _) | (with_reducible refine Kd.C_drewN ?_ _) | (with_reducible refine Kd.C_drew ?_))); (case side2 => exact (Kd.R_reads' HO_453001.out).2.1); rintro e w62 ⟨v476, rfl, ho0, hb⟩; refine ⟨_, rfl, ?_⟩; have n0_ := Aside0.mk (Kd.R_below (by (with_reducible repeat (first | apply Kd.R_alloc | apply Kd.R_drewN | apply Kd.R_drew)); exact HO_453001.out) hb); have n1_ := Aside0.mk (Kd.R_below (by (with_reducible repeat (first | apply Kd.R_alloc | apply Kd.R_drewN | apply Kd.R_drew)); exact HO_457001.out) hb); have n2_ := Aside0.mk (Kd.R_lower ho0 (below_size (by repeat (first | (with_reducible first | exact HB.out | apply below_alloc | apply pw_below_drewN | apply below_drew1 | refine below_set ?_ GE452.out | refine below_set ?_ GE456.out) | exact HB.out)))); have n3_ := Aside0.mk (blk_below (g := gb452) (o := .cells #[.bool x453000_40, .slice Ao59 x453001_40.length co59] 25 (0, 0)) (by (with_reducible repeat (first | refine blk_drewN ?_ _ | refine blk_drew ?_ | refine blk_alloc ?_ _)); exact BK452.out) hb); have n4_ := Aside0.mk (blk_below (g := gb456) (o := .cells #[.bool x457000_15, u457001] 25 (0, 0)) (by (with_reducible repeat (first | refine blk_drewN ?_ _ | refine blk_drew ?_ | refine blk_alloc ?_ _)); exact BK456.out) hb); have n5_ := Aside0.mk (below_step (by repeat (first | (with_reducible first | exact HB.out | apply below_alloc | apply pw_below_drewN | apply below_drew1 | refine below_set ?_ GE452.out | refine below_set ?_ GE456.out) | exact HB.out)) hb); clear HO_453001; clear HO_457001; clear BK452; clear BK456; clear HB; have HO_453001 := n0_; have HO_457001 := n1_; have HO477 := n2_; have BK452 := n3_; have BK456 := n4_; have HB := n5_; clear n0_ n1_ n2_ n3_ n4_ n5_; (try clear hb); (try clear hb2); (try clear hk); (try clear hi); (try clear ho0); have hcz63_0 : w62.cell? ⟨gb452, 0, none⟩ = some (.bool x453000_40) := (blk_cell BK452.out 0).trans rfl; have hcz63_1 : w62.cell? ⟨gb452, 1, none⟩ = some (.slice Ao59 x453001_40.length co59) := (blk_cell BK452.out 1).trans rfl; have hfz63_0 := blk_frozen BK452.out 0; have hfz63_1 := blk_frozen BK452.out 1) | ((with_reducible refine gate_callee (f := 19) rfl ?_); refine goesL_ (some 83) rfl rfl Try.func19 (by kernel_rfl) rfl #[.agg #[.bool x453000_40, .slice Ao59 x453001_40.length co59]] rfl (by (try simp only [List.map_toArray, List.map_cons, List.map_nil]); first | done | rfl | (simp only [List.length_drop, List.length_take]; rfl)) ?_; (with_reducible refine (lock_Open.calls kj40 x453000_40 _ _ x453001_40 t479 t480 _ ?side1 ?side2 A49.out).mono ?_); (case side1 => repeat (first | exact (Kd.R_reads' HO_453001.out).2.2 | (with_reducible refine Kd.C_alloc ?_ _) | (with_reducible refine Kd.C_drewN ?_ _) | (with_reducible refine Kd.C_drew ?_))); (case side2 => exact (Kd.R_reads' HO_453001.out).2.1); rintro e w64 ⟨rfl, hb⟩; refine ⟨_, rfl, ?_⟩; have n0_ := Aside0.mk (Kd.R_below (by (with_reducible repeat (first | apply Kd.R_alloc | apply Kd.R_drewN | apply Kd.R_drew)); exact HO_453001.out) hb); have n1_ := Aside0.mk (Kd.R_below (by (with_reducible repeat (first | apply Kd.R_alloc | apply Kd.R_drewN | apply Kd.R_drew)); exact HO_457001.out) hb); have n2_ := Aside0.mk (Kd.R_below (by (with_reducible repeat (first | apply Kd.R_alloc | apply Kd.R_drewN | apply Kd.R_drew)); exact HO477.out) hb); have n3_ := Aside0.mk (blk_below (g := gb452) (o := .cells #[.bool x453000_40, .slice Ao59 x453001_40.length co59] 25 (0, 0)) (by (with_reducible repeat (first | refine blk_drewN ?_ _ | refine blk_drew ?_ | refine blk_alloc ?_ _)); exact BK452.out) hb); have n4_ := Aside0.mk (blk_below (g := gb456) (o := .cells #[.bool x457000_15, u457001] 25 (0, 0)) (by (with_reducible repeat (first | refine blk_drewN ?_ _ | refine blk_drew ?_ | refine blk_alloc ?_ _)); exact BK456.out) hb); have n5_ := Aside0.mk (below_step (by repeat (first | (with_reducible first | exact HB.out | apply below_alloc | apply pw_below_drewN | apply below_drew1 | refine below_set ?_ GE452.out | refine below_set ?_ GE456.out) | exact HB.out)) hb); clear HO_453001; clear HO_457001; clear HO477; clear BK452; clear BK456; clear HB; have HO_453001 := n0_; have HO_457001 := n1_; have HO477 := n2_; have BK452 := n3_; have BK456 := n4_; have HB := n5_; clear n0_ n1_ n2_ n3_ n4_ n5_; (try clear hb); (try clear hb2); (try clear hk); (try clear hi); have hcz65_0 : w64.cell? ⟨gb452, 0, none⟩ = some (.bool x453000_40) := (blk_cell BK452.out 0).trans rfl; have hcz65_1 : w64.cell? ⟨gb452, 1, none⟩ = some (.slice Ao59 x453001_40.length co59) := (blk_cell BK452.out 1).trans rfl; have hfz65_0 := blk_frozen BK452.out 0; have hfz65_1 := blk_frozen BK452.out 1) | ((with_reducible refine gate_callee (f := 28) rfl ?_); refine goesL_ (some 87) rfl rfl Try.func28 (by kernel_rfl) rfl #[.agg #[.bool x453000_40, .slice Ao59 x453001_40.length co59]] rfl (by (try simp only [List.map_toArray, List.map_cons, List.map_nil]); first | done | rfl | (simp only [List.length_drop, List.length_take]; rfl)) ?_; (with_reducible refine (lock_Check.calls kj40 x453000_40 _ _ x453001_40 t481 _ ?side1 ?side2 A50.out).mono ?_); (case side1 => repeat (first | exact (Kd.R_reads' HO_453001.out).2.2 | (with_reducible refine Kd.C_alloc ?_ _) | (with_reducible refine Kd.C_drewN ?_ _) | (with_reducible refine Kd.C_drew ?_))); (case side2 => exact (Kd.R_reads' HO_453001.out).2.1); rintro e w66 ⟨rfl, hb⟩; refine ⟨_, rfl, ?_⟩; have n0_ := Aside0.mk (Kd.R_below (by (with_reducible repeat (first | apply Kd.R_alloc | apply Kd.R_drewN | apply Kd.R_drew)); exact HO_453001.out) hb); have n1_ := Aside0.mk (Kd.R_below (by (with_reducible repeat (first | apply Kd.R_alloc | apply Kd.R_drewN | apply Kd.R_drew)); exact HO_457001.out) hb); have n2_ := Aside0.mk (Kd.R_below (by (with_reducible repeat (first | apply Kd.R_alloc | apply Kd.R_drewN | apply Kd.R_drew)); exact HO477.out) hb); have n3_ := Aside0.mk (blk_below (g := gb452) (o := .cells #[.bool x453000_40, .slice Ao59 x453001_40.length co59] 25 (0, 0)) (by (with_reducible repeat (first | refine blk_drewN ?_ _ | refine blk_drew ?_ | refine blk_alloc ?_ _)); exact BK452.out) hb); have n4_ := Aside0.mk (blk_below (g := gb456) (o := .cells #[.bool x457000_15, u457001] 25 (0, 0)) (by (with_reducible repeat (first | refine blk_drewN ?_ _ | refine blk_drew ?_ | refine blk_alloc ?_ _)); exact BK456.out) hb); have n5_ := Aside0.mk (below_step (by repeat (first | (with_reducible first | exact HB.out | apply below_alloc | apply pw_below_drewN | apply below_drew1 | refine below_set ?_ GE452.out | refine below_set ?_ GE456.out) | exact HB.out)) hb); clear HO_453001; clear HO_457001; clear HO477; clear BK452; clear BK456; clear HB; have HO_453001 := n0_; have HO_457001 := n1_; have HO477 := n2_; have BK452 := n3_; have BK456 := n4_; have HB := n5_; clear n0_ n1_ n2_ n3_ n4_ n5_; (try clear hb); (try clear hb2); (try clear hk); (try clear hi); obtain ⟨Ao67, co67, eo67⟩ := Kd.R_slice HO477.out; subst eo67))
                      go_roundg kj40
                      case measure => have := HK1.out; have := HJ9.out; have := HJ15.out; have := HJ40.out; omega
                      case rel => exact ⟨(wrap64 (x8_1 + 1)), (x453000_40), (x453001_40), (.slice Ao59 x453001_40.length co59), (by first | rfl | (simp; done) | (simp [*]; done)), H', ⟨by have := HK1.out; have := HJ9.out; have := HJ15.out; have := HJ40.out; omega⟩, ⟨by (with_reducible repeat (first | apply Kd.R_alloc | apply Kd.R_drewN | apply Kd.R_drew)); exact Kd.R_mono HO_453001.out (fun _ hk => trivial)⟩, ⟨by (with_reducible repeat (first | refine blk_drewN ?_ _ | refine blk_drew ?_ | refine blk_alloc ?_ _)); exact BK452.out⟩, ⟨by repeat (first | (with_reducible first | exact HB.out | apply below_alloc | apply pw_below_drewN | apply below_drew1 | refine below_set ?_ GE452.out | refine below_set ?_ GE456.out) | exact HB.out)⟩⟩
                    · replace c56 := Bool.eq_false_iff.mpr c56
                      subst c56
                      have H1 : (if t480 = 0 then (L17_LockValid.l0 kj40 l1 (wrap64 (2 + t446)) (wrap64 (x8_1 + 1)) x453000_40 x453001_40) else (some false)) = some true := by rw [if_neg (show ¬ (false = true) by decide)] at H; exact H
                      clear H
                      have H := H1
                      clear H1
                      by_cases c68 : t480 = 0
                      rotate_left
                      · rw [if_neg c68] at H
                        exact absurd H (by repeat (first | exact never_none | exact never_false | refine never_ite ?_ ?_ | refine never_bind (fun _ => ?_)))
                      rw [if_pos c68] at H
                      have c68b0 : (t480 == 0) = true := beq_iff_eq.mpr c68
                      have c68b1 : (t480 != 0) = false := bne_eq_false_iff_eq.mpr c68
                      clear c68
                      have H' := Aside0.mk H
                      clear H
                      have hnb69 := NB452_456.out
                      have hnc69 := NB456_452.out
                      have hcz70_0 : wc.cell? ⟨gb452, 0, none⟩ = some (.bool x453000_40) := (blk_cell BK452.out 0).trans rfl
                      have hcz70_1 : wc.cell? ⟨gb452, 1, none⟩ = some (u453001) := (blk_cell BK452.out 1).trans rfl
                      have hfz70_0 := blk_frozen BK452.out 0
                      have hfz70_1 := blk_frozen BK452.out 1
                      obtain ⟨Ao71, co71, eo71⟩ := Kd.R_slice HO_453001.out
                      subst eo71
                      go_wp2_with (first | ((with_reducible refine gate_callee (f := 14) rfl ?_); refine goesL_ (some 73) rfl rfl Try.func14 (by kernel_rfl) rfl #[.agg #[.bool x453000_40, .slice Ao71 x453001_40.length co71]] rfl (by (try simp only [List.map_toArray, List.map_cons, List.map_nil]); first | done | rfl | (simp only [List.length_drop, List.length_take]; rfl)) ?_; (with_reducible refine (lock_May.calls x453000_40 _ _ x453001_40 false t474 _ ?side1 ?side2 A47.out).mono ?_); (case side1 => repeat (first | exact (Kd.R_reads' HO_453001.out).2.2 | (with_reducible refine Kd.C_alloc ?_ _) | (with_reducible refine Kd.C_drewN ?_ _) | (with_reducible refine Kd.C_drew ?_))); (case side2 => exact (Kd.R_reads' HO_453001.out).2.1); rintro e w72 ⟨rfl, hb⟩; refine ⟨_, rfl, ?_⟩; have n0_ := Aside0.mk (Kd.R_below (by (with_reducible repeat (first | apply Kd.R_alloc | apply Kd.R_drewN | apply Kd.R_drew)); exact HO_453001.out) hb); have n1_ := Aside0.mk (Kd.R_below (by (with_reducible repeat (first | apply Kd.R_alloc | apply Kd.R_drewN | apply Kd.R_drew)); exact HO_457001.out) hb); have n2_ := Aside0.mk (blk_below (g := gb452) (o := .cells #[.bool x453000_40, .slice Ao71 x453001_40.length co71] 25 (0, 0)) (by (with_reducible repeat (first | refine blk_drewN ?_ _ | refine blk_drew ?_ | refine blk_alloc ?_ _)); exact BK452.out) hb); have n3_ := Aside0.mk (blk_below (g := gb456) (o := .cells #[.bool x457000_15, u457001] 25 (0, 0)) (by (with_reducible repeat (first | refine blk_drewN ?_ _ | refine blk_drew ?_ | refine blk_alloc ?_ _)); exact BK456.out) hb); have n4_ := Aside0.mk (below_step (by repeat (first | (with_reducible first | exact HB.out | apply below_alloc | apply pw_below_drewN | apply below_drew1 | refine below_set ?_ GE452.out | refine below_set ?_ GE456.out) | exact HB.out)) hb); clear HO_453001; clear HO_457001; clear BK452; clear BK456; clear HB; have HO_453001 := n0_; have HO_457001 := n1_; have BK452 := n2_; have BK456 := n3_; have HB := n4_; clear n0_ n1_ n2_ n3_ n4_; (try clear hb); (try clear hb2); (try clear hk); (try clear hi); have hcz73_0 : w72.cell? ⟨gb452, 0, none⟩ = some (.bool x453000_40) := (blk_cell BK452.out 0).trans rfl; have hcz73_1 : w72.cell? ⟨gb452, 1, none⟩ = some (.slice Ao71 x453001_40.length co71) := (blk_cell BK452.out 1).trans rfl; have hfz73_0 := blk_frozen BK452.out 0; have hfz73_1 := blk_frozen BK452.out 1) | ((with_reducible refine gate_callee (f := 16) rfl ?_); refine goesL_ (some 78) rfl rfl Try.func16 (by kernel_rfl) rfl #[.agg #[.bool x453000_40, .slice Ao71 x453001_40.length co71]] rfl (by (try simp only [List.map_toArray, List.map_cons, List.map_nil]); first | done | rfl | (simp only [List.length_drop, List.length_take]; rfl)) ?_; (with_reducible refine (lock_Missing.calls x453000_40 _ _ x453001_40 t475 t478 _ ?side1 ?side2 A48.out).mono ?_); (case side1 => repeat (first | exact (Kd.R_reads' HO_453001.out).2.2 | (with_reducible refine Kd.C_alloc ?_ _) | (with_reducible refine Kd.C_drewN ?_ _) | (with_reducible refine Kd.C_drew ?_))); (case side2 => exact (Kd.R_reads' HO_453001.out).2.1); rintro e w74 ⟨v476, rfl, ho0, hb⟩; refine ⟨_, rfl, ?_⟩; have n0_ := Aside0.mk (Kd.R_below (by (with_reducible repeat (first | apply Kd.R_alloc | apply Kd.R_drewN | apply Kd.R_drew)); exact HO_453001.out) hb); have n1_ := Aside0.mk (Kd.R_below (by (with_reducible repeat (first | apply Kd.R_alloc | apply Kd.R_drewN | apply Kd.R_drew)); exact HO_457001.out) hb); have n2_ := Aside0.mk (Kd.R_lower ho0 (below_size (by repeat (first | (with_reducible first | exact HB.out | apply below_alloc | apply pw_below_drewN | apply below_drew1 | refine below_set ?_ GE452.out | refine below_set ?_ GE456.out) | exact HB.out)))); have n3_ := Aside0.mk (blk_below (g := gb452) (o := .cells #[.bool x453000_40, .slice Ao71 x453001_40.length co71] 25 (0, 0)) (by (with_reducible repeat (first | refine blk_drewN ?_ _ | refine blk_drew ?_ | refine blk_alloc ?_ _)); exact BK452.out) hb); have n4_ := Aside0.mk (blk_below (g := gb456) (o := .cells #[.bool x457000_15, u457001] 25 (0, 0)) (by (with_reducible repeat (first | refine blk_drewN ?_ _ | refine blk_drew ?_ | refine blk_alloc ?_ _)); exact BK456.out) hb); have n5_ := Aside0.mk (below_step (by repeat (first | (with_reducible first | exact HB.out | apply below_alloc | apply pw_below_drewN | apply below_drew1 | refine below_set ?_ GE452.out | refine below_set ?_ GE456.out) | exact HB.out)) hb); clear HO_453001; clear HO_457001; clear BK452; clear BK456; clear HB; have HO_453001 := n0_; have HO_457001 := n1_; have HO477 := n2_; have BK452 := n3_; have BK456 := n4_; have HB := n5_; clear n0_ n1_ n2_ n3_ n4_ n5_; (try clear hb); (try clear hb2); (try clear hk); (try clear hi); (try clear ho0); have hcz75_0 : w74.cell? ⟨gb452, 0, none⟩ = some (.bool x453000_40) := (blk_cell BK452.out 0).trans rfl; have hcz75_1 : w74.cell? ⟨gb452, 1, none⟩ = some (.slice Ao71 x453001_40.length co71) := (blk_cell BK452.out 1).trans rfl; have hfz75_0 := blk_frozen BK452.out 0; have hfz75_1 := blk_frozen BK452.out 1) | ((with_reducible refine gate_callee (f := 19) rfl ?_); refine goesL_ (some 83) rfl rfl Try.func19 (by kernel_rfl) rfl #[.agg #[.bool x453000_40, .slice Ao71 x453001_40.length co71]] rfl (by (try simp only [List.map_toArray, List.map_cons, List.map_nil]); first | done | rfl | (simp only [List.length_drop, List.length_take]; rfl)) ?_; (with_reducible refine (lock_Open.calls kj40 x453000_40 _ _ x453001_40 t479 t480 _ ?side1 ?side2 A49.out).mono ?_); (case side1 => repeat (first | exact (Kd.R_reads' HO_453001.out).2.2 | (with_reducible refine Kd.C_alloc ?_ _) | (with_reducible refine Kd.C_drewN ?_ _) | (with_reducible refine Kd.C_drew ?_))); (case side2 => exact (Kd.R_reads' HO_453001.out).2.1); rintro e w76 ⟨rfl, hb⟩; refine ⟨_, rfl, ?_⟩; have n0_ := Aside0.mk (Kd.R_below (by (with_reducible repeat (first | apply Kd.R_alloc | apply Kd.R_drewN | apply Kd.R_drew)); exact HO_453001.out) hb); have n2_ := Aside0.mk (Kd.R_below (by (with_reducible repeat (first | apply Kd.R_alloc | apply Kd.R_drewN | apply Kd.R_drew)); exact HO477.out) hb); have n3_ := Aside0.mk (blk_below (g := gb452) (o := .cells #[.bool x453000_40, .slice Ao71 x453001_40.length co71] 25 (0, 0)) (by (with_reducible repeat (first | refine blk_drewN ?_ _ | refine blk_drew ?_ | refine blk_alloc ?_ _)); exact BK452.out) hb); have n5_ := Aside0.mk (below_step (by repeat (first | (with_reducible first | exact HB.out | apply below_alloc | apply pw_below_drewN | apply below_drew1 | refine below_set ?_ GE452.out | refine below_set ?_ GE456.out) | exact HB.out)) hb); clear HO_453001; clear HO_457001; clear HO477; clear BK452; clear BK456; clear HB; have HO_453001 := n0_; have HO477 := n2_; have BK452 := n3_; have HB := n5_; clear n0_ n2_ n3_ n5_; (try clear hb); (try clear hb2); (try clear hk); (try clear hi); have hcz77_0 : w76.cell? ⟨gb452, 0, none⟩ = some (.bool x453000_40) := (blk_cell BK452.out 0).trans rfl; have hcz77_1 : w76.cell? ⟨gb452, 1, none⟩ = some (.slice Ao71 x453001_40.length co71) := (blk_cell BK452.out 1).trans rfl; have hfz77_0 := blk_frozen BK452.out 0; have hfz77_1 := blk_frozen BK452.out 1) | ((with_reducible refine gate_callee (f := 28) rfl ?_); refine goesL_ (some 87) rfl rfl Try.func28 (by kernel_rfl) rfl #[.agg #[.bool x453000_40, .slice Ao71 x453001_40.length co71]] rfl (by (try simp only [List.map_toArray, List.map_cons, List.map_nil]); first | done | rfl | (simp only [List.length_drop, List.length_take]; rfl)) ?_; (with_reducible refine (lock_Check.calls kj40 x453000_40 _ _ x453001_40 t481 _ ?side1 ?side2 A50.out).mono ?_); (case side1 => repeat (first | exact (Kd.R_reads' HO_453001.out).2.2 | (with_reducible refine Kd.C_alloc ?_ _) | (with_reducible refine Kd.C_drewN ?_ _) | (with_reducible refine Kd.C_drew ?_))); (case side2 => exact (Kd.R_reads' HO_453001.out).2.1); rintro e w78 ⟨rfl, hb⟩; refine ⟨_, rfl, ?_⟩; have n0_ := Aside0.mk (Kd.R_below (by (with_reducible repeat (first | apply Kd.R_alloc | apply Kd.R_drewN | apply Kd.R_drew)); exact HO_453001.out) hb); have n2_ := Aside0.mk (Kd.R_below (by (with_reducible repeat (first | apply Kd.R_alloc | apply Kd.R_drewN | apply Kd.R_drew)); exact HO477.out) hb); have n3_ := Aside0.mk (blk_below (g := gb452) (o := .cells #[.bool x453000_40, .slice Ao71 x453001_40.length co71] 25 (0, 0)) (by (with_reducible repeat (first | refine blk_drewN ?_ _ | refine blk_drew ?_ | refine blk_alloc ?_ _)); exact BK452.out) hb); have n5_ := Aside0.mk (below_step (by repeat (first | (with_reducible first | exact HB.out | apply below_alloc | apply pw_below_drewN | apply below_drew1 | refine below_set ?_ GE452.out | refine below_set ?_ GE456.out) | exact HB.out)) hb); clear HO_453001; clear HO477; clear BK452; clear HB; have HO_453001 := n0_; have HO477 := n2_; have BK452 := n3_; have HB := n5_; clear n0_ n2_ n3_ n5_; (try clear hb); (try clear hb2); (try clear hk); (try clear hi); obtain ⟨Ao79, co79, eo79⟩ := Kd.R_slice HO477.out; subst eo79))
                      go_roundg kj40
                      case measure => have := HK1.out; have := HJ9.out; have := HJ15.out; have := HJ40.out; omega
                      case rel => exact ⟨(wrap64 (x8_1 + 1)), (x453000_40), (x453001_40), (.slice Ao71 x453001_40.length co71), (by first | rfl | (simp; done) | (simp [*]; done)), H', ⟨by have := HK1.out; have := HJ9.out; have := HJ15.out; have := HJ40.out; omega⟩, ⟨by (with_reducible repeat (first | apply Kd.R_alloc | apply Kd.R_drewN | apply Kd.R_drew)); exact Kd.R_mono HO_453001.out (fun _ hk => trivial)⟩, ⟨by (with_reducible repeat (first | refine blk_drewN ?_ _ | refine blk_drew ?_ | refine blk_alloc ?_ _)); exact BK452.out⟩, ⟨by repeat (first | (with_reducible first | exact HB.out | apply below_alloc | apply pw_below_drewN | apply below_drew1 | refine below_set ?_ GE452.out | refine below_set ?_ GE456.out) | exact HB.out)⟩⟩
          · replace c12 := Bool.eq_false_iff.mpr c12
            subst c12
            have H1 : ((L17_awake.f).bind fun t453 => (some t453)) = some true := by rw [if_neg (show ¬ (false = true) by decide)] at H; exact H
            clear H
            have H := H1
            clear H1
            replace H := Option.bind_eq_some_iff.mp H
            obtain ⟨t453, A800, H⟩ := H
            replace H : (some t453) = some true := H
            have A80 := Aside0.mk A800
            clear A800
            have Ht_ := Option.some.inj H
            clear H
            subst Ht_
            have H : (some true : Option Bool) = some true := rfl
            clear H
            go_wp2_with (first | ((with_reducible refine gate_callee (f := 10) rfl ?_); refine goesL_ (some 118) rfl rfl Try.func10 (by kernel_rfl) rfl #[] rfl (by (try simp only [List.map_toArray, List.map_cons, List.map_nil]); first | done | rfl | (simp only [List.length_drop, List.length_take]; rfl)) ?_; (with_reducible refine (L17_awake.calls  true _ A80.out).mono ?_); rintro e w81 ⟨rfl, hb⟩; refine ⟨_, rfl, ?_⟩; have n2_ := Aside0.mk (below_step (by repeat (first | (with_reducible first | exact HB.out | apply below_alloc | apply pw_below_drewN | apply below_drew1 | refine below_set ?_ GE452.out) | exact HB.out)) hb); clear HO_453001; clear BK452; clear HB; have HB := n2_; clear n2_; (try clear hb); (try clear hb2); (try clear hk); (try clear hi)))
            all_goals go_ret
            all_goals exact ⟨by first | rfl | (simp [errW_none, errW_some] <;> rfl) | (simp [*, errW_none, errW_some] <;> rfl), by repeat (first | (with_reducible first | exact HB.out | apply below_alloc | apply pw_below_drewN | apply below_drew1 | refine below_set ?_ GE452.out) | exact HB.out)⟩

/-- THE ONE PURE STATEMENT of L17_LockValid: yours. -/
def L17_LockValid.Pure : Prop := ∀ (a0 : Int) (l1 : List Int), (Lit.int .i64 a0).wf = true → l1.length ≤ maxLen → l1.length * 8 ≤ 140737488351232 → (∀ x ∈ l1, (Lit.int .i64 x).wf = true) → ∃ k, L17_LockValid.f k a0 l1 = some true
theorem L17_LockValid.walk (P : L17_LockValid.Pure) (a0 : Int) (a1 : Option Addr) (len1 cap1 : Nat) (z1 : List Int) (w : World) (w0 : (Lit.int .i64 a0).wf = true) (w1 : (a1 = none ∧ len1 = 0 ∧ cap1 = 0 ∧ z1 = []) ∨ ∃ x, a1 = some x ∧ len1 ≤ cap1 ∧ cap1 ≤ maxLen ∧ z1.length = cap1 ∧ (∀ i, i < z1.length → w.cell? (x.add i) = some (.int .i64 (z1.getD i 0))) ∧ ∀ n ∈ z1, (Lit.int .i64 n).wf = true) (y1 : len1 * 8 ≤ 140737488351232) :
    Calls Try.prog 7 #[.int .i64 a0, .slice a1 len1 cap1] w fun e w' => e = .returned (.bool true) ∧ Below w.heap.size w w' := by
  obtain ⟨l1, rfl, hr1, hm1, hw1, hc1⟩ := ReadsInt.ofRowC w1
  obtain ⟨k, h⟩ := P a0 l1 w0 hm1 y1 hw1
  refine (L17_LockValid.calls k a0 _ _ l1 true w (Kd.C_of_reads (d := (0 : Int)) (h1 := fun _ => rfl) hr1) hc1 h).mono ?_
  rintro e w' ⟨rfl, hd⟩
  exact ⟨rfl, hd⟩

end Go.Proofs.Ytdkabbjknclifaa.F
end
section
namespace Go.Proofs.Ytdkabbjknclifaa.Pure
open Go.RowKit Go.Proofs.Ytdkabbjknclifaa.F Go.Proofs.YtdkabbjknclifaaW.PrintWords Go.Proofs.YtdkabbjknclifaaW.PrintLast
set_option linter.unusedVariables false
set_option linter.unusedSimpArgs false
theorem w64s {x : Int} (h0 : -100000 ≤ x) (h1 : x ≤ 100000) : wrap64 x = x := by unfold wrap64; omega
end Go.Proofs.Ytdkabbjknclifaa.Pure
end
section
namespace Go.Proofs.Ytdkabbjknclifaa.Pure
open Go.RowKit Go.Proofs.Ytdkabbjknclifaa.F Go.Proofs.YtdkabbjknclifaaW.PrintWords Go.Proofs.YtdkabbjknclifaaW.PrintLast
set_option linter.unusedVariables false
set_option linter.unusedSimpArgs false
theorem w64n {i : Nat} (h : i ≤ 90000) : wrap64 ((i : Int) + 1) = ((i + 1 : Nat) : Int) := by rw [w64s (by omega) (by omega)]; omega
end Go.Proofs.Ytdkabbjknclifaa.Pure
end
