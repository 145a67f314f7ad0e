/- Part 1 of LockBack: what the functions reckon, step by step, and plain laws. No condition. -/
import Derived.Test.YtdkabbjknclifaaKL17x2
section
namespace Go.Proofs.Ytdkabbjknclifaa.F
open Go.RowKit Go.Proofs.YtdkabbjknclifaaW.PrintWords Go.Proofs.YtdkabbjknclifaaW.PrintLast Go.Proofs.YtdkabbjknclifaaW.PrintMore
attribute [local go_sem] max2_int min2_int max_two min_two max_three min_three max_four min_four
set_option linter.unusedVariables false
set_option linter.unusedSimpArgs false
theorem eqA28 (d : Nat) (w : World) (x0 y0 : Int) (x1 y1 : Int) :
    (Op.equalIn (d + 2) 28 (.agg #[.int .i64 x0, .int .i64 x1]) (.agg #[.int .i64 y0, .int .i64 y1])).run Try.prog w = .ok (x0 == y0 && (x1 == y1)) w := by
  refine eqA_of Try.underlying28 (by kernel_rfl) ?_
  refine eqf_cons (by rfl) (by go_simp; rfl) (by go_simp; rfl) (by go_simp) ?_
  exact eqf_last (by rfl) (by go_simp; rfl) (by go_simp; rfl) (by go_simp)
end Go.Proofs.Ytdkabbjknclifaa.F
end
section
-- Written by fork.py (this session's program over the kit's print.py). Not trusted: Lean checks it.
namespace Go.Proofs.Ytdkabbjknclifaa.F
open Go.RowKit Go.Proofs.YtdkabbjknclifaaW.PrintWords Go.Proofs.YtdkabbjknclifaaW.PrintLast Go.Proofs.YtdkabbjknclifaaW.PrintMore
attribute [local go_sem] max2_int min2_int max_two min_two max_three min_three max_four min_four
set_option linter.unusedVariables false
set_option linter.unusedSimpArgs false

/-! ### K_SameBools: function 40 -/
def K_SameBools.l0 : Nat → List Bool → List Bool → Int → Option (Bool)
  | 0, _, _, _ => none
  | k + 1, x0, x1, x5 => if x5 < (x0.length : Int) then (if 0 ≤ x5 then (if x5 < (x1.length : Int) then (if ((rdOf false x0 x5) != (rdOf false x1 x5)) = true then (some false) else (K_SameBools.l0 k x0 x1 (wrap64 (x5 + 1)))) else (none)) else (none)) else (some true)
def K_SameBools.f (k : Nat) (l0 : List Bool) (l1 : List Bool) : Option (Bool) := if (l0.length : Int) = (l1.length : Int) then (K_SameBools.l0 k l0 l1 0) else (some false)
theorem K_SameBools.mono_l : ∀ k, (∀ y0 y1 y2, LeO (K_SameBools.l0 k y0 y1 y2) (K_SameBools.l0 (k + 1) y0 y1 y2))
  | 0 => fun _ _ _ r h => by simp [K_SameBools.l0] at h
  | k + 1 => by
    have ih0 := K_SameBools.mono_l k
    · intro y0 y1 y2
      unfold K_SameBools.l0
      repeat' first
      | (with_reducible exact ih0 _ _ _)
      | (with_reducible exact LeO.refl _)
      | (with_reducible exact LeO.none _)
      | (with_reducible refine LeO.ite ?_ ?_)
      | (with_reducible refine LeO.bind ?_ (fun _ => ?_))
      | exact ih0 _ _ _
      | exact LeO.none _
      | refine LeO.ite ?_ ?_
      | refine LeO.bind ?_ (fun _ => ?_)
theorem K_SameBools.mono : ∀ a0 a1 k, LeO (K_SameBools.f k a0 a1) (K_SameBools.f (k + 1) a0 a1) := by
  intro a0 a1 k
  have ih0 := K_SameBools.mono_l k
  unfold K_SameBools.f
  repeat' first
      | (with_reducible exact ih0 _ _ _)
      | (with_reducible exact LeO.refl _)
      | (with_reducible exact LeO.none _)
      | (with_reducible refine LeO.ite ?_ ?_)
      | (with_reducible refine LeO.bind ?_ (fun _ => ?_))
      | exact ih0 _ _ _
      | exact LeO.none _
      | refine LeO.ite ?_ ?_
      | refine LeO.bind ?_ (fun _ => ?_)
set_option maxHeartbeats 8000000 in
set_option maxRecDepth 100000 in
theorem K_SameBools.calls (k : Nat) (A0 : Option Addr) (c0 : Nat) (l0 : List Bool) (A1 : Option Addr) (c1 : Nat) (l1 : List Bool) (r : Bool) (w : World) (hr0 : Kd.C Kd.bool w A0 l0.length l0) (hc0 : l0.length ≤ c0) (hr1 : Kd.C Kd.bool w A1 l1.length l1) (hc1 : l1.length ≤ c1) (h : K_SameBools.f k l0 l1 = some r) :
    Calls Try.prog 40 #[.slice A0 l0.length c0, .slice A1 l1.length c1] w fun e w' => e = .returned (.bool r) ∧ Drawn0 w w' := by
  have HR0 := Aside0.mk hr0
  have HC0 := Aside0.mk hc0
  clear hr0 hc0
  have HR1 := Aside0.mk hr1
  have HC1 := Aside0.mk hc1
  clear hr1 hc1
  have H : (if (l0.length : Int) = (l1.length : Int) then (K_SameBools.l0 k l0 l1 0) else (some false)) = some r := h
  clear h
  by_cases c3 : (l0.length : Int) = (l1.length : Int)
  · rw [if_pos c3] at H
    have c3b0 : ((l0.length : Int) == (l1.length : Int)) = true := beq_iff_eq.mpr c3
    have c3b1 : ((l0.length : Int) != (l1.length : Int)) = false := bne_eq_false_iff_eq.mpr c3
    have c3b2 : (l0.length == l1.length) = true := by first | simpa using c3 | (simp at c3 ⊢; omega)
    clear c3
    have H' := Aside0.mk H
    clear H
    go_enter Try.func40, Try.ntmps40
    go_wp2
    repeat (go_quiet (fail); try go_wp2)
    go_loopg [5] k (fun kq v5 w' => ∃ (x5_1 : Int), v5 = .int .i64 x5_1 ∧ Aside0 (K_SameBools.l0 kq l0 l1 x5_1 = some r) ∧ Aside0 (kq ≤ k) ∧ Drawn0 w w')
    case atStart => exact ⟨(0), (by first | rfl | (simp; done) | (simp [*]; done)), H', ⟨Nat.le_refl _⟩, by repeat (first | exact Drawn0.refl _ | apply Drawn0.step)⟩
    case round =>
      clear H'
      try clear c1
      try clear p2
      try clear c3
      try clear c3b0
      try clear c3b1
      try clear c3b2
      obtain ⟨x5_1, rfl, HA, HK1, ⟨m1, rfl⟩⟩ := hrel
      cases gk with
      | zero => exact absurd HA.out (by simp [K_SameBools.l0])
      | succ k1 =>
        have H := HA.out
        clear HA
        simp only [K_SameBools.l0] at H
        by_cases c4 : x5_1 < (l0.length : Int)
        · rw [if_pos c4] at H
          have c4b0 : decide (x5_1 < (l0.length : Int)) = true := decide_eq_true c4
          clear c4
          by_cases c5 : 0 ≤ x5_1
          · rw [if_pos c5] at H
            have c5b0 : decide (0 ≤ x5_1) = true := decide_eq_true c5
            clear c5
            by_cases c6 : x5_1 < (l1.length : Int)
            · rw [if_pos c6] at H
              have c6b0 : decide (x5_1 < (l1.length : Int)) = true := decide_eq_true c6
              clear c6
              by_cases c7 : ((rdOf false l0 x5_1) != (rdOf false l1 x5_1)) = true
              · rw [if_pos c7] at H
                have c7b0 : ((rdOf false l0 x5_1) != (rdOf false l1 x5_1)) = true := c7
                (try (have c7b1 : decide ((rdOf false l0 x5_1) = (rdOf false l1 x5_1)) = false := by simpa using c7))
                (try (have c7b2 : ((rdOf false l0 x5_1) == (rdOf false l1 x5_1)) = false := by simpa using c7))
                (try (have c7b3 : ¬ ((rdOf false l0 x5_1) = (rdOf false l1 x5_1)) := by simpa using c7))
                clear c7
                obtain rfl := Option.some.inj H
                have p157 : 0 ≤ (x5_1 : Int) := of_decide_eq_true (by first | (with_reducible assumption) | assumption)
                have q157 : x5_1 < (l0.length : Int) := of_decide_eq_true (by first | (with_reducible assumption) | assumption)
                obtain ⟨ad157, e157, hx157_0⟩ := Kd.at_bool HR0.out x5_1 p157 q157
                cases e157
                replace p157 := eq_true p157
                replace q157 := eq_true q157
                have p158 : 0 ≤ (x5_1 : Int) := of_decide_eq_true (by first | (with_reducible assumption) | assumption)
                have q158 : x5_1 < (l1.length : Int) := of_decide_eq_true (by first | (with_reducible assumption) | assumption)
                obtain ⟨ad158, e158, hx158_0⟩ := Kd.at_bool HR1.out x5_1 p158 q158
                cases e158
                replace p158 := eq_true p158
                replace q158 := eq_true q158
                go_wp2
                repeat (go_quiet (fail); try go_wp2)
                all_goals go_ret
                all_goals exact ⟨by first | rfl | (simp; done) | (simp [*]; done), by repeat (first | exact Drawn0.refl _ | apply Drawn0.step)⟩
              · rw [if_neg c7] at H
                have c7b0 : ((rdOf false l0 x5_1) != (rdOf false l1 x5_1)) = false := by simpa using c7
                (try (have c7b1 : decide ((rdOf false l0 x5_1) = (rdOf false l1 x5_1)) = true := by simpa using c7))
                (try (have c7b2 : ((rdOf false l0 x5_1) == (rdOf false l1 x5_1)) = true := by simpa using c7))
                clear c7
                have H' := Aside0.mk H
                clear H
                have p157 : 0 ≤ (x5_1 : Int) := of_decide_eq_true (by first | (with_reducible assumption) | assumption)
                have q157 : x5_1 < (l0.length : Int) := of_decide_eq_true (by first | (with_reducible assumption) | assumption)
                obtain ⟨ad157, e157, hx157_0⟩ := Kd.at_bool HR0.out x5_1 p157 q157
                cases e157
                replace p157 := eq_true p157
                replace q157 := eq_true q157
                have p158 : 0 ≤ (x5_1 : Int) := of_decide_eq_true (by first | (with_reducible assumption) | assumption)
                have q158 : x5_1 < (l1.length : Int) := of_decide_eq_true (by first | (with_reducible assumption) | assumption)
                obtain ⟨ad158, e158, hx158_0⟩ := Kd.at_bool HR1.out x5_1 p158 q158
                cases e158
                replace p158 := eq_true p158
                replace q158 := eq_true q158
                go_wp2
                repeat (go_quiet (fail); try go_wp2)
                go_roundg k1
                case measure => have := HK1.out; omega
                case rel => exact ⟨(wrap64 (x5_1 + 1)), (by first | rfl | (simp; done) | (simp [*]; done)), H', ⟨by have := HK1.out; omega⟩, by repeat (first | exact Drawn0.refl _ | apply Drawn0.step)⟩
            · rw [if_neg c6] at H
              exact absurd H (by simp)
          · rw [if_neg c5] at H
            exact absurd H (by simp)
        · rw [if_neg c4] at H
          have c4b0 : decide (x5_1 < (l0.length : Int)) = false := decide_eq_false c4
          clear c4
          obtain rfl := Option.some.inj H
          go_wp2
          repeat (go_quiet (fail); try go_wp2)
          all_goals go_ret
          all_goals exact ⟨by first | rfl | (simp; done) | (simp [*]; done), by repeat (first | exact Drawn0.refl _ | apply Drawn0.step)⟩
  · rw [if_neg c3] at H
    have c3b0 : ((l0.length : Int) == (l1.length : Int)) = false := beq_eq_false_iff_ne.mpr c3
    have c3b1 : ((l0.length : Int) != (l1.length : Int)) = true := bne_iff_ne.mpr c3
    have c3b2 : (l0.length == l1.length) = false := by first | simpa using c3 | (simp at c3 ⊢; omega)
    obtain rfl := Option.some.inj H
    go_enter Try.func40, Try.ntmps40
    go_wp2
    repeat (go_quiet (fail); try go_wp2)
    all_goals go_ret
    all_goals exact ⟨by first | rfl | (simp; done) | (simp [*]; done), by repeat (first | exact Drawn0.refl _ | apply Drawn0.step)⟩

end Go.Proofs.Ytdkabbjknclifaa.F
end
section
-- Written by fork.py (this session's program over the kit's print.py). Not trusted: Lean checks it.
namespace Go.Proofs.Ytdkabbjknclifaa.F
open Go.RowKit Go.Proofs.YtdkabbjknclifaaW.PrintWords Go.Proofs.YtdkabbjknclifaaW.PrintLast Go.Proofs.YtdkabbjknclifaaW.PrintMore
attribute [local go_sem] max2_int min2_int max_two min_two max_three min_three max_four min_four
set_option linter.unusedVariables false
set_option linter.unusedSimpArgs false

/-! ### K_SameChain: function 13 -/
def K_SameChain.f (k : Nat) (a0_0 : Bool) (l0_1 : List Bool) (a1_0 : Bool) (l1_1 : List Bool) : Option (Bool) := if (a0_0 == a1_0) = true then ((K_SameBools.f k l0_1 l1_1).bind fun t161 => (some t161)) else (some false)
theorem K_SameChain.mono : ∀ a0 a1 a2 a3 k, LeO (K_SameChain.f k a0 a1 a2 a3) (K_SameChain.f (k + 1) a0 a1 a2 a3) := by
  intro a0 a1 a2 a3 k
  unfold K_SameChain.f
  repeat' first
      | (with_reducible exact K_SameBools.mono _ _ _)
      | (with_reducible exact LeO.refl _)
      | (with_reducible exact LeO.none _)
      | (with_reducible refine LeO.ite ?_ ?_)
      | (with_reducible refine LeO.bind ?_ (fun _ => ?_))
      | exact K_SameBools.mono _ _ _
      | exact LeO.none _
      | refine LeO.ite ?_ ?_
      | refine LeO.bind ?_ (fun _ => ?_)
set_option maxHeartbeats 8000000 in
set_option maxRecDepth 100000 in
theorem K_SameChain.calls (k : Nat) (a0_0 : Bool) (A0_1 : Option Addr) (c0_1 : Nat) (l0_1 : List Bool) (a1_0 : Bool) (A1_1 : Option Addr) (c1_1 : Nat) (l1_1 : List Bool) (r : Bool) (w : World) (hr0_1 : Kd.C Kd.bool w A0_1 l0_1.length l0_1) (hc0_1 : l0_1.length ≤ c0_1) (hr1_1 : Kd.C Kd.bool w A1_1 l1_1.length l1_1) (hc1_1 : l1_1.length ≤ c1_1) (h : K_SameChain.f k a0_0 l0_1 a1_0 l1_1 = some r) :
    Calls Try.prog 13 #[.agg #[.bool a0_0, .slice A0_1 l0_1.length c0_1], .agg #[.bool a1_0, .slice A1_1 l1_1.length c1_1]] w fun e w' => e = .returned (.bool r) ∧ Below w.heap.size w w' := by
  have hu25 := Try.underlying25
  have HR0_1 := Aside0.mk hr0_1
  have HC0_1 := Aside0.mk hc0_1
  clear hr0_1 hc0_1
  have HR1_1 := Aside0.mk hr1_1
  have HC1_1 := Aside0.mk hc1_1
  clear hr1_1 hc1_1
  have HB := Aside0.mk (Below.refl w.heap.size w)
  have H : (if (a0_0 == a1_0) = true then ((K_SameBools.f k l0_1 l1_1).bind fun t161 => (some t161)) else (some false)) = some r := h
  clear h
  by_cases c3 : (a0_0 == a1_0) = true
  · rw [if_pos c3] at H
    have c3b0 : (a0_0 == a1_0) = true := c3
    (try (have c3b1 : decide (a0_0 = a1_0) = true := by simpa using c3))
    (try (have c3b2 : (a0_0 == a1_0) = true := by simpa using c3))
    clear c3
    replace H := Option.bind_eq_some_iff.mp H
    obtain ⟨t161, A40, H⟩ := H
    replace H : (some t161) = some r := H
    have A4 := Aside0.mk A40
    clear A40
    obtain rfl := Option.some.inj H
    go_enter Try.func13, Try.ntmps13
    go_wp2_with (first | ((with_reducible refine gate_dst (N := 2) rfl ?_); refine box_event ?hg (N := 2) ?hd (cs := #[.bool a0_0, .slice A0_1 l0_1.length c0_1]) (t := 25) ?hr ?_; (case hd => rfl); (case hg => rfl); (case hr => first | (go_simp; done) | (go_simp; rfl)); intro gb159 hg w5 hbox hb; have n0_ := Aside0.mk (below_step (by repeat (first | (with_reducible first | exact HB.out | apply below_alloc | apply pw_below_drewN | apply below_drew1) | exact HB.out)) hb); have n1_ := Aside0.mk (hbox); have n2_ := Aside0.mk ((by rw [hg]; exact (below_size (by repeat (first | (with_reducible first | exact HB.out | apply below_alloc | apply pw_below_drewN | apply below_drew1) | exact HB.out))) : w.heap.size ≤ gb159)); have n3_ := Aside0.mk ((by rw [hg]; exact (below_size (by repeat (first | (with_reducible first | exact HB.out | apply below_alloc | apply pw_below_drewN | apply below_drew1) | exact HB.out))) : w.heap.size ≤ gb159)); clear HB; have HB := n0_; have BK159 := n1_; have GW159 := n2_; have GE159 := n3_; clear n0_ n1_ n2_ n3_; clear hb hbox hg) | ((with_reducible refine gate_dst (N := 3) rfl ?_); refine box_event ?hg (N := 3) ?hd (cs := #[.bool a1_0, .slice A1_1 l1_1.length c1_1]) (t := 25) ?hr ?_; (case hd => rfl); (case hg => rfl); (case hr => first | (go_simp; done) | (go_simp; rfl)); intro gb160 hg w6 hbox hb; have n0_ := Aside0.mk (blk_below (g := gb159) (o := .cells #[.bool a0_0, .slice A0_1 l0_1.length c0_1] 25 (0, 0)) (by (with_reducible repeat (first | refine blk_drewN ?_ _ | refine blk_drew ?_ | refine blk_alloc ?_ _)); exact BK159.out) hb); have n1_ := Aside0.mk (below_step (by repeat (first | (with_reducible first | exact HB.out | apply below_alloc | apply pw_below_drewN | apply below_drew1 | refine below_set ?_ GE159.out) | exact HB.out)) hb); have n2_ := Aside0.mk (hbox); have n3_ := Aside0.mk ((by rw [hg]; exact (below_size (by repeat (first | (with_reducible first | exact HB.out | apply below_alloc | apply pw_below_drewN | apply below_drew1 | refine below_set ?_ GE159.out) | exact HB.out))) : w.heap.size ≤ gb160)); have n4_ := Aside0.mk ((by rw [hg]; exact (below_size (by repeat (first | (with_reducible first | exact HB.out | apply below_alloc | apply pw_below_drewN | apply below_drew1 | refine below_set ?_ GE159.out) | exact HB.out))) : w.heap.size ≤ gb160)); have n5_ := Aside0.mk ((by rw [hg]; exact Nat.ne_of_lt (blk_lt (g := gb159) (o := .cells #[.bool a0_0, .slice A0_1 l0_1.length c0_1] 25 (0, 0)) (by (with_reducible repeat (first | refine blk_drewN ?_ _ | refine blk_drew ?_ | refine blk_alloc ?_ _)); exact BK159.out)) : gb159 ≠ gb160)); have n6_ := Aside0.mk ((by rw [hg]; exact Nat.ne_of_gt (blk_lt (g := gb159) (o := .cells #[.bool a0_0, .slice A0_1 l0_1.length c0_1] 25 (0, 0)) (by (with_reducible repeat (first | refine blk_drewN ?_ _ | refine blk_drew ?_ | refine blk_alloc ?_ _)); exact BK159.out)) : gb160 ≠ gb159)); clear BK159; clear HB; have BK159 := n0_; have HB := n1_; have BK160 := n2_; have GW160 := n3_; have GE160 := n4_; have NB159_160 := n5_; have NB160_159 := n6_; clear n0_ n1_ n2_ n3_ n4_ n5_ n6_; clear hb hbox hg; have hnb7 := NB159_160.out; have hnc7 := NB160_159.out; have hcz8_0 : w6.cell? ⟨gb159, 0, none⟩ = some (.bool a0_0) := (blk_cell BK159.out 0).trans rfl; have hcz8_1 : w6.cell? ⟨gb159, 1, none⟩ = some (.slice A0_1 l0_1.length c0_1) := (blk_cell BK159.out 1).trans rfl; have hfz8_0 := blk_frozen BK159.out 0; have hfz8_1 := blk_frozen BK159.out 1; have hcz9_0 : w6.cell? ⟨gb160, 0, none⟩ = some (.bool a1_0) := (blk_cell BK160.out 0).trans rfl; have hcz9_1 : w6.cell? ⟨gb160, 1, none⟩ = some (.slice A1_1 l1_1.length c1_1) := (blk_cell BK160.out 1).trans rfl; have hfz9_0 := blk_frozen BK160.out 0; have hfz9_1 := blk_frozen BK160.out 1) | ((with_reducible refine gate_callee (f := 40) rfl ?_); (with_reducible refine gate_dst (N := 15) rfl ?_); refine gate_guard (by rfl) ?_; dsimp only; refine goesL_ (some 15) rfl rfl Try.func40 (by kernel_rfl) rfl #[.slice A0_1 l0_1.length c0_1, .slice A1_1 l1_1.length c1_1] rfl (by (try simp only [List.map_toArray, List.map_cons, List.map_nil]); first | done | rfl | (simp only [List.length_drop, List.length_take]; rfl)) ?_; (with_reducible refine (K_SameBools.calls k _ _ l0_1 _ _ l1_1 t161 _ ?side1 ?side2 ?side3 ?side4 A4.out).mono ?_); (case side1 => repeat (first | exact (Kd.C_below HR0_1.out HB.out) | (with_reducible refine Kd.C_alloc ?_ _) | (with_reducible refine Kd.C_drewN ?_ _) | (with_reducible refine Kd.C_drew ?_))); (case side2 => exact HC0_1.out); (case side3 => repeat (first | exact (Kd.C_below HR1_1.out HB.out) | (with_reducible refine Kd.C_alloc ?_ _) | (with_reducible refine Kd.C_drewN ?_ _) | (with_reducible refine Kd.C_drew ?_))); (case side4 => exact HC1_1.out); rintro e w' ⟨rfl, ⟨nd, rfl⟩⟩; refine ⟨_, rfl, ?_⟩))
    all_goals go_ret
    all_goals exact ⟨by first | rfl | (simp [errW_none, errW_some] <;> rfl) | (simp [*, errW_none, errW_some] <;> rfl), by repeat (first | (with_reducible first | exact HB.out | apply below_alloc | apply pw_below_drewN | apply below_drew1 | refine below_set ?_ GE159.out | refine below_set ?_ GE160.out) | exact HB.out)⟩
  · rw [if_neg c3] at H
    have c3b0 : (a0_0 == a1_0) = false := by simpa using c3
    (try (have c3b1 : decide (a0_0 = a1_0) = false := by simpa using c3))
    (try (have c3b2 : (a0_0 == a1_0) = false := by simpa using c3))
    (try (have c3b3 : ¬ (a0_0 = a1_0) := by simpa using c3))
    clear c3
    obtain rfl := Option.some.inj H
    go_enter Try.func13, Try.ntmps13
    go_wp2_with (first | ((with_reducible refine gate_dst (N := 2) rfl ?_); refine box_event ?hg (N := 2) ?hd (cs := #[.bool a0_0, .slice A0_1 l0_1.length c0_1]) (t := 25) ?hr ?_; (case hd => rfl); (case hg => rfl); (case hr => first | (go_simp; done) | (go_simp; rfl)); intro gb159 hg w10 hbox hb; have n0_ := Aside0.mk (below_step (by repeat (first | (with_reducible first | exact HB.out | apply below_alloc | apply pw_below_drewN | apply below_drew1) | exact HB.out)) hb); have n1_ := Aside0.mk (hbox); have n2_ := Aside0.mk ((by rw [hg]; exact (below_size (by repeat (first | (with_reducible first | exact HB.out | apply below_alloc | apply pw_below_drewN | apply below_drew1) | exact HB.out))) : w.heap.size ≤ gb159)); have n3_ := Aside0.mk ((by rw [hg]; exact (below_size (by repeat (first | (with_reducible first | exact HB.out | apply below_alloc | apply pw_below_drewN | apply below_drew1) | exact HB.out))) : w.heap.size ≤ gb159)); clear HB; have HB := n0_; have BK159 := n1_; have GW159 := n2_; have GE159 := n3_; clear n0_ n1_ n2_ n3_; clear hb hbox hg) | ((with_reducible refine gate_dst (N := 3) rfl ?_); refine box_event ?hg (N := 3) ?hd (cs := #[.bool a1_0, .slice A1_1 l1_1.length c1_1]) (t := 25) ?hr ?_; (case hd => rfl); (case hg => rfl); (case hr => first | (go_simp; done) | (go_simp; rfl)); intro gb160 hg w11 hbox hb; have n0_ := Aside0.mk (blk_below (g := gb159) (o := .cells #[.bool a0_0, .slice A0_1 l0_1.length c0_1] 25 (0, 0)) (by (with_reducible repeat (first | refine blk_drewN ?_ _ | refine blk_drew ?_ | refine blk_alloc ?_ _)); exact BK159.out) hb); have n1_ := Aside0.mk (below_step (by repeat (first | (with_reducible first | exact HB.out | apply below_alloc | apply pw_below_drewN | apply below_drew1 | refine below_set ?_ GE159.out) | exact HB.out)) hb); have n2_ := Aside0.mk (hbox); have n3_ := Aside0.mk ((by rw [hg]; exact (below_size (by repeat (first | (with_reducible first | exact HB.out | apply below_alloc | apply pw_below_drewN | apply below_drew1 | refine below_set ?_ GE159.out) | exact HB.out))) : w.heap.size ≤ gb160)); have n4_ := Aside0.mk ((by rw [hg]; exact (below_size (by repeat (first | (with_reducible first | exact HB.out | apply below_alloc | apply pw_below_drewN | apply below_drew1 | refine below_set ?_ GE159.out) | exact HB.out))) : w.heap.size ≤ gb160)); have n5_ := Aside0.mk ((by rw [hg]; exact Nat.ne_of_lt (blk_lt (g := gb159) (o := .cells #[.bool a0_0, .slice A0_1 l0_1.length c0_1] 25 (0, 0)) (by (with_reducible repeat (first | refine blk_drewN ?_ _ | refine blk_drew ?_ | refine blk_alloc ?_ _)); exact BK159.out)) : gb159 ≠ gb160)); have n6_ := Aside0.mk ((by rw [hg]; exact Nat.ne_of_gt (blk_lt (g := gb159) (o := .cells #[.bool a0_0, .slice A0_1 l0_1.length c0_1] 25 (0, 0)) (by (with_reducible repeat (first | refine blk_drewN ?_ _ | refine blk_drew ?_ | refine blk_alloc ?_ _)); exact BK159.out)) : gb160 ≠ gb159)); clear BK159; clear HB; have BK159 := n0_; have HB := n1_; have BK160 := n2_; have GW160 := n3_; have GE160 := n4_; have NB159_160 := n5_; have NB160_159 := n6_; clear n0_ n1_ n2_ n3_ n4_ n5_ n6_; clear hb hbox hg; have hnb12 := NB159_160.out; have hnc12 := NB160_159.out; have hcz13_0 : w11.cell? ⟨gb159, 0, none⟩ = some (.bool a0_0) := (blk_cell BK159.out 0).trans rfl; have hcz13_1 : w11.cell? ⟨gb159, 1, none⟩ = some (.slice A0_1 l0_1.length c0_1) := (blk_cell BK159.out 1).trans rfl; have hfz13_0 := blk_frozen BK159.out 0; have hfz13_1 := blk_frozen BK159.out 1; have hcz14_0 : w11.cell? ⟨gb160, 0, none⟩ = some (.bool a1_0) := (blk_cell BK160.out 0).trans rfl; have hcz14_1 : w11.cell? ⟨gb160, 1, none⟩ = some (.slice A1_1 l1_1.length c1_1) := (blk_cell BK160.out 1).trans rfl; have hfz14_0 := blk_frozen BK160.out 0; have hfz14_1 := blk_frozen BK160.out 1))
    all_goals go_ret
    all_goals exact ⟨by first | rfl | (simp [errW_none, errW_some] <;> rfl) | (simp [*, errW_none, errW_some] <;> rfl), by repeat (first | (with_reducible first | exact HB.out | apply below_alloc | apply pw_below_drewN | apply below_drew1 | refine below_set ?_ GE159.out | refine below_set ?_ GE160.out) | exact HB.out)⟩


end Go.Proofs.Ytdkabbjknclifaa.F
end
section
-- Written by fork.py (this session's program over the kit's print.py). Not trusted: Lean checks it.
namespace Go.Proofs.Ytdkabbjknclifaa.F
open Go.RowKit Go.Proofs.YtdkabbjknclifaaW.PrintWords Go.Proofs.YtdkabbjknclifaaW.PrintLast Go.Proofs.YtdkabbjknclifaaW.PrintMore
attribute [local go_sem] max2_int min2_int max_two min_two max_three min_three max_four min_four
set_option linter.unusedVariables false
set_option linter.unusedSimpArgs false

/-! ### slices_Index_bool_bool: function 51 -/
def slices_Index_bool_bool.l0 : Nat → List Bool → Bool → Int → Int → Option (Int)
  | 0, _, _, _, _ => none
  | k + 1, x0, x1, x7, x8 => if x8 < x7 then (if 0 ≤ x8 then (if x8 < (x0.length : Int) then (if (x1 == (rdOf false x0 x8)) = true then (some x8) else (slices_Index_bool_bool.l0 k x0 x1 x7 (wrap64 (x8 + 1)))) else (none)) else (none)) else (some (-1))
def slices_Index_bool_bool.f (k : Nat) (l0 : List Bool) (a1 : Bool) : Option (Int) := slices_Index_bool_bool.l0 k l0 a1 (l0.length : Int) 0
theorem slices_Index_bool_bool.mono_l : ∀ k, (∀ y0 y1 y2 y3, LeO (slices_Index_bool_bool.l0 k y0 y1 y2 y3) (slices_Index_bool_bool.l0 (k + 1) y0 y1 y2 y3))
  | 0 => fun _ _ _ _ r h => by simp [slices_Index_bool_bool.l0] at h
  | k + 1 => by
    have ih0 := slices_Index_bool_bool.mono_l k
    · intro y0 y1 y2 y3
      unfold slices_Index_bool_bool.l0
      repeat' first
      | (with_reducible exact ih0 _ _ _ _)
      | (with_reducible exact LeO.refl _)
      | (with_reducible exact LeO.none _)
      | (with_reducible refine LeO.ite ?_ ?_)
      | (with_reducible refine LeO.bind ?_ (fun _ => ?_))
      | exact ih0 _ _ _ _
      | exact LeO.none _
      | refine LeO.ite ?_ ?_
      | refine LeO.bind ?_ (fun _ => ?_)
theorem slices_Index_bool_bool.mono : ∀ a0 a1 k, LeO (slices_Index_bool_bool.f k a0 a1) (slices_Index_bool_bool.f (k + 1) a0 a1) := by
  intro a0 a1 k
  have ih0 := slices_Index_bool_bool.mono_l k
  unfold slices_Index_bool_bool.f
  repeat' first
      | (with_reducible exact ih0 _ _ _ _)
      | (with_reducible exact LeO.refl _)
      | (with_reducible exact LeO.none _)
      | (with_reducible refine LeO.ite ?_ ?_)
      | (with_reducible refine LeO.bind ?_ (fun _ => ?_))
      | exact ih0 _ _ _ _
      | exact LeO.none _
      | refine LeO.ite ?_ ?_
      | refine LeO.bind ?_ (fun _ => ?_)
set_option maxHeartbeats 8000000 in
set_option maxRecDepth 100000 in
theorem slices_Index_bool_bool.calls (k : Nat) (A0 : Option Addr) (c0 : Nat) (l0 : List Bool) (a1 : Bool) (r : Int) (w : World) (hr0 : Kd.C Kd.bool w A0 l0.length l0) (hc0 : l0.length ≤ c0) (h : slices_Index_bool_bool.f k l0 a1 = some r) :
    Calls Try.prog 51 #[.slice A0 l0.length c0, .bool a1] w fun e w' => e = .returned (.int .i64 r) ∧ Drawn0 w w' := by
  have HR0 := Aside0.mk hr0
  have HC0 := Aside0.mk hc0
  clear hr0 hc0
  have H : (slices_Index_bool_bool.l0 k l0 a1 (l0.length : Int) 0) = some r := h
  clear h
  have H' := Aside0.mk H
  clear H
  go_enter Try.func51, Try.ntmps51
  go_wp2
  go_loopg [8] k (fun kq v8 w' => ∃ (x8_1 : Int), v8 = .int .i64 x8_1 ∧ Aside0 (slices_Index_bool_bool.l0 kq l0 a1 (l0.length : Int) x8_1 = some r) ∧ Aside0 (kq ≤ k) ∧ Drawn0 w w')
  case atStart => exact ⟨(0), (by first | rfl | (simp; done) | (simp [*]; done)), H', ⟨Nat.le_refl _⟩, by repeat (first | exact Drawn0.refl _ | apply Drawn0.step)⟩
  case round =>
    clear H'
    try clear p2
    obtain ⟨x8_1, rfl, HA, HK1, ⟨m1, rfl⟩⟩ := hrel
    cases gk with
    | zero => exact absurd HA.out (by simp [slices_Index_bool_bool.l0])
    | succ k1 =>
      have H := HA.out
      clear HA
      simp only [slices_Index_bool_bool.l0] at H
      by_cases c3 : x8_1 < (l0.length : Int)
      · rw [if_pos c3] at H
        have c3b0 : decide (x8_1 < (l0.length : Int)) = true := decide_eq_true c3
        clear c3
        by_cases c4 : 0 ≤ x8_1
        · rw [if_pos c4] at H
          have c4b0 : decide (0 ≤ x8_1) = true := decide_eq_true c4
          clear c4
          by_cases c5 : x8_1 < (l0.length : Int)
          · rw [if_pos c5] at H
            have c5b0 : decide (x8_1 < (l0.length : Int)) = true := decide_eq_true c5
            clear c5
            by_cases c6 : (a1 == (rdOf false l0 x8_1)) = true
            · rw [if_pos c6] at H
              have c6b0 : (a1 == (rdOf false l0 x8_1)) = true := c6
              (try (have c6b1 : decide (a1 = (rdOf false l0 x8_1)) = true := by simpa using c6))
              (try (have c6b2 : (a1 == (rdOf false l0 x8_1)) = true := by simpa using c6))
              clear c6
              obtain rfl := Option.some.inj H
              have p333 : 0 ≤ (x8_1 : Int) := of_decide_eq_true (by first | (with_reducible assumption) | assumption)
              have q333 : x8_1 < (l0.length : Int) := of_decide_eq_true (by first | (with_reducible assumption) | assumption)
              obtain ⟨ad333, e333, hx333_0⟩ := Kd.at_bool HR0.out x8_1 p333 q333
              cases e333
              replace p333 := eq_true p333
              replace q333 := eq_true q333
              go_wp2
              all_goals go_ret
              all_goals exact ⟨by first | rfl | (simp; done) | (simp [*]; done), by repeat (first | exact Drawn0.refl _ | apply Drawn0.step)⟩
            · rw [if_neg c6] at H
              have c6b0 : (a1 == (rdOf false l0 x8_1)) = false := by simpa using c6
              (try (have c6b1 : decide (a1 = (rdOf false l0 x8_1)) = false := by simpa using c6))
              (try (have c6b2 : (a1 == (rdOf false l0 x8_1)) = false := by simpa using c6))
              (try (have c6b3 : ¬ (a1 = (rdOf false l0 x8_1)) := by simpa using c6))
              clear c6
              have H' := Aside0.mk H
              clear H
              have p333 : 0 ≤ (x8_1 : Int) := of_decide_eq_true (by first | (with_reducible assumption) | assumption)
              have q333 : x8_1 < (l0.length : Int) := of_decide_eq_true (by first | (with_reducible assumption) | assumption)
              obtain ⟨ad333, e333, hx333_0⟩ := Kd.at_bool HR0.out x8_1 p333 q333
              cases e333
              replace p333 := eq_true p333
              replace q333 := eq_true q333
              go_wp2
              go_roundg k1
              case measure => have := HK1.out; omega
              case rel => exact ⟨(wrap64 (x8_1 + 1)), (by first | rfl | (simp; done) | (simp [*]; done)), H', ⟨by have := HK1.out; omega⟩, by repeat (first | exact Drawn0.refl _ | apply Drawn0.step)⟩
          · rw [if_neg c5] at H
            exact absurd H (by simp)
        · rw [if_neg c4] at H
          exact absurd H (by simp)
      · rw [if_neg c3] at H
        have c3b0 : decide (x8_1 < (l0.length : Int)) = false := decide_eq_false c3
        clear c3
        obtain rfl := Option.some.inj H
        go_wp2
        all_goals go_ret
        all_goals exact ⟨by first | rfl | (simp; done) | (simp [*]; done), by repeat (first | exact Drawn0.refl _ | apply Drawn0.step)⟩


end Go.Proofs.Ytdkabbjknclifaa.F
end
section
-- Written by fork.py (this session's program over the kit's print.py). Not trusted: Lean checks it.
namespace Go.Proofs.Ytdkabbjknclifaa.F
open Go.RowKit Go.Proofs.YtdkabbjknclifaaW.PrintWords Go.Proofs.YtdkabbjknclifaaW.PrintLast Go.Proofs.YtdkabbjknclifaaW.PrintMore
attribute [local go_sem] max2_int min2_int max_two min_two max_three min_three max_four min_four
set_option linter.unusedVariables false
set_option linter.unusedSimpArgs false

/-! ### K_Mod: function 36 -/
def K_Mod.f (a0 : Int) (a1 : Int) : Option (Int) := if a1 < 1 then (some 0) else (if a1 = 0 then (none) else (if (Int.tmod a0 a1) < 0 then (some (wrap64 ((Int.tmod a0 a1) + a1))) else (some (Int.tmod a0 a1))))
set_option maxHeartbeats 8000000 in
set_option maxRecDepth 100000 in
theorem K_Mod.calls (a0 : Int) (a1 : Int) (r : Int) (w : World) (h : K_Mod.f a0 a1 = some r) :
    Calls Try.prog 36 #[.int .i64 a0, .int .i64 a1] w fun e w' => e = .returned (.int .i64 r) ∧ Drawn0 w w' := by
  have H : (if a1 < 1 then (some 0) else (if a1 = 0 then (none) else (if (Int.tmod a0 a1) < 0 then (some (wrap64 ((Int.tmod a0 a1) + a1))) else (some (Int.tmod a0 a1))))) = some r := h
  clear h
  by_cases c3 : a1 < 1
  · rw [if_pos c3] at H
    have c3b0 : decide (a1 < 1) = true := decide_eq_true c3
    clear c3
    obtain rfl := Option.some.inj H
    go_enter Try.func36, Try.ntmps36
    go_wp2
    all_goals go_ret
    all_goals exact ⟨by first | rfl | (simp; done) | (simp [*]; done), by repeat (first | exact Drawn0.refl _ | apply Drawn0.step)⟩
  · rw [if_neg c3] at H
    have c3b0 : decide (a1 < 1) = false := decide_eq_false c3
    clear c3
    by_cases c4 : a1 = 0
    · rw [if_pos c4] at H
      exact absurd H (by simp)
    · rw [if_neg c4] at H
      have c4b0 : (a1 == 0) = false := beq_eq_false_iff_ne.mpr c4
      have c4b1 : (a1 != 0) = true := bne_iff_ne.mpr c4
      by_cases c5 : (Int.tmod a0 a1) < 0
      · rw [if_pos c5] at H
        have c5b0 : decide ((Int.tmod a0 a1) < 0) = true := decide_eq_true c5
        clear c5
        obtain rfl := Option.some.inj H
        go_enter Try.func36, Try.ntmps36
        go_wp2
        all_goals go_ret
        all_goals exact ⟨by first | rfl | (simp; done) | (simp [*]; done), by repeat (first | exact Drawn0.refl _ | apply Drawn0.step)⟩
      · rw [if_neg c5] at H
        have c5b0 : decide ((Int.tmod a0 a1) < 0) = false := decide_eq_false c5
        clear c5
        obtain rfl := Option.some.inj H
        go_enter Try.func36, Try.ntmps36
        go_wp2
        all_goals go_ret
        all_goals exact ⟨by first | rfl | (simp; done) | (simp [*]; done), by repeat (first | exact Drawn0.refl _ | apply Drawn0.step)⟩

end Go.Proofs.Ytdkabbjknclifaa.F
end
section
namespace Go.Proofs.Ytdkabbjknclifaa.F
open Go.RowKit Go.Proofs.YtdkabbjknclifaaW.PrintWords Go.Proofs.YtdkabbjknclifaaW.PrintLast Go.Proofs.YtdkabbjknclifaaW.PrintMore
/-- Parse's loop: i: the place, b: the car, acc: the landings. -/
def parseL : List UInt8 → Nat → Bool → List Bool → Sum Nat (Bool × List Bool)
  | [], _, b, acc => .inr (b, acc)
  | c :: r, i, b, acc =>
    if i = 0 then (if c = 120 then parseL r 1 true acc else if c = 111 then parseL r 1 false acc else .inl 0)
    else if i = 1 then (if c = 124 then parseL r 2 b acc else .inl 1)
    else if c = 120 then parseL r (i + 1) b (acc ++ [true]) else if c = 111 then parseL r (i + 1) b (acc ++ [false]) else .inl i
end Go.Proofs.Ytdkabbjknclifaa.F
end
section
namespace Go.Proofs.Ytdkabbjknclifaa.F
open Go.RowKit Go.Proofs.YtdkabbjknclifaaW.PrintWords Go.Proofs.YtdkabbjknclifaaW.PrintLast Go.Proofs.YtdkabbjknclifaaW.PrintMore
def lock_Parse.f (a0 : ByteArray) : Option (Bool × List Bool × Int × Int) :=
  if a0.data.toList.length ≤ 100 then
    match parseL a0.data.toList 0 false [] with
    | .inl i => some (false, [], 3, i)
    | .inr (b, l) => if a0.data.toList.length < 2 then some (false, [], 3, a0.data.toList.length) else
      (lock_Check.f 4096 b l).bind fun e => if e = 0 then some (b, l, 0, 0) else some (false, [], e, 0)
  else none
end Go.Proofs.Ytdkabbjknclifaa.F
end
section
namespace Go.Proofs.Ytdkabbjknclifaa.F
open Go.RowKit Go.Shelf Go.Proofs.YtdkabbjknclifaaW.PrintWords Go.Proofs.YtdkabbjknclifaaW.PrintLast Go.Proofs.YtdkabbjknclifaaW.PrintMore
attribute [local go_sem] Oper.semAt_some Instr.field asAgg
set_option linter.unusedVariables false
set_option linter.unusedSimpArgs false
theorem R_iter {w W : World} {b : Bool} {v v' : Value} {s : ByteArray} {i p : Nat} {ok : Nat → Prop} {acc : List Bool} (h : PSt w W b v' s i) (hr : Kd.R Kd.bool 4 W w.heap.size ok v acc) :
    Kd.R Kd.bool 4 (W.iterAt (w.heap.size + 3) s p) w.heap.size ok v acc :=
  Kd.R_mono (Kd.R_move (Kd.R_bound hr) (fun k hk => by
    obtain ⟨_, _, _, q, _, cells, hc⟩ := hk
    refine Lib.iterAt_other _ _ _ _ _ ?_
    rintro rfl
    rw [h.2.2.2.2] at hc
    cases hc)) (fun k hk => hk.1)
end Go.Proofs.Ytdkabbjknclifaa.F
end
section
namespace Go.Proofs.Ytdkabbjknclifaa.F
open Go.RowKit Go.Shelf Go.Proofs.YtdkabbjknclifaaW.PrintWords Go.Proofs.YtdkabbjknclifaaW.PrintLast Go.Proofs.YtdkabbjknclifaaW.PrintMore
attribute [local go_sem] Oper.semAt_some Instr.field asAgg
set_option linter.unusedVariables false
set_option linter.unusedSimpArgs false
theorem PSt.iter {w W : World} {b : Bool} {v : Value} {s : ByteArray} {i : Nat} (p : Nat) (h : PSt w W b v s i) : PSt w (W.iterAt (w.heap.size + 3) s p) b v s p :=
  ⟨Lib.below_iterAt h.1 (by omega) s p, (Lib.iterAt_other _ _ _ _ _ (by omega)).trans h.2.1, (Lib.iterAt_other _ _ _ _ _ (by omega)).trans h.2.2.1, (Lib.iterAt_other _ _ _ _ _ (by omega)).trans h.2.2.2.1, Lib.iterAt_heap _ _ _ _ _ h.2.2.2.2⟩
end Go.Proofs.Ytdkabbjknclifaa.F
end
section
namespace Go.Proofs.Ytdkabbjknclifaa.F
open Go.RowKit Go.Shelf Go.Proofs.YtdkabbjknclifaaW.PrintWords Go.Proofs.YtdkabbjknclifaaW.PrintLast Go.Proofs.YtdkabbjknclifaaW.PrintMore
attribute [local go_sem] Oper.semAt_some Instr.field asAgg
set_option linter.unusedVariables false
set_option linter.unusedSimpArgs false
theorem PSt.set0 {w W : World} {b : Bool} {v : Value} {s : ByteArray} {i : Nat} (b' : Bool) (h : PSt w W b v s i) : PSt w (W.setCell ⟨w.heap.size + 2, 0, none⟩ (.bool b')) b' v s i :=
  ⟨h.1.setCell (p := ⟨w.heap.size + 2, 0, none⟩) (by show w.heap.size ≤ w.heap.size + 2; omega) _, blk_far (p := ⟨w.heap.size + 2, 0, none⟩) h.2.1 (by show w.heap.size ≠ w.heap.size + 2; omega) _, blk_far (p := ⟨w.heap.size + 2, 0, none⟩) h.2.2.1 (by show w.heap.size + 1 ≠ w.heap.size + 2; omega) _, blk_put h.2.2.2.1 0 _ rfl, (Below.heap_setCell _ _ _ _ (by show w.heap.size + 3 ≠ w.heap.size + 2; omega)).trans h.2.2.2.2⟩
end Go.Proofs.Ytdkabbjknclifaa.F
end
section
namespace Go.Proofs.Ytdkabbjknclifaa.F
open Go.RowKit Go.Shelf Go.Proofs.YtdkabbjknclifaaW.PrintWords Go.Proofs.YtdkabbjknclifaaW.PrintLast Go.Proofs.YtdkabbjknclifaaW.PrintMore
attribute [local go_sem] Oper.semAt_some Instr.field asAgg
set_option linter.unusedVariables false
set_option linter.unusedSimpArgs false
theorem PSt.set1 {w W : World} {b : Bool} {v : Value} {s : ByteArray} {i : Nat} (v' : Value) (h : PSt w W b v s i) : PSt w (W.setCell ⟨w.heap.size + 2, 1, none⟩ v') b v' s i :=
  ⟨h.1.setCell (p := ⟨w.heap.size + 2, 1, none⟩) (by show w.heap.size ≤ w.heap.size + 2; omega) _, blk_far (p := ⟨w.heap.size + 2, 1, none⟩) h.2.1 (by show w.heap.size ≠ w.heap.size + 2; omega) _, blk_far (p := ⟨w.heap.size + 2, 1, none⟩) h.2.2.1 (by show w.heap.size + 1 ≠ w.heap.size + 2; omega) _, blk_put h.2.2.2.1 1 _ rfl, (Below.heap_setCell _ _ _ _ (by show w.heap.size + 3 ≠ w.heap.size + 2; omega)).trans h.2.2.2.2⟩
end Go.Proofs.Ytdkabbjknclifaa.F
end
section
namespace Go.Proofs.Ytdkabbjknclifaa.F
open Go.RowKit Go.Shelf Go.Proofs.YtdkabbjknclifaaW.PrintWords Go.Proofs.YtdkabbjknclifaaW.PrintLast Go.Proofs.YtdkabbjknclifaaW.PrintMore
attribute [local go_sem] Oper.semAt_some Instr.field asAgg
set_option linter.unusedVariables false
set_option linter.unusedSimpArgs false
theorem fin_cc {W : World} {h : Nat} {x0 x1 y0 y1 : Value} (hA : W.heap[h]? = some (Obj.cells #[x0, x1] 25 (0, 0))) (hF : W.heap[h + 1]? = some (Obj.cells #[y0, y1] 28 (0, 0))) (u0 u1 u2 u3 : Value) :
    ((((W.setCell ⟨h, 0, none⟩ u0).setCell ⟨h, 1, none⟩ u1).setCell ⟨h + 1, 0, none⟩ u2).setCell ⟨h + 1, 1, none⟩ u3).heap[h]? = some (Obj.cells #[u0, u1] 25 (0, 0)) ∧
    ((((W.setCell ⟨h, 0, none⟩ u0).setCell ⟨h, 1, none⟩ u1).setCell ⟨h + 1, 0, none⟩ u2).setCell ⟨h + 1, 1, none⟩ u3).heap[h + 1]? = some (Obj.cells #[u2, u3] 28 (0, 0)) :=
  ⟨blk_far (p := ⟨h + 1, 1, none⟩) (blk_far (p := ⟨h + 1, 0, none⟩) (blk_put (blk_put hA 0 _ rfl) 1 _ rfl) (by show h ≠ h + 1; omega) _) (by show h ≠ h + 1; omega) _,
   blk_put (blk_put (blk_far (p := ⟨h, 1, none⟩) (blk_far (p := ⟨h, 0, none⟩) hF (by show h + 1 ≠ h; omega) _) (by show h + 1 ≠ h; omega) _) 0 _ rfl) 1 _ rfl⟩
end Go.Proofs.Ytdkabbjknclifaa.F
end
section
namespace Go.Proofs.Ytdkabbjknclifaa.F
open Go.RowKit Go.Shelf Go.Proofs.YtdkabbjknclifaaW.PrintWords Go.Proofs.YtdkabbjknclifaaW.PrintLast Go.Proofs.YtdkabbjknclifaaW.PrintMore
attribute [local go_sem] Oper.semAt_some Instr.field asAgg
set_option linter.unusedVariables false
set_option linter.unusedSimpArgs false
theorem fin_below {w W : World} (hb : Below w.heap.size w W) (u0 u1 u2 u3 : Value) :
    Below w.heap.size w ((((W.setCell ⟨w.heap.size, 0, none⟩ u0).setCell ⟨w.heap.size, 1, none⟩ u1).setCell ⟨w.heap.size + 1, 0, none⟩ u2).setCell ⟨w.heap.size + 1, 1, none⟩ u3) :=
  (((hb.setCell (p := ⟨w.heap.size, 0, none⟩) (Nat.le_refl _) _).setCell (p := ⟨w.heap.size, 1, none⟩) (Nat.le_refl _) _).setCell (p := ⟨w.heap.size + 1, 0, none⟩) (Nat.le_succ _) _).setCell (p := ⟨w.heap.size + 1, 1, none⟩) (Nat.le_succ _) _
end Go.Proofs.Ytdkabbjknclifaa.F
end
section
namespace Go.Proofs.Ytdkabbjknclifaa.F
open Go.RowKit Go.Shelf Go.Proofs.YtdkabbjknclifaaW.PrintWords Go.Proofs.YtdkabbjknclifaaW.PrintLast Go.Proofs.YtdkabbjknclifaaW.PrintMore
attribute [local go_sem] Oper.semAt_some Instr.field asAgg
set_option linter.unusedVariables false
set_option linter.unusedSimpArgs false
/-- The letter at hand. -/
theorem next_rune (W : World) (k : Nat) (s : ByteArray) (i : Nat) (hk : W.heap[k]? = some (Obj.stringIter s i)) (h : i < s.size) :
    ∃ (r : Int) (wd : Nat), (∀ ty, (Instr.next (.pointer (some ⟨k, 0, none⟩)) true ty).run Try.prog W = .ok (.tuple #[.bool true, .int .i64 i, .int .i32 r]) (W.iterAt k s (i + wd))) ∧
      ((r = ((s[i]'h).toNat : Int) ∧ wd = 1) ∨ (128 ≤ r ∧ 128 ≤ (s[i]'h).toNat)) := by
  by_cases ha : (s[i]'h).toNat < 128
  · exact ⟨_, _, fun ty => Lib.run_next_ascii_at W k s i ty hk h ha, .inl ⟨rfl, rfl⟩⟩
  · have hh := decode_high s i h (by omega)
    exact ⟨_, _, fun ty => Lib.run_next_any_at W k s i ty hk h, .inr ⟨by have := hh.1; omega, by omega⟩⟩
end Go.Proofs.Ytdkabbjknclifaa.F
end
section
namespace Go.Proofs.Ytdkabbjknclifaa.F
open Go.RowKit Go.Shelf Go.Proofs.YtdkabbjknclifaaW.PrintWords Go.Proofs.YtdkabbjknclifaaW.PrintLast Go.Proofs.YtdkabbjknclifaaW.PrintMore
attribute [local go_sem] Oper.semAt_some Instr.field asAgg
set_option linter.unusedVariables false
set_option linter.unusedSimpArgs false
set_option maxHeartbeats 4000000 in
set_option maxRecDepth 100000 in
theorem lock_Parse.calls (a0 : ByteArray) (r1 : Bool) (r2 : List Bool) (r3 : Int) (r4 : Int) (w : World) (h : lock_Parse.f a0 = some (r1, r2, r3, r4)) :
    Calls Try.prog 11 #[.string a0] w fun e w' => ∃ v1_ : Value, e = .returned (.tuple #[.agg #[.bool r1, v1_], .agg #[.int .i64 r3, .int .i64 r4]]) ∧ Kd.R Kd.bool 4 w' w.heap.size (fun _ => True) v1_ r2 ∧ Below w.heap.size w w' := by
  have hu25 := Try.underlying25
  have hu28 := Try.underlying28
  have hu23 := Try.underlying23
  unfold lock_Parse.f at h
  by_cases hlen : a0.data.toList.length ≤ 100
  case neg => rw [if_neg hlen] at h; cases h
  rw [if_pos hlen] at h
  have hsz : a0.data.toList.length = a0.size := rfl
  have H := Aside0.mk h
  have HL := Aside0.mk hlen
  have HZ := Aside0.mk hsz
  clear h hlen hsz
  go_enter Try.func11, Try.ntmps11
  go_wp2
  go_loopw [] (fun wr => ∃ (i : Nat) (b : Bool) (acc : List Bool) (v : Value), i ≤ a0.size ∧ acc.length ≤ i ∧ Aside0 (PSt w wr b v a0 i) ∧ Aside0 (Kd.R Kd.bool 4 wr w.heap.size (fun _ => True) v acc) ∧ Aside0 (parseL (a0.data.toList.drop i) i b acc = parseL a0.data.toList 0 false [])) (fun wr => a0.size - wr.iterPos (w.heap.size + 3))
  case atStart =>
    refine ⟨0, false, [], .slice none 0 0, Nat.zero_le _, Nat.le_refl _, ⟨?_⟩, ⟨Kd.R_nil _ _ _ _ _⟩, ⟨rfl⟩⟩
    have e0 : (((w.alloc (Obj.cells #[Value.bool false, Value.slice none 0 0] 25)).alloc (Obj.cells #[Value.int IntKind.i64 0, Value.int IntKind.i64 0] 28)).alloc (Obj.cells #[Value.bool false, Value.slice none 0 0] 25)).heap.size = w.heap.size + 3 := by simp
    refine ⟨?_, ?_, ?_, ?_, ?_⟩
    · exact ((((Below.refl _ w).alloc (Nat.le_refl _) _).alloc (by simp) _).alloc (by simp; omega) _).alloc (by simp; omega) _
    · exact blk_alloc (blk_alloc (blk_alloc (blk_new w _) _) _) _
    · have h0 := blk_new (w.alloc (Obj.cells #[Value.bool false, Value.slice none 0 0] 25)) (Obj.cells #[Value.int IntKind.i64 0, Value.int IntKind.i64 0] 28)
      rw [World.size_alloc] at h0
      exact blk_alloc (blk_alloc h0 _) _
    · have h0 := blk_new ((w.alloc (Obj.cells #[Value.bool false, Value.slice none 0 0] 25)).alloc (Obj.cells #[Value.int IntKind.i64 0, Value.int IntKind.i64 0] 28)) (Obj.cells #[Value.bool false, Value.slice none 0 0] 25)
      rw [World.size_alloc, World.size_alloc] at h0
      exact blk_alloc h0 _
    · have h0 := World.alloc_heap_new (((w.alloc (Obj.cells #[Value.bool false, Value.slice none 0 0] 25)).alloc (Obj.cells #[Value.int IntKind.i64 0, Value.int IntKind.i64 0] 28)).alloc (Obj.cells #[Value.bool false, Value.slice none 0 0] 25)) (Obj.stringIter a0 0)
      rw [e0] at h0
      exact h0
  case round =>
    obtain ⟨i, b, acc, v, hi, hal, HP0, HR, HS⟩ := hrel
    have hit := HP0.out.2.2.2.2
    have hlz := HL.out
    rw [HZ.out] at hlz
    by_cases hlt : i < a0.size
    · obtain ⟨r, wd, hnx, hcase⟩ := next_rune wr _ a0 i hit hlt
      have HP := Aside0.mk (HP0.out.iter (i + wd))
      have HR1 := Aside0.mk (R_iter (p := i + wd) HP0.out HR.out)
      have hdrop : a0.data.toList.drop i = a0[i] :: a0.data.toList.drop (i + 1) := by
        rw [List.drop_eq_getElem_cons (by rw [HZ.out]; exact hlt)]; rfl
      obtain ⟨lc, hlc⟩ : ∃ lc, a0[i] = lc := ⟨_, rfl⟩
      rw [hlc] at hdrop hcase
      clear hlc
      obtain ⟨W1, hW1⟩ : ∃ W1, wr.iterAt (w.heap.size + 3) a0 (i + wd) = W1 := ⟨_, rfl⟩
      rw [hW1] at hnx HP HR1
      clear hit hW1
      obtain ⟨q0, q1, q2, q3⟩ := con_cells HP.out.2.1; obtain ⟨q4, q5, q6, q7⟩ := con_cells HP.out.2.2.1; obtain ⟨q8, q9, q10, q11⟩ := con_cells HP.out.2.2.2.1
      obtain ⟨A8, c8, e8⟩ := Kd.R_slice HR1.out
      subst e8
      have h120 : (r = 120) ↔ (lc = 120) := by
        constructor
        · intro e; rcases hcase with ⟨h1, _⟩ | h1
          · exact UInt8.toNat_inj.mp (by show lc.toNat = 120; omega)
          · omega
        · intro e; rcases hcase with ⟨h1, _⟩ | h1
          · rw [h1, e]; rfl
          · rw [e] at h1; exact absurd h1.2 (by decide)
      have h111 : (r = 111) ↔ (lc = 111) := by
        constructor
        · intro e; rcases hcase with ⟨h1, _⟩ | h1
          · exact UInt8.toNat_inj.mp (by show lc.toNat = 111; omega)
          · omega
        · intro e; rcases hcase with ⟨h1, _⟩ | h1
          · rw [h1, e]; rfl
          · rw [e] at h1; exact absurd h1.2 (by decide)
      have h124 : (r = 124) ↔ (lc = 124) := by
        constructor
        · intro e; rcases hcase with ⟨h1, _⟩ | h1
          · exact UInt8.toNat_inj.mp (by show lc.toNat = 124; omega)
          · omega
        · intro e; rcases hcase with ⟨h1, _⟩ | h1
          · rw [h1, e]; rfl
          · rw [e] at h1; exact absurd h1.2 (by decide)
      by_cases i0 : i = 0
      · have di0 : ((i : Int) == 0) = true := by simp [i0]
        have di1 : ((i : Int) == 1) = false := by simp [i0]
        have di2 : decide (1 < (i : Int)) = false := by simp [i0]
        by_cases c120 : r = 120
        · have e1 := h120.mp c120
          have d1 : (r == 120) = true := beq_iff_eq.mpr c120
          obtain rfl : wd = 1 := by rcases hcase with ⟨_, h1⟩ | h1 <;> omega
          have HS1 := Aside0.mk (show parseL (a0.data.toList.drop (i + 1)) (i + 1) true (acc) = parseL a0.data.toList 0 false [] by rw [← HS.out, hdrop]; simp [parseL, i0, e1])
          have I0 := Aside0.mk i0
          clear i0
          go_wp2
          go_roundw
          case rel => exact ⟨i + 1, true, acc, .slice A8 acc.length c8, hlt, by omega, ⟨HP.out.set0 true⟩, ⟨Kd.R_set HR1.out HP.out.2.2.2.1 (by decide) 0 _⟩, HS1⟩
          case measure =>
            have e1 := (HP.out.set0 true).2.2.2.2
            have e2 := HP0.out.2.2.2.2
            simp only [World.iterPos, e1, e2]
            omega
        · have d1 : (r == 120) = false := beq_eq_false_iff_ne.mpr c120
          have e1 : ¬ lc = 120 := fun e => c120 (h120.mpr e)
          by_cases c111 : r = 111
          · have e2 := h111.mp c111
            have d2 : (r == 111) = true := beq_iff_eq.mpr c111
            obtain rfl : wd = 1 := by rcases hcase with ⟨_, h1⟩ | h1 <;> omega
            have HS1 := Aside0.mk (show parseL (a0.data.toList.drop (i + 1)) (i + 1) false (acc) = parseL a0.data.toList 0 false [] by rw [← HS.out, hdrop]; simp [parseL, i0, e2])
            have I0 := Aside0.mk i0
            clear i0
            go_wp2
            go_roundw
            case rel => exact ⟨i + 1, false, acc, .slice A8 acc.length c8, hlt, by omega, ⟨HP.out.set0 false⟩, ⟨Kd.R_set HR1.out HP.out.2.2.2.1 (by decide) 0 _⟩, HS1⟩
            case measure =>
              have e1 := (HP.out.set0 false).2.2.2.2
              have e2 := HP0.out.2.2.2.2
              simp only [World.iterPos, e1, e2]
              omega
          · have d2 : (r == 111) = false := beq_eq_false_iff_ne.mpr c111
            have e2 : ¬ lc = 111 := fun e => c111 (h111.mpr e)
            have hl : parseL a0.data.toList 0 false [] = .inl i := by rw [← HS.out, hdrop]; simp [parseL, i0, e1, e2]
            have h := H.out
            rw [hl] at h
            simp only [Option.some.injEq, Prod.mk.injEq] at h
            obtain ⟨rfl, rfl, rfl, rfl⟩ := h
            have I0 := Aside0.mk i0
            clear i0
            go_wp2
            exact bodyPost_ret (results_cc rfl _ _ w.heap.size (w.heap.size + 1) 25 28 #[.bool false, .slice none 0 0] #[.int .i64 3, .int .i64 i] (0, 0) (0, 0) _ _ rfl (fin_cc HP.out.2.1 HP.out.2.2.1 _ _ _ _).1 hu25 rfl (by kernel_rfl) rfl (fin_cc HP.out.2.1 HP.out.2.2.1 _ _ _ _).2 hu28 rfl (by kernel_rfl)) rfl ⟨_, rfl, Kd.R_nil _ _ _ _ _, fin_below HP.out.1 _ _ _ _⟩
      · have di0 : ((i : Int) == 0) = false := beq_eq_false_iff_ne.mpr (by omega)
        by_cases i1 : i = 1
        · have di1 : ((i : Int) == 1) = true := by simp [i1]
          have di2 : decide (1 < (i : Int)) = false := by simp [i1]
          by_cases c124 : r = 124
          · have e1 := h124.mp c124
            subst c124
            obtain rfl : wd = 1 := by rcases hcase with ⟨_, h1⟩ | h1 <;> omega
            have HS1 := Aside0.mk (show parseL (a0.data.toList.drop (i + 1)) (i + 1) b (acc) = parseL a0.data.toList 0 false [] by rw [← HS.out, hdrop]; simp [parseL, i1, e1])
            have I1 := Aside0.mk i1
            clear i1
            go_wp2
            go_roundw
            case rel => exact ⟨i + 1, b, acc, .slice A8 acc.length c8, hlt, by omega, ⟨HP.out⟩, ⟨HR1.out⟩, HS1⟩
            case measure =>
              have e1 := (HP.out).2.2.2.2
              have e2 := HP0.out.2.2.2.2
              simp only [World.iterPos, e1, e2]
              omega
          · have d1 : (r == 124) = false := beq_eq_false_iff_ne.mpr c124
            have e1 : ¬ lc = 124 := fun e => c124 (h124.mpr e)
            by_cases c120 : r = 120
            · have d2 : (r == 120) = true := beq_iff_eq.mpr c120
              have hl : parseL a0.data.toList 0 false [] = .inl i := by rw [← HS.out, hdrop]; simp [parseL, i1, e1]
              have h := H.out
              rw [hl] at h
              simp only [Option.some.injEq, Prod.mk.injEq] at h
              obtain ⟨rfl, rfl, rfl, rfl⟩ := h
              have I1 := Aside0.mk i1
              clear i1
              go_wp2
              exact bodyPost_ret (results_cc rfl _ _ w.heap.size (w.heap.size + 1) 25 28 #[.bool false, .slice none 0 0] #[.int .i64 3, .int .i64 i] (0, 0) (0, 0) _ _ rfl (fin_cc HP.out.2.1 HP.out.2.2.1 _ _ _ _).1 hu25 rfl (by kernel_rfl) rfl (fin_cc HP.out.2.1 HP.out.2.2.1 _ _ _ _).2 hu28 rfl (by kernel_rfl)) rfl ⟨_, rfl, Kd.R_nil _ _ _ _ _, fin_below HP.out.1 _ _ _ _⟩
            · have d2 : (r == 120) = false := beq_eq_false_iff_ne.mpr c120
              by_cases c111 : r = 111
              · have d3 : (r == 111) = true := beq_iff_eq.mpr c111
                have hl : parseL a0.data.toList 0 false [] = .inl i := by rw [← HS.out, hdrop]; simp [parseL, i1, e1]
                have h := H.out
                rw [hl] at h
                simp only [Option.some.injEq, Prod.mk.injEq] at h
                obtain ⟨rfl, rfl, rfl, rfl⟩ := h
                have I1 := Aside0.mk i1
                clear i1
                go_wp2
                exact bodyPost_ret (results_cc rfl _ _ w.heap.size (w.heap.size + 1) 25 28 #[.bool false, .slice none 0 0] #[.int .i64 3, .int .i64 i] (0, 0) (0, 0) _ _ rfl (fin_cc HP.out.2.1 HP.out.2.2.1 _ _ _ _).1 hu25 rfl (by kernel_rfl) rfl (fin_cc HP.out.2.1 HP.out.2.2.1 _ _ _ _).2 hu28 rfl (by kernel_rfl)) rfl ⟨_, rfl, Kd.R_nil _ _ _ _ _, fin_below HP.out.1 _ _ _ _⟩
              · have d3 : (r == 111) = false := beq_eq_false_iff_ne.mpr c111
                have hl : parseL a0.data.toList 0 false [] = .inl i := by rw [← HS.out, hdrop]; simp [parseL, i1, e1]
                have h := H.out
                rw [hl] at h
                simp only [Option.some.injEq, Prod.mk.injEq] at h
                obtain ⟨rfl, rfl, rfl, rfl⟩ := h
                have I1 := Aside0.mk i1
                clear i1
                go_wp2
                exact bodyPost_ret (results_cc rfl _ _ w.heap.size (w.heap.size + 1) 25 28 #[.bool false, .slice none 0 0] #[.int .i64 3, .int .i64 i] (0, 0) (0, 0) _ _ rfl (fin_cc HP.out.2.1 HP.out.2.2.1 _ _ _ _).1 hu25 rfl (by kernel_rfl) rfl (fin_cc HP.out.2.1 HP.out.2.2.1 _ _ _ _).2 hu28 rfl (by kernel_rfl)) rfl ⟨_, rfl, Kd.R_nil _ _ _ _ _, fin_below HP.out.1 _ _ _ _⟩
        · have di1 : ((i : Int) == 1) = false := beq_eq_false_iff_ne.mpr (by omega)
          have di2 : decide (1 < (i : Int)) = true := decide_eq_true (by omega)
          have di2' : decide (1 < i) = true := decide_eq_true (by omega)
          by_cases c120 : r = 120
          · have e1 := h120.mp c120
            have d1 : (r == 120) = true := beq_iff_eq.mpr c120
            obtain rfl : wd = 1 := by rcases hcase with ⟨_, h1⟩ | h1 <;> omega
            have HS1 := Aside0.mk (show parseL (a0.data.toList.drop (i + 1)) (i + 1) b (acc ++ [true]) = parseL a0.data.toList 0 false [] by rw [← HS.out, hdrop]; simp [parseL, i0, i1, e1])
            go_wp2_with (at_builtin; refine Kd.R_append Kd.bool (w0 := w) w.heap.size rfl _ _ 23 4 (.bool false) 1 rfl Try.underlying23 info4 rfl (by decide) (by decide) (.slice A8 acc.length c8) acc true [.bool true] (fun _ => True) (fun _ => False) rfl rfl ?hp (fun _ h => h.elim) (fun _ _ => trivial) HR1.out HP.out.1 HP.out.1.size (by omega) ?_; (case hp => rfl); intro v1 w1 hRn hBn hgn _; obtain ⟨A9, c9, e9⟩ := Kd.R_slice hRn; subst e9; have HPN := Aside0.mk (HP.out.grown HR1.out hgn hBn); have HRN := Aside0.mk hRn; obtain ⟨z0, z1, z2, z3⟩ := con_cells HPN.out.2.2.2.1; clear hRn hBn hgn)
            go_roundw
            case rel => exact ⟨i + 1, b, acc ++ [true], .slice A9 (acc.length + 1) c9, hlt, by simp; omega, ⟨HPN.out.set1 (.slice A9 (acc.length + 1) c9)⟩, ⟨by have hq := Kd.R_set HRN.out HPN.out.2.2.2.1 (by decide) 1 (.slice A9 (acc.length + 1) c9); simpa using hq⟩, HS1⟩
            case measure =>
              have e1 := (HPN.out.set1 (.slice A9 (acc.length + 1) c9)).2.2.2.2
              have e2 := HP0.out.2.2.2.2
              simp only [World.iterPos, e1, e2]
              omega
          · have d1 : (r == 120) = false := beq_eq_false_iff_ne.mpr c120
            have e1 : ¬ lc = 120 := fun e => c120 (h120.mpr e)
            by_cases c111 : r = 111
            · have e2 := h111.mp c111
              have d2 : (r == 111) = true := beq_iff_eq.mpr c111
              obtain rfl : wd = 1 := by rcases hcase with ⟨_, h1⟩ | h1 <;> omega
              have HS1 := Aside0.mk (show parseL (a0.data.toList.drop (i + 1)) (i + 1) b (acc ++ [false]) = parseL a0.data.toList 0 false [] by rw [← HS.out, hdrop]; simp [parseL, i0, i1, e2])
              go_wp2_with (at_builtin; refine Kd.R_append Kd.bool (w0 := w) w.heap.size rfl _ _ 23 4 (.bool false) 1 rfl Try.underlying23 info4 rfl (by decide) (by decide) (.slice A8 acc.length c8) acc false [.bool false] (fun _ => True) (fun _ => False) rfl rfl ?hp (fun _ h => h.elim) (fun _ _ => trivial) HR1.out HP.out.1 HP.out.1.size (by omega) ?_; (case hp => rfl); intro v1 w1 hRn hBn hgn _; obtain ⟨A9, c9, e9⟩ := Kd.R_slice hRn; subst e9; have HPN := Aside0.mk (HP.out.grown HR1.out hgn hBn); have HRN := Aside0.mk hRn; obtain ⟨z0, z1, z2, z3⟩ := con_cells HPN.out.2.2.2.1; clear hRn hBn hgn)
              go_roundw
              case rel => exact ⟨i + 1, b, acc ++ [false], .slice A9 (acc.length + 1) c9, hlt, by simp; omega, ⟨HPN.out.set1 (.slice A9 (acc.length + 1) c9)⟩, ⟨by have hq := Kd.R_set HRN.out HPN.out.2.2.2.1 (by decide) 1 (.slice A9 (acc.length + 1) c9); simpa using hq⟩, HS1⟩
              case measure =>
                have e1 := (HPN.out.set1 (.slice A9 (acc.length + 1) c9)).2.2.2.2
                have e2 := HP0.out.2.2.2.2
                simp only [World.iterPos, e1, e2]
                omega
            · have d2 : (r == 111) = false := beq_eq_false_iff_ne.mpr c111
              have e2 : ¬ lc = 111 := fun e => c111 (h111.mpr e)
              have hl : parseL a0.data.toList 0 false [] = .inl i := by rw [← HS.out, hdrop]; simp [parseL, i0, i1, e1, e2]
              have h := H.out
              rw [hl] at h
              simp only [Option.some.injEq, Prod.mk.injEq] at h
              obtain ⟨rfl, rfl, rfl, rfl⟩ := h
              go_wp2
              exact bodyPost_ret (results_cc rfl _ _ w.heap.size (w.heap.size + 1) 25 28 #[.bool false, .slice none 0 0] #[.int .i64 3, .int .i64 i] (0, 0) (0, 0) _ _ rfl (fin_cc HP.out.2.1 HP.out.2.2.1 _ _ _ _).1 hu25 rfl (by kernel_rfl) rfl (fin_cc HP.out.2.1 HP.out.2.2.1 _ _ _ _).2 hu28 rfl (by kernel_rfl)) rfl ⟨_, rfl, Kd.R_nil _ _ _ _ _, fin_below HP.out.1 _ _ _ _⟩
    · obtain rfl : i = a0.size := by omega
      have hnx : ∀ ty, (Instr.next (.pointer (some ⟨w.heap.size + 3, 0, none⟩)) true ty).run Try.prog wr = _ := fun ty => Lib.run_next_end_at wr (w.heap.size + 3) a0 a0.size ty hit hlt
      have hl := HS.out
      rw [List.drop_of_length_le (by rw [HZ.out]; exact Nat.le_refl _), parseL] at hl
      have h := H.out
      rw [← hl] at h
      simp only [HZ.out] at h
      have HP := HP0
      obtain ⟨q0, q1, q2, q3⟩ := con_cells HP.out.2.1; obtain ⟨q4, q5, q6, q7⟩ := con_cells HP.out.2.2.1; obtain ⟨q8, q9, q10, q11⟩ := con_cells HP.out.2.2.2.1
      obtain ⟨A8, c8, e8⟩ := Kd.R_slice HR.out
      subst e8
      clear hl hit
      by_cases h2 : a0.size < 2
      · rw [if_pos h2] at h
        simp only [Option.some.injEq, Prod.mk.injEq] at h
        obtain ⟨rfl, rfl, rfl, rfl⟩ := h
        have d2 : decide ((a0.size : Int) < 2) = true := decide_eq_true (by omega)
        go_wp2
        exact bodyPost_ret (results_cc rfl _ _ w.heap.size (w.heap.size + 1) 25 28 #[.bool false, .slice none 0 0] #[.int .i64 3, .int .i64 a0.size] (0, 0) (0, 0) _ _ rfl (fin_cc HP.out.2.1 HP.out.2.2.1 _ _ _ _).1 hu25 rfl (by kernel_rfl) rfl (fin_cc HP.out.2.1 HP.out.2.2.1 _ _ _ _).2 hu28 rfl (by kernel_rfl)) rfl ⟨_, rfl, Kd.R_nil _ _ _ _ _, fin_below HP.out.1 _ _ _ _⟩
      · rw [if_neg h2] at h
        have d2 : decide ((a0.size : Int) < 2) = false := decide_eq_false (by omega)
        obtain ⟨e, he, h⟩ := Option.bind_eq_some_iff.mp h
        have HE := Aside0.mk he
        clear he
        by_cases c : e = 0
        · subst c
          rw [if_pos rfl] at h
          simp only [Option.some.injEq, Prod.mk.injEq] at h
          obtain ⟨rfl, rfl, rfl, rfl⟩ := h
          go_wp2_with (go_at_call 28; refine (lock_Check.calls 4096 b A8 c8 acc 0 _ ?hr ?hc HE.out).mono ?_; (case hr => exact (Kd.R_reads' HR.out).2.2); (case hc => exact (Kd.R_reads' HR.out).2.1); rintro e w1 ⟨rfl, hbw⟩; have HP2 := Aside0.mk (show Below w.heap.size w w1 ∧ _ ∧ _ ∧ _ from ⟨HP.out.1.trans (hbw.mono HP.out.1.size), blk_below HP.out.2.1 hbw, blk_below HP.out.2.2.1 hbw, blk_below HP.out.2.2.2.1 hbw⟩); have HR2 := Aside0.mk (Kd.R_below HR.out hbw); clear q0 q1 q2 q3 q4 q5 q6 q7 q8 q9 q10 q11 hbw; obtain ⟨q0, q1, q2, q3⟩ := con_cells HP2.out.2.1; obtain ⟨q4, q5, q6, q7⟩ := con_cells HP2.out.2.2.1; obtain ⟨q8, q9, q10, q11⟩ := con_cells HP2.out.2.2.2)
          have r1 := Kd.R_types (Kd.R_types HR2.out HP2.out.2.1 (by decide)) HP2.out.2.2.1 (by decide)
          have r2 := Kd.R_far (p := ⟨w.heap.size, 1, none⟩) (Kd.R_far (p := ⟨w.heap.size, 0, none⟩) r1 (fun _ hk => hk.1.2) (.bool b)) (fun _ hk => hk.1.2) (.slice A8 acc.length c8)
          have r3 := Kd.R_far (p := ⟨w.heap.size + 1, 1, none⟩) (Kd.R_far (p := ⟨w.heap.size + 1, 0, none⟩) r2 (fun _ hk => hk.2) (.int .i64 0)) (fun _ hk => hk.2) (.int .i64 0)
          exact bodyPost_ret (results_cc rfl _ _ w.heap.size (w.heap.size + 1) 25 28 #[.bool b, .slice A8 acc.length c8] #[.int .i64 0, .int .i64 0] (0, 0) (0, 0) _ _ rfl (fin_cc HP2.out.2.1 HP2.out.2.2.1 _ _ _ _).1 hu25 rfl (by kernel_rfl) rfl (fin_cc HP2.out.2.1 HP2.out.2.2.1 _ _ _ _).2 hu28 rfl (by kernel_rfl)) rfl ⟨_, rfl, Kd.R_mono r3 (fun _ _ => trivial), fin_below HP2.out.1 _ _ _ _⟩
        · rw [if_neg c] at h
          have cb : (e != 0) = true := bne_iff_ne.mpr c
          clear c
          simp only [Option.some.injEq, Prod.mk.injEq] at h
          obtain ⟨rfl, rfl, rfl, rfl⟩ := h
          go_wp2_with (go_at_call 28; refine (lock_Check.calls 4096 b A8 c8 acc e _ ?hr ?hc HE.out).mono ?_; (case hr => exact (Kd.R_reads' HR.out).2.2); (case hc => exact (Kd.R_reads' HR.out).2.1); rintro e w1 ⟨rfl, hbw⟩; have HP2 := Aside0.mk (show Below w.heap.size w w1 ∧ _ ∧ _ ∧ _ from ⟨HP.out.1.trans (hbw.mono HP.out.1.size), blk_below HP.out.2.1 hbw, blk_below HP.out.2.2.1 hbw, blk_below HP.out.2.2.2.1 hbw⟩); have HR2 := Aside0.mk (Kd.R_below HR.out hbw); clear q0 q1 q2 q3 q4 q5 q6 q7 q8 q9 q10 q11 hbw; obtain ⟨q0, q1, q2, q3⟩ := con_cells HP2.out.2.1; obtain ⟨q4, q5, q6, q7⟩ := con_cells HP2.out.2.2.1; obtain ⟨q8, q9, q10, q11⟩ := con_cells HP2.out.2.2.2)
          exact bodyPost_ret (results_cc rfl _ _ w.heap.size (w.heap.size + 1) 25 28 #[.bool false, .slice none 0 0] #[.int .i64 e, .int .i64 0] (0, 0) (0, 0) _ _ rfl (fin_cc HP2.out.2.1 HP2.out.2.2.1 _ _ _ _).1 hu25 rfl (by kernel_rfl) rfl (fin_cc HP2.out.2.1 HP2.out.2.2.1 _ _ _ _).2 hu28 rfl (by kernel_rfl)) rfl ⟨_, rfl, Kd.R_nil _ _ _ _ _, fin_below HP2.out.1 _ _ _ _⟩

end Go.Proofs.Ytdkabbjknclifaa.F
end
section
namespace Go.Proofs.Ytdkabbjknclifaa.F
open Go.RowKit Go.Shelf Go.Proofs.YtdkabbjknclifaaW.PrintWords Go.Proofs.YtdkabbjknclifaaW.PrintLast Go.Proofs.YtdkabbjknclifaaW.PrintMore
attribute [local go_sem] Oper.semAt_some Instr.field asAgg
set_option linter.unusedVariables false
set_option linter.unusedSimpArgs false
def lock_Slam.f (a0_0 : Bool) (l0_1 : List Bool) : Option (Bool × List Bool × Int × Int) :=
  (lock_Check.f 4096 a0_0 l0_1).bind fun e => if e = 0 then ((slices_Index_bool_bool.f 4096 l0_1 false).bind fun i => if i < 0 then some (false, [], 0, 6) else
    if l0_1.length ≤ 64 then (if i < l0_1.length then some (a0_0, l0_1.set i.toNat true, i, 0) else none) else none) else some (false, [], 0, e)
end Go.Proofs.Ytdkabbjknclifaa.F
end
section
namespace Go.Proofs.Ytdkabbjknclifaa.F
open Go.RowKit Go.Shelf Go.Proofs.YtdkabbjknclifaaW.PrintWords Go.Proofs.YtdkabbjknclifaaW.PrintLast Go.Proofs.YtdkabbjknclifaaW.PrintMore
attribute [local go_sem] Oper.semAt_some Instr.field asAgg
set_option linter.unusedVariables false
set_option linter.unusedSimpArgs false
set_option maxHeartbeats 4000000 in
set_option maxRecDepth 100000 in
theorem lock_Slam.calls (a0_0 : Bool) (A0_1 : Option Addr) (c0_1 : Nat) (l0_1 : List Bool) (r1 : Bool) (r2 : List Bool) (r3 : Int) (r4 : Int) (w : World) (hr0_1 : Kd.C Kd.bool w A0_1 l0_1.length l0_1) (hc0_1 : l0_1.length ≤ c0_1) (h : lock_Slam.f a0_0 l0_1 = some (r1, r2, r3, r4)) :
    Calls Try.prog 34 #[.agg #[.bool a0_0, .slice A0_1 l0_1.length c0_1]] w fun e w' => ∃ v1_ : Value, e = .returned (.tuple #[.agg #[.bool r1, v1_], .int .i64 r3, .int .i64 r4]) ∧ Kd.R Kd.bool 4 w' w.heap.size (fun _ => True) v1_ r2 ∧ Below w.heap.size w w' := by
  have hu25 := Try.underlying25
  have hu64 := Try.underlying64
  have hu66 := Try.underlying66
  unfold lock_Slam.f at h
  obtain ⟨e, he, h⟩ := Option.bind_eq_some_iff.mp h
  have HE := Aside0.mk he
  have HR := Aside0.mk hr0_1
  clear he hr0_1
  by_cases c : e = 0
  · subst c
    rw [if_pos rfl] at h
    obtain ⟨i, hx, h⟩ := Option.bind_eq_some_iff.mp h
    have HX := Aside0.mk hx
    clear hx
    by_cases c1 : i < 0
    · rw [if_pos c1] at h
      simp only [Option.some.injEq, Prod.mk.injEq] at h
      obtain ⟨rfl, rfl, rfl, rfl⟩ := h
      have d1 : decide (i < 0) = true := decide_eq_true c1
      clear c1
      go_enter Try.func34, Try.ntmps34
      go_wp2_with (first | (go_at_call 28; refine (lock_Check.calls 4096 a0_0 A0_1 c0_1 l0_1 0 _ ?hr hc0_1 HE.out).mono ?_; (case hr => exact Kd.C_below HR.out (((Below.refl _ w).alloc (Nat.le_refl _) _).alloc (by simp) _)); rintro e w1 ⟨rfl, hbw⟩; have HS := Aside0.mk (show Two w w1 _ _ from two_boxes hbw); obtain ⟨q0, q1, q2, q3⟩ := con_cells HS.out.2.1; obtain ⟨q4, q5, q6, q7⟩ := con_cells HS.out.2.2; have ql := blk_lt HS.out.2.1; have ql' := blk_lt HS.out.2.2; clear hbw) | (go_at_call 51; refine (slices_Index_bool_bool.calls 4096 A0_1 c0_1 l0_1 false i _ ?hr hc0_1 HX.out).mono ?_; (case hr => exact Kd.C_below HR.out HS.out.1); rintro e wm ⟨rfl, hd⟩; have hb := hd.below; clear hd; clear q0 q1 q2 q3 q4 q5 q6 q7 ql ql'; have HS1 := Aside0.mk (HS.out.below hb); clear HS; have HS := HS1; clear HS1; obtain ⟨q0, q1, q2, q3⟩ := con_cells HS.out.2.1; obtain ⟨q4, q5, q6, q7⟩ := con_cells HS.out.2.2; have ql := blk_lt HS.out.2.1; have ql' := blk_lt HS.out.2.2; clear hb))
      exact bodyPost_ret (results_ctt rfl _ _ (w.heap.size + 1) 25 #[.bool false, .slice none 0 0] (0, 0) _ rfl (blk_put (blk_put HS.out.2.2 0 _ rfl) 1 _ rfl) hu25 rfl (by kernel_rfl)) rfl ⟨_, rfl, Kd.R_nil _ _ _ _ _, (HS.out.1.setCell (p := ⟨w.heap.size + 1, 0, none⟩) (Nat.le_succ _) _).setCell (p := ⟨w.heap.size + 1, 1, none⟩) (Nat.le_succ _) _⟩
    · rw [if_neg c1] at h
      have d1 : decide (i < 0) = false := decide_eq_false c1
      by_cases c3 : l0_1.length ≤ 64
      · rw [if_pos c3] at h
        by_cases c2 : i < (l0_1.length : Int)
        · rw [if_pos c2] at h
          simp only [Option.some.injEq, Prod.mk.injEq] at h
          obtain ⟨rfl, rfl, rfl, rfl⟩ := h
          have HP := Aside0.mk (show 0 < l0_1.length by omega)
          have HL := Aside0.mk c3
          have HI := Aside0.mk c1
          have HI' := Aside0.mk (show ¬ (l0_1.length : Int) ≤ i by omega)
          clear c1 c2 c3
          go_enter Try.func34, Try.ntmps34
          go_upto_region 8 with (first | (go_at_call 28; refine (lock_Check.calls 4096 a0_0 A0_1 c0_1 l0_1 0 _ ?hr hc0_1 HE.out).mono ?_; (case hr => exact Kd.C_below HR.out (((Below.refl _ w).alloc (Nat.le_refl _) _).alloc (by simp) _)); rintro e w1 ⟨rfl, hbw⟩; have HS := Aside0.mk (show Two w w1 _ _ from two_boxes hbw); obtain ⟨q0, q1, q2, q3⟩ := con_cells HS.out.2.1; obtain ⟨q4, q5, q6, q7⟩ := con_cells HS.out.2.2; have ql := blk_lt HS.out.2.1; have ql' := blk_lt HS.out.2.2; clear hbw) | (go_at_call 42; refine (of_calls _ _ _ _ _).mono ?_; rintro e wo ⟨rfl, hb⟩; clear q0 q1 q2 q3 q4 q5 q6 q7 ql ql'; have HS1 := Aside0.mk (HS.out.below hb); clear HS; have HS := HS1; clear HS1; obtain ⟨q0, q1, q2, q3⟩ := con_cells HS.out.2.1; obtain ⟨q4, q5, q6, q7⟩ := con_cells HS.out.2.2; have ql := blk_lt HS.out.2.1; have ql' := blk_lt HS.out.2.2; clear hb) | (go_at_call 51; refine (slices_Index_bool_bool.calls 4096 A0_1 c0_1 l0_1 false i _ ?hr hc0_1 HX.out).mono ?_; (case hr => exact Kd.C_below HR.out HS.out.1); rintro e wm ⟨rfl, hd⟩; have hb := hd.below; clear hd; clear q0 q1 q2 q3 q4 q5 q6 q7 ql ql'; have HS1 := Aside0.mk (HS.out.below hb); clear HS; have HS := HS1; clear HS1; obtain ⟨q0, q1, q2, q3⟩ := con_cells HS.out.2.1; obtain ⟨q4, q5, q6, q7⟩ := con_cells HS.out.2.2; have ql := blk_lt HS.out.2.1; have ql' := blk_lt HS.out.2.2; clear hb) | (go_at_call 49; refine (chain_clone a0_0 A0_1 c0_1 l0_1 _ ?hr HP.out HL.out).mono ?_; (case hr => exact Kd.C_below HR.out HS.out.1); rintro e wc ⟨vc, rfl, hRc, hb⟩; obtain ⟨gc, cc, rfl, hgc, hgc', cells, hcells⟩ := Kd.R_form hRc HP.out; have HG := Aside0.mk (show w.heap.size + 2 ≤ gc by omega); have HRC := Aside0.mk (Kd.R_lower hRc HS.out.1.size); clear hRc hgc hgc' hcells; clear q0 q1 q2 q3 q4 q5 q6 q7 ql ql'; have HS1 := Aside0.mk (HS.out.below hb); clear HS; have HS := HS1; clear HS1; obtain ⟨q0, q1, q2, q3⟩ := con_cells HS.out.2.1; obtain ⟨q4, q5, q6, q7⟩ := con_cells HS.out.2.2; have ql := blk_lt HS.out.2.1; have ql' := blk_lt HS.out.2.2; clear hb))
          have hgl : gc < wc.heap.size := Kd.R_lt HRC.out gc rfl
          obtain ⟨W5, hW5⟩ : ∃ W5, (wc.alloc (Obj.cells #[Value.bool a0_0, Value.slice (some { block := gc, off := 0 }) l0_1.length cc] 64)) = W5 := ⟨_, rfl⟩
          have HT := Aside0.mk (show Two w W5 _ _ from HS.out.below (by rw [← hW5]; exact (Below.refl _ wc).alloc (Nat.le_refl _) _))
          have HO := Aside0.mk (show W5.heap[wc.heap.size]? = some (.cells #[Value.bool a0_0, Value.slice (some { block := gc, off := 0 }) l0_1.length cc] 64 (0, 0)) by rw [← hW5]; exact blk_new wc _)
          have HRD := Aside0.mk (show Kd.R Kd.bool 4 W5 w.heap.size (fun _ => True) (.slice (some ⟨gc, 0, none⟩) l0_1.length cc) l0_1 by rw [← hW5]; exact Kd.R_alloc HRC.out _)
          rw [hW5]
          have HWZ := Aside0.mk ql'
          clear q0 q1 q2 q3 q4 q5 q6 q7 ql ql'
          obtain ⟨q4, q5, q6, q7⟩ := con_cells HT.out.2.2
          obtain ⟨q0, q1, q2, q3⟩ := con_cells HO.out
          have p1 : (0 ≤ i) = True := eq_true (by have := HI.out; omega)
          have p2 : (i < (l0_1.length : Int)) = True := eq_true (by have := HI'.out; omega)
          have HCE := Kd.R_cell false HRD.out i (by have := HI.out; omega) (by have := HI'.out; omega)
          obtain ⟨q8, q9⟩ := HCE
          have n1 : wc.heap.size ≠ gc := by omega
          have n2 : gc ≠ wc.heap.size := by omega
          have n3 : wc.heap.size ≠ w.heap.size + 1 := by have := HWZ.out; omega
          have n4 : w.heap.size + 1 ≠ wc.heap.size := by have := HWZ.out; omega
          have n5 : gc ≠ w.heap.size + 1 := by have := HG.out; omega
          have n6 : w.heap.size + 1 ≠ gc := by have := HG.out; omega
          go_wp2
          have r1 := Kd.R_types (Kd.R_types HRD.out HO.out (by decide)) HT.out.2.2 (by decide)
          have r3 := (Kd.R_put r1 i true).1
          have r5 := Kd.R_far (p := ⟨w.heap.size + 1, 1, none⟩) (Kd.R_far (p := ⟨w.heap.size + 1, 0, none⟩) r3 (fun _ hk => hk.2) (.bool a0_0)) (fun _ hk => hk.2) (.slice (some ⟨gc, 0, none⟩) l0_1.length cc)
          have hz1 : w.heap.size ≤ wc.heap.size := by have := HWZ.out; omega
          have hz2 : w.heap.size ≤ gc := by have := HG.out; omega
          exact bodyPost_ret (results_ctt rfl _ _ (w.heap.size + 1) 25 #[.bool a0_0, .slice (some ⟨gc, 0, none⟩) l0_1.length cc] (0, 0) _ rfl (blk_put (blk_put (blk_far (p := ⟨gc, i.toNat, none⟩) HT.out.2.2 n6 _) 0 _ rfl) 1 _ rfl) hu25 rfl (by kernel_rfl)) rfl ⟨_, rfl, Kd.R_mono r5 (fun _ _ => trivial), ((HT.out.1.setCell (p := ⟨gc, i.toNat, none⟩) hz2 _).setCell (p := ⟨w.heap.size + 1, 0, none⟩) (Nat.le_succ _) _).setCell (p := ⟨w.heap.size + 1, 1, none⟩) (Nat.le_succ _) _⟩
        · rw [if_neg c2] at h
          cases h
      · rw [if_neg c3] at h
        cases h
  · rw [if_neg c] at h
    have cb : (e != 0) = true := bne_iff_ne.mpr c
    clear c
    simp only [Option.some.injEq, Prod.mk.injEq] at h
    obtain ⟨rfl, rfl, rfl, rfl⟩ := h
    go_enter Try.func34, Try.ntmps34
    go_wp2_with (first | (go_at_call 28; refine (lock_Check.calls 4096 a0_0 A0_1 c0_1 l0_1 e _ ?hr hc0_1 HE.out).mono ?_; (case hr => exact Kd.C_below HR.out (((Below.refl _ w).alloc (Nat.le_refl _) _).alloc (by simp) _)); rintro e w1 ⟨rfl, hbw⟩; have HS := Aside0.mk (show Two w w1 _ _ from two_boxes hbw); obtain ⟨q0, q1, q2, q3⟩ := con_cells HS.out.2.1; obtain ⟨q4, q5, q6, q7⟩ := con_cells HS.out.2.2; have ql := blk_lt HS.out.2.1; have ql' := blk_lt HS.out.2.2; clear hbw))
    exact bodyPost_ret (results_ctt rfl _ _ (w.heap.size + 1) 25 #[.bool false, .slice none 0 0] (0, 0) _ rfl (blk_put (blk_put HS.out.2.2 0 _ rfl) 1 _ rfl) hu25 rfl (by kernel_rfl)) rfl ⟨_, rfl, Kd.R_nil _ _ _ _ _, (HS.out.1.setCell (p := ⟨w.heap.size + 1, 0, none⟩) (Nat.le_succ _) _).setCell (p := ⟨w.heap.size + 1, 1, none⟩) (Nat.le_succ _) _⟩

end Go.Proofs.Ytdkabbjknclifaa.F
end
section
-- Written by fork.py (this session's program over the kit's print.py). Not trusted: Lean checks it.
namespace Go.Proofs.Ytdkabbjknclifaa.F
open Go.RowKit Go.Proofs.YtdkabbjknclifaaW.PrintWords Go.Proofs.YtdkabbjknclifaaW.PrintLast Go.Proofs.YtdkabbjknclifaaW.PrintMore
attribute [local go_sem] max2_int min2_int max_two min_two max_three min_three max_four min_four
set_option linter.unusedVariables false
set_option linter.unusedSimpArgs false

attribute [local go_sem high] eqA28
/-! ### L17_LockBack: function 8 -/
mutual
def L17_LockBack.j0 : Nat → Int → Int → Int → Int → Bool → Bool → List Bool → Option (Bool)
  | 0, _, _, _, _, _, _, _ => none
  | k + 1, x1, x7, x9, x10, x30, x489000, x489001 => if x30 = true then ((K_Mod.f x1 x7).bind fun t490 => ((lock_Unlock.f x489000 x489001 t490).bind fun bt491 => (L17_LockBack.j1 k x7 bt491.2.2 x10 bt491.1 bt491.2.1))) else (L17_LockBack.j1 k x7 x9 x10 x489000 x489001)
def L17_LockBack.j1 : Nat → Int → Int → Int → Bool → List Bool → Option (Bool)
  | 0, _, _, _, _, _ => none
  | k + 1, x7, x9, x10, x489000, x489001 => if x10 > 1 then (L17_LockBack.j2 k x7 x9 (x9 == 0) x489000 x489001) else (L17_LockBack.j2 k x7 x9 false x489000 x489001)
def L17_LockBack.j2 : Nat → Int → Int → Bool → Bool → List Bool → Option (Bool)
  | 0, _, _, _, _, _ => none
  | k + 1, x7, x9, x44, x489000, x489001 => if x44 = true then ((lock_Slam.f x489000 x489001).bind fun bt496 => (L17_LockBack.j3 k x7 bt496.2.2.2 bt496.1 bt496.2.1)) else (L17_LockBack.j3 k x7 x9 x489000 x489001)
def L17_LockBack.j3 : Nat → Int → Int → Bool → List Bool → Option (Bool)
  | 0, _, _, _, _ => none
  | k + 1, x7, x9, x489000, x489001 => (lock_Text.f x489000 x489001).bind fun bt502 => ((lock_Parse.f bt502.1).bind fun bt504 => (if x9 = 0 then (if bt502.2 = 0 then (if (bt504.2.2.1 == 0 && (bt504.2.2.2 == 0)) = true then (if (bt502.1.size : Int) = (wrap64 (x7 + 2)) then ((K_SameChain.f k bt504.1 bt504.2.1 x489000 x489001).bind fun t512 => (if t512 = true then ((L17_awake.f).bind fun t513 => (some t513)) else (some false))) else (some false)) else (some false)) else (some false)) else (some false)))
end
def L17_LockBack.f (k : Nat) (a0 : Int) (a1 : Int) (a2 : Int) : Option (Bool) := (K_Mod.f a0 63).bind fun t482 => ((lock_New.f (wrap64 (2 + t482))).bind fun bt483 => ((K_Mod.f a2 3).bind fun t489 => (if t489 > 0 then (L17_LockBack.j0 k a1 (wrap64 (2 + t482)) bt483.2.2 t489 (bt483.2.2 == 0) bt483.1 bt483.2.1) else (L17_LockBack.j0 k a1 (wrap64 (2 + t482)) bt483.2.2 t489 false bt483.1 bt483.2.1))))
theorem L17_LockBack.mono_l : ∀ k, (∀ y0 y1 y2 y3 y4 y5 y6, LeO (L17_LockBack.j0 k y0 y1 y2 y3 y4 y5 y6) (L17_LockBack.j0 (k + 1) y0 y1 y2 y3 y4 y5 y6)) ∧ (∀ y0 y1 y2 y3 y4, LeO (L17_LockBack.j1 k y0 y1 y2 y3 y4) (L17_LockBack.j1 (k + 1) y0 y1 y2 y3 y4)) ∧ (∀ y0 y1 y2 y3 y4, LeO (L17_LockBack.j2 k y0 y1 y2 y3 y4) (L17_LockBack.j2 (k + 1) y0 y1 y2 y3 y4)) ∧ (∀ y0 y1 y2 y3, LeO (L17_LockBack.j3 k y0 y1 y2 y3) (L17_LockBack.j3 (k + 1) y0 y1 y2 y3))
  | 0 => ⟨fun _ _ _ _ _ _ _ r h => by simp [L17_LockBack.j0] at h, fun _ _ _ _ _ r h => by simp [L17_LockBack.j1] at h, fun _ _ _ _ _ r h => by simp [L17_LockBack.j2] at h, fun _ _ _ _ r h => by simp [L17_LockBack.j3] at h⟩
  | k + 1 => by
    obtain ⟨ih0, ih1, ih2, ih3⟩ := L17_LockBack.mono_l k
    refine ⟨?_, ?_, ?_, ?_⟩
    · intro y0 y1 y2 y3 y4 y5 y6
      unfold L17_LockBack.j0
      repeat' first
      | (with_reducible exact ih0 _ _ _ _ _ _ _)
      | (with_reducible exact ih1 _ _ _ _ _)
      | (with_reducible exact ih2 _ _ _ _ _)
      | (with_reducible exact ih3 _ _ _ _)
      | (with_reducible exact K_SameChain.mono _ _ _ _ _)
      | (with_reducible exact LeO.refl _)
      | (with_reducible exact LeO.none _)
      | (with_reducible refine LeO.ite ?_ ?_)
      | (with_reducible refine LeO.bind ?_ (fun _ => ?_))
      | exact ih0 _ _ _ _ _ _ _
      | exact ih1 _ _ _ _ _
      | exact ih2 _ _ _ _ _
      | exact ih3 _ _ _ _
      | exact K_SameChain.mono _ _ _ _ _
      | exact LeO.none _
      | refine LeO.ite ?_ ?_
      | refine LeO.bind ?_ (fun _ => ?_)
    · intro y0 y1 y2 y3 y4
      unfold L17_LockBack.j1
      repeat' first
      | (with_reducible exact ih0 _ _ _ _ _ _ _)
      | (with_reducible exact ih1 _ _ _ _ _)
      | (with_reducible exact ih2 _ _ _ _ _)
      | (with_reducible exact ih3 _ _ _ _)
      | (with_reducible exact K_SameChain.mono _ _ _ _ _)
      | (with_reducible exact LeO.refl _)
      | (with_reducible exact LeO.none _)
      | (with_reducible refine LeO.ite ?_ ?_)
      | (with_reducible refine LeO.bind ?_ (fun _ => ?_))
      | exact ih0 _ _ _ _ _ _ _
      | exact ih1 _ _ _ _ _
      | exact ih2 _ _ _ _ _
      | exact ih3 _ _ _ _
      | exact K_SameChain.mono _ _ _ _ _
      | exact LeO.none _
      | refine LeO.ite ?_ ?_
      | refine LeO.bind ?_ (fun _ => ?_)
    · intro y0 y1 y2 y3 y4
      unfold L17_LockBack.j2
      repeat' first
      | (with_reducible exact ih0 _ _ _ _ _ _ _)
      | (with_reducible exact ih1 _ _ _ _ _)
      | (with_reducible exact ih2 _ _ _ _ _)
      | (with_reducible exact ih3 _ _ _ _)
      | (with_reducible exact K_SameChain.mono _ _ _ _ _)
      | (with_reducible exact LeO.refl _)
      | (with_reducible exact LeO.none _)
      | (with_reducible refine LeO.ite ?_ ?_)
      | (with_reducible refine LeO.bind ?_ (fun _ => ?_))
      | exact ih0 _ _ _ _ _ _ _
      | exact ih1 _ _ _ _ _
      | exact ih2 _ _ _ _ _
      | exact ih3 _ _ _ _
      | exact K_SameChain.mono _ _ _ _ _
      | exact LeO.none _
      | refine LeO.ite ?_ ?_
      | refine LeO.bind ?_ (fun _ => ?_)
    · intro y0 y1 y2 y3
      unfold L17_LockBack.j3
      repeat' first
      | (with_reducible exact ih0 _ _ _ _ _ _ _)
      | (with_reducible exact ih1 _ _ _ _ _)
      | (with_reducible exact ih2 _ _ _ _ _)
      | (with_reducible exact ih3 _ _ _ _)
      | (with_reducible exact K_SameChain.mono _ _ _ _ _)
      | (with_reducible exact LeO.refl _)
      | (with_reducible exact LeO.none _)
      | (with_reducible refine LeO.ite ?_ ?_)
      | (with_reducible refine LeO.bind ?_ (fun _ => ?_))
      | exact ih0 _ _ _ _ _ _ _
      | exact ih1 _ _ _ _ _
      | exact ih2 _ _ _ _ _
      | exact ih3 _ _ _ _
      | exact K_SameChain.mono _ _ _ _ _
      | exact LeO.none _
      | refine LeO.ite ?_ ?_
      | refine LeO.bind ?_ (fun _ => ?_)
theorem L17_LockBack.mono : ∀ a0 a1 a2 k, LeO (L17_LockBack.f k a0 a1 a2) (L17_LockBack.f (k + 1) a0 a1 a2) := by
  intro a0 a1 a2 k
  obtain ⟨ih0, ih1, ih2, ih3⟩ := L17_LockBack.mono_l k
  unfold L17_LockBack.f
  repeat' first
      | (with_reducible exact ih0 _ _ _ _ _ _ _)
      | (with_reducible exact ih1 _ _ _ _ _)
      | (with_reducible exact ih2 _ _ _ _ _)
      | (with_reducible exact ih3 _ _ _ _)
      | (with_reducible exact K_SameChain.mono _ _ _ _ _)
      | (with_reducible exact LeO.refl _)
      | (with_reducible exact LeO.none _)
      | (with_reducible refine LeO.ite ?_ ?_)
      | (with_reducible refine LeO.bind ?_ (fun _ => ?_))
      | exact ih0 _ _ _ _ _ _ _
      | exact ih1 _ _ _ _ _
      | exact ih2 _ _ _ _ _
      | exact ih3 _ _ _ _
      | exact K_SameChain.mono _ _ _ _ _
      | exact LeO.none _
      | refine LeO.ite ?_ ?_
      | refine LeO.bind ?_ (fun _ => ?_)
def L17_LockBack.T5 : Bool × List (List Nat × List Nat) := (true, [([], []), ([], []), ([], []), ([1, 2], [1, 2]), ([0, 3, 3], [0, 3]), ([4], [4]), ([5], [5]), ([5], [5]), ([6, 4, 0, 1, 2, 3, 4, 5, 6], [6]), ([7, 8, 0, 1, 2, 3, 4, 5, 6, 7, 8], [7])])
def L17_LockBack.B5 : List Nat := [0, 0, 0, 6, 15, 31, 63, 63, 127, 511]
theorem L17_LockBack.tab5 : rtab .any (opsOf Try.f8 5) = L17_LockBack.T5 := by kernel_rfl
theorem L17_LockBack.bits5 : waitsOk L17_LockBack.T5.2 L17_LockBack.B5 = true := by kernel_rfl
set_option maxHeartbeats 8000000 in
set_option maxRecDepth 100000 in
theorem L17_LockBack.calls (k : Nat) (a0 : Int) (a1 : Int) (a2 : Int) (r : Bool) (w : World) (h : L17_LockBack.f k a0 a1 a2 = some r) (ht_ : r = true := by rfl) :
    Calls Try.prog 8 #[.int .i64 a0, .int .i64 a1, .int .i64 a2] w fun e w' => e = .returned (.bool r) ∧ Below w.heap.size w w' := by
  subst ht_
  have hu25 := Try.underlying25
  have hu28 := Try.underlying28
  have HB := Aside0.mk (Below.refl w.heap.size w)
  have H : ((K_Mod.f a0 63).bind fun t482 => ((lock_New.f (wrap64 (2 + t482))).bind fun bt483 => ((K_Mod.f a2 3).bind fun t489 => (if t489 > 0 then (L17_LockBack.j0 k a1 (wrap64 (2 + t482)) bt483.2.2 t489 (bt483.2.2 == 0) bt483.1 bt483.2.1) else (L17_LockBack.j0 k a1 (wrap64 (2 + t482)) bt483.2.2 t489 false bt483.1 bt483.2.1))))) = some true := h
  clear h
  replace H := Option.bind_eq_some_iff.mp H
  obtain ⟨t482, A40, H⟩ := H
  replace H : ((lock_New.f (wrap64 (2 + t482))).bind fun bt483 => ((K_Mod.f a2 3).bind fun t489 => (if t489 > 0 then (L17_LockBack.j0 k a1 (wrap64 (2 + t482)) bt483.2.2 t489 (bt483.2.2 == 0) bt483.1 bt483.2.1) else (L17_LockBack.j0 k a1 (wrap64 (2 + t482)) bt483.2.2 t489 false bt483.1 bt483.2.1)))) = some true := H
  have A4 := Aside0.mk A40
  clear A40
  replace H := Option.bind_eq_some_iff.mp H
  obtain ⟨⟨t483, t484, t487⟩, A50, H⟩ := H
  replace H : ((K_Mod.f a2 3).bind fun t489 => (if t489 > 0 then (L17_LockBack.j0 k a1 (wrap64 (2 + t482)) t487 t489 (t487 == 0) t483 t484) else (L17_LockBack.j0 k a1 (wrap64 (2 + t482)) t487 t489 false t483 t484))) = some true := H
  have A5 := Aside0.mk A50
  clear A50
  replace H := Option.bind_eq_some_iff.mp H
  obtain ⟨t489, A60, H⟩ := H
  replace H : (if t489 > 0 then (L17_LockBack.j0 k a1 (wrap64 (2 + t482)) t487 t489 (t487 == 0) t483 t484) else (L17_LockBack.j0 k a1 (wrap64 (2 + t482)) t487 t489 false t483 t484)) = some true := H
  have A6 := Aside0.mk A60
  clear A60
  have HC7 := Aside0.mk H
  clear H
  go_enter Try.func8, Try.ntmps8
  go_upto_region 4 with (first | ((with_reducible refine gate_callee (f := 36) rfl ?_); refine goesL_ (some 16) rfl rfl Try.func36 (by kernel_rfl) rfl #[.int .i64 a0, .int .i64 63] rfl (by (try simp only [List.map_toArray, List.map_cons, List.map_nil]); first | done | rfl | (simp only [List.length_drop, List.length_take]; rfl)) ?_; (with_reducible refine (K_Mod.calls a0 63 t482 _ A4.out).mono ?_); rintro e w' ⟨rfl, ⟨nd, rfl⟩⟩; refine ⟨_, rfl, ?_⟩) | ((with_reducible refine gate_callee (f := 26) rfl ?_); refine goesL_ (some 20) rfl rfl Try.func26 (by kernel_rfl) rfl #[.int .i64 (wrap64 (2 + t482))] rfl (by (try simp only [List.map_toArray, List.map_cons, List.map_nil]); first | done | rfl | (simp only [List.length_drop, List.length_take]; rfl)) ?_; (with_reducible refine (lock_New.calls (wrap64 (2 + t482)) t483 t484 t487 _ A5.out).mono ?_); rintro e w8 ⟨v485, rfl, ho0, hb⟩; refine ⟨_, rfl, ?_⟩; have n0_ := Aside0.mk (Kd.R_lower ho0 (below_size (by repeat (first | (with_reducible first | exact HB.out | apply below_alloc | apply pw_below_drewN | apply below_drew1) | exact HB.out)))); have n1_ := Aside0.mk (below_step (by repeat (first | (with_reducible first | exact HB.out | apply below_alloc | apply pw_below_drewN | apply below_drew1) | exact HB.out)) hb); clear HB; have HO486 := n0_; have HB := n1_; clear n0_ n1_; (try clear hb); (try clear hb2); (try clear hk); (try clear hi); (try clear ho0)) | ((with_reducible refine gate_dst (N := 8) rfl ?_); (try (refine gate_guard (by rfl) ?_; dsimp only)); refine box_event ?hg (N := 8) ?hd (cs := #[.bool false, .slice none 0 0]) (t := 25) ?hr ?_; (case hd => rfl); (case hg => rfl); (case hr => first | (go_simp; done) | (go_simp; rfl)); intro gb488 hg w9 hbox hb; have n0_ := Aside0.mk (Kd.R_below (by (with_reducible repeat (first | apply Kd.R_alloc | apply Kd.R_drewN | apply Kd.R_drew)); exact HO486.out) hb); have n1_ := Aside0.mk (below_step (by repeat (first | (with_reducible first | exact HB.out | apply below_alloc | apply pw_below_drewN | apply below_drew1) | exact HB.out)) hb); have n2_ := Aside0.mk (hbox); have n3_ := Aside0.mk ((by rw [hg]; exact (below_size (by repeat (first | (with_reducible first | exact HB.out | apply below_alloc | apply pw_below_drewN | apply below_drew1) | exact HB.out))) : w.heap.size ≤ gb488)); have n4_ := Aside0.mk ((by rw [hg]; exact (below_size (by repeat (first | (with_reducible first | exact HB.out | apply below_alloc | apply pw_below_drewN | apply below_drew1) | exact HB.out))) : w.heap.size ≤ gb488)); clear HO486; clear HB; have HO486 := n0_; have HB := n1_; have BK488 := n2_; have GW488 := n3_; have GE488 := n4_; clear n0_ n1_ n2_ n3_ n4_; clear hb hbox hg; have hcz10_0 : w9.cell? ⟨gb488, 0, none⟩ = some (.bool false) := (blk_cell BK488.out 0).trans rfl; have hcz10_1 : w9.cell? ⟨gb488, 1, none⟩ = some (.slice none 0 0) := (blk_cell BK488.out 1).trans rfl; have hfz10_0 := blk_frozen BK488.out 0; have hfz10_1 := blk_frozen BK488.out 1; obtain ⟨Ao11, co11, eo11⟩ := Kd.R_slice HO486.out; subst eo11) | ((with_reducible refine gate_callee (f := 36) rfl ?_); refine goesL_ (some 24) rfl rfl Try.func36 (by kernel_rfl) rfl #[.int .i64 a2, .int .i64 3] rfl (by (try simp only [List.map_toArray, List.map_cons, List.map_nil]); first | done | rfl | (simp only [List.length_drop, List.length_take]; rfl)) ?_; (with_reducible refine (K_Mod.calls a2 3 t489 _ A6.out).mono ?_); rintro e w' ⟨rfl, ⟨nd, rfl⟩⟩; refine ⟨_, rfl, ?_⟩))
  (try simp only [Act.put, List.setIfInBounds_toArray, List.set_cons_zero, List.set_cons_succ])
  go_cut [30] (fun v30 wc => ∃ (kq : Nat) (x30_6 : Bool), v30 = .bool x30_6 ∧ Aside0 (L17_LockBack.j0 kq a1 (wrap64 (2 + t482)) t487 t489 x30_6 t483 t484 = some true) ∧ Aside0 (kq ≤ k) ∧ Aside0 (Kd.R Kd.bool 4 wc w.heap.size (fun _ => True) (.slice Ao11 t484.length co11) t484) ∧ Aside0 (wc.heap[gb488]? = some (.cells #[.bool t483, (.slice Ao11 t484.length co11)] 25 (0, 0))) ∧ Aside0 (Below w.heap.size w wc))
  case first =>
    have H := HC7.out
    clear HC7
    by_cases c12 : t489 > 0
    · rw [if_pos c12] at H
      have c12b0 : decide (0 < t489) = true := decide_eq_true c12
      clear c12
      (first | rw [c12b0] | (simp only [i64_w, i32_w]; rw [c12b0]) | skip)
      have H' := Aside0.mk H
      clear H
      go_wp2
      go_meet
      case rel => exact ⟨_, ((t487 == 0)), (by first | rfl | (simp; done) | (simp [*]; done)), H', ⟨by first | omega | exact Nat.le_refl _⟩, ⟨by (with_reducible repeat (first | apply Kd.R_alloc | apply Kd.R_drewN | apply Kd.R_drew)); exact Kd.R_mono (Kd.R_far (p := ⟨gb488, 1, none⟩) (Kd.R_far (p := ⟨gb488, 0, none⟩) (Kd.R_types HO486.out BK488.out (by decide)) (fun _ hk => hk.2) (.bool t483)) (fun _ hk => hk.2) (.slice Ao11 t484.length co11)) (fun _ hk => trivial)⟩, ⟨by (with_reducible repeat (first | refine blk_drewN ?_ _ | refine blk_drew ?_ | refine blk_alloc ?_ _)); refine blk_put (cs := #[.bool t483, .slice none 0 0]) ?_ 1 _ rfl; (with_reducible repeat (first | refine blk_drewN ?_ _ | refine blk_drew ?_ | refine blk_alloc ?_ _)); refine blk_put (cs := #[.bool false, .slice none 0 0]) ?_ 0 _ rfl; (with_reducible repeat (first | refine blk_drewN ?_ _ | refine blk_drew ?_ | refine blk_alloc ?_ _)); exact BK488.out⟩, ⟨by repeat (first | (with_reducible first | exact HB.out | apply below_alloc | apply pw_below_drewN | apply below_drew1 | refine below_set ?_ GE488.out) | exact HB.out)⟩⟩
    · rw [if_neg c12] at H
      have c12b0 : decide (0 < t489) = false := decide_eq_false c12
      clear c12
      (first | rw [c12b0] | (simp only [i64_w, i32_w]; rw [c12b0]) | skip)
      have H' := Aside0.mk H
      clear H
      go_wp2
      go_meet
      case rel => exact ⟨_, (false), (by first | rfl | (simp; done) | (simp [*]; done)), H', ⟨by first | omega | exact Nat.le_refl _⟩, ⟨by (with_reducible repeat (first | apply Kd.R_alloc | apply Kd.R_drewN | apply Kd.R_drew)); exact Kd.R_mono (Kd.R_far (p := ⟨gb488, 1, none⟩) (Kd.R_far (p := ⟨gb488, 0, none⟩) (Kd.R_types HO486.out BK488.out (by decide)) (fun _ hk => hk.2) (.bool t483)) (fun _ hk => hk.2) (.slice Ao11 t484.length co11)) (fun _ hk => trivial)⟩, ⟨by (with_reducible repeat (first | refine blk_drewN ?_ _ | refine blk_drew ?_ | refine blk_alloc ?_ _)); refine blk_put (cs := #[.bool t483, .slice none 0 0]) ?_ 1 _ rfl; (with_reducible repeat (first | refine blk_drewN ?_ _ | refine blk_drew ?_ | refine blk_alloc ?_ _)); refine blk_put (cs := #[.bool false, .slice none 0 0]) ?_ 0 _ rfl; (with_reducible repeat (first | refine blk_drewN ?_ _ | refine blk_drew ?_ | refine blk_alloc ?_ _)); exact BK488.out⟩, ⟨by repeat (first | (with_reducible first | exact HB.out | apply below_alloc | apply pw_below_drewN | apply below_drew1 | refine below_set ?_ GE488.out) | exact HB.out)⟩⟩
  case rest =>
    clear HC7
    try clear c1
    try clear c2
    try clear p2
    try clear c3
    try clear p6
    try clear c8
    try clear c12
    try clear c12b0
    try clear hcz10_0
    try clear hcz10_1
    try clear hfz10_0
    try clear hfz10_1
    obtain ⟨kq, x30_6, rfl, HA, HJ6, HO_489001, BK488, HB⟩ := hcut
    cases kq with
    | zero => exact absurd HA.out (by simp [L17_LockBack.j0])
    | succ kj6 =>
      have H := HA.out
      clear HA
      simp only [L17_LockBack.j0] at H
      have HC13 := Aside0.mk H
      clear H
      go_upto_if 30 with (fail)
      go_cut [9] (fun v9 wc => ∃ (kq : Nat) (x9_12 : Int) (x489000_12 : Bool) (x489001_12 : List Bool) (u489001 : Value), v9 = .int .i64 x9_12 ∧ Aside0 (L17_LockBack.j1 kq (wrap64 (2 + t482)) x9_12 t489 x489000_12 x489001_12 = some true) ∧ Aside0 (kq ≤ kj6) ∧ Aside0 (Kd.R Kd.bool 4 wc w.heap.size (fun _ => True) u489001 x489001_12) ∧ Aside0 (wc.heap[gb488]? = some (.cells #[.bool x489000_12, u489001] 25 (0, 0))) ∧ Aside0 (Below w.heap.size w wc))
      case first =>
        have H := HC13.out
        clear HC13
        by_cases c14 : x30_6 = true
        · subst c14
          have H1 : ((K_Mod.f a1 (wrap64 (2 + t482))).bind fun t490 => ((lock_Unlock.f t483 t484 t490).bind fun bt491 => (L17_LockBack.j1 kj6 (wrap64 (2 + t482)) bt491.2.2 t489 bt491.1 bt491.2.1))) = some true := by rw [if_pos rfl] at H; exact H
          clear H
          have H := H1
          clear H1
          replace H := Option.bind_eq_some_iff.mp H
          obtain ⟨t490, A150, H⟩ := H
          replace H : ((lock_Unlock.f t483 t484 t490).bind fun bt491 => (L17_LockBack.j1 kj6 (wrap64 (2 + t482)) bt491.2.2 t489 bt491.1 bt491.2.1)) = some true := H
          have A15 := Aside0.mk A150
          clear A150
          replace H := Option.bind_eq_some_iff.mp H
          obtain ⟨⟨t491, t492, t495⟩, A160, H⟩ := H
          replace H : (L17_LockBack.j1 kj6 (wrap64 (2 + t482)) t495 t489 t491 t492) = some true := H
          have A16 := Aside0.mk A160
          clear A160
          have H' := Aside0.mk H
          clear H
          try go_wp2
          have n0_ := Aside0.mk (Kd.R_drew HO_489001.out)
          have n1_ := Aside0.mk (blk_drew BK488.out)
          have n2_ := Aside0.mk (below_drew1 HB.out)
          clear HO_489001
          clear BK488
          clear HB
          have HO_489001 := n0_
          have BK488 := n1_
          have HB := n2_
          clear n0_ n1_ n2_
          refine start_ (n := 10) (S := fun w' => w'.cell? ⟨gb488, 0, none⟩ = some (.bool t483) ∧ w'.cell? ⟨gb488, 1, none⟩ = some (.slice Ao11 t484.length co11)) (ds := [8]) #[false, false, false, false, false, false, false, false, false, false] (by kernel_rfl) rfl rfl ⟨(blk_cell BK488.out 0).trans rfl, (blk_cell BK488.out 1).trans rfl⟩ (fun hHeld => ?_); refine with_tabW L17_LockBack.tab5 L17_LockBack.bits5 (fun HT_ HW_ => ?_)
          generalize wc.drew = w17 at HO_489001 BK488 HB hHeld ⊢
          refine pure_ (i := 1) (N := some 33) (v := ?_) (a' := ?_) #[false, true, false, false, false, false, false, false, false, false] rfl rfl (any_of HT_.out (by kernel_rfl)) (fun _ _ _ h => h) (Or.inl ⟨by rfl, ?_⟩) ?_ ?_
          rotate_left
          · intro w'
            go_simp
            with_reducible rfl
          rotate_left
          · simp only [Act.put, List.setIfInBounds_toArray, List.set_cons_zero, List.set_cons_succ, i64_w, i32_w]
            rfl
          refine pure_ (i := 2) (N := some 34) (v := ?_) (a' := ?_) #[false, true, true, false, false, false, false, false, false, false] rfl rfl (any_of HT_.out (by kernel_rfl)) (fun _ _ _ h => h) (Or.inl ⟨by rfl, ?_⟩) ?_ ?_
          rotate_left
          · intro w'
            go_simp
            with_reducible rfl
          rotate_left
          · simp only [Act.put, List.setIfInBounds_toArray, List.set_cons_zero, List.set_cons_succ, i64_w, i32_w]
            rfl
          refine take_ (i := 0) (N := some 32) (v := ?_) (a' := ?_) #[true, true, true, false, false, false, false, false, false, false] rfl rfl (take_ofW HT_.out HW_.out (by kernel_rfl)) (fun _ _ _ h => h) (Or.inl ⟨by rfl, ?_⟩) hHeld ?_ ?_
          rotate_left
          · rintro w' ⟨s0, s1⟩
            go_simp
            with_reducible rfl
          rotate_left
          · simp only [Act.put, List.setIfInBounds_toArray, List.set_cons_zero, List.set_cons_succ, i64_w, i32_w]
            rfl
          refine one_ (i := 3) (N := some 35) #[true, true, true, true, false, false, false, false, false, false] rfl rfl (one_of HT_.out (by kernel_rfl)) (by decide) (fun K hK => ?_)
          refine goes_ Try.func36 (by kernel_rfl) rfl #[.int .i64 a1, .int .i64 (wrap64 (2 + t482))] (by rfl) rfl rfl (by (try simp only [List.map_toArray, List.map_cons, List.map_nil]); first | done | rfl | (simp only [List.length_drop, List.length_take]; rfl)) ?_
          with_reducible refine (K_Mod.calls a1 (wrap64 (2 + t482)) t490 _ A15.out).mono ?_
          rintro e w' ⟨rfl, ⟨nd, rfl⟩⟩
          refine ⟨_, rfl, ?_⟩
          refine hK.out _ _ ⟨(blk_cell BK488.out 0).trans rfl, (blk_cell BK488.out 1).trans rfl⟩ (fun hHeld => ?_)
          clear hK K
          refine norm_ (a' := ?_) ?_ ?_
          rotate_left
          · show Act.put _ (some 35) _ = _
            simp only [Act.put, List.setIfInBounds_toArray, List.set_cons_zero, List.set_cons_succ, i64_w, i32_w]
            rfl
          refine one_ (i := 4) (N := some 36) #[true, true, true, true, true, false, false, false, false, false] rfl rfl (one_of HT_.out (by kernel_rfl)) (by decide) (fun K hK => ?_)
          refine goes_ Try.func30 (by kernel_rfl) rfl #[.agg #[.bool t483, .slice Ao11 t484.length co11], .int .i64 t490] (by rfl) rfl rfl (by (try simp only [List.map_toArray, List.map_cons, List.map_nil]); first | done | rfl | (simp only [List.length_drop, List.length_take]; rfl)) ?_
          with_reducible refine (lock_Unlock.calls t483 _ _ t484 t490 t491 t492 t495 _ ?side1 ?side2 A16.out).mono ?_
          (case side1 => repeat (first | exact (Kd.R_reads' HO_489001.out).2.2 | (with_reducible refine Kd.C_alloc ?_ _) | (with_reducible refine Kd.C_drewN ?_ _) | (with_reducible refine Kd.C_drew ?_)))
          (case side2 => exact (Kd.R_reads' HO_489001.out).2.1)
          rintro e w18 ⟨v493, rfl, ho0, hb⟩
          refine ⟨_, rfl, ?_⟩
          have n0_ := Aside0.mk (Kd.R_elder' (by (with_reducible repeat (first | apply Kd.R_alloc | apply Kd.R_drewN | apply Kd.R_drew)); exact HO_489001.out) (Kd.R_base ho0) hb)
          have n1_ := Aside0.mk (Kd.R_lower (Kd.R_new' ho0 (Kd.R_lt (by (with_reducible repeat (first | apply Kd.R_alloc | apply Kd.R_drewN | apply Kd.R_drew)); exact HO_489001.out))) (below_size (by repeat (first | (with_reducible first | exact HB.out | apply below_alloc | apply pw_below_drewN | apply below_drew1 | refine below_set ?_ GE488.out) | exact HB.out))))
          have n2_ := Aside0.mk (blk_below (g := gb488) (o := .cells #[.bool t483, .slice Ao11 t484.length co11] 25 (0, 0)) (by (with_reducible repeat (first | refine blk_drewN ?_ _ | refine blk_drew ?_ | refine blk_alloc ?_ _)); exact BK488.out) hb)
          have n3_ := Aside0.mk (below_step (by repeat (first | (with_reducible first | exact HB.out | apply below_alloc | apply pw_below_drewN | apply below_drew1 | refine below_set ?_ GE488.out) | exact HB.out)) hb)
          clear HO_489001
          clear BK488
          clear HB
          have HO_489001 := n0_
          have HO494 := n1_
          have BK488 := n2_
          have HB := n3_
          clear n0_ n1_ n2_ n3_
          (try clear hb)
          (try clear hb2)
          (try clear hk)
          (try clear hi)
          (try clear ho0)
          obtain ⟨Ao20, co20, eo20⟩ := Kd.R_slice HO494.out
          (first | subst eo20 | (injection eo20 with f1_ f2_ f3_; have f4_ := f1_.symm; have f5_ := f3_.symm; clear f1_ f2_ f3_; subst f4_; subst f5_))
          refine hK.out _ _ ⟨(blk_cell BK488.out 0).trans rfl, (blk_cell BK488.out 1).trans rfl⟩ (fun hHeld => ?_)
          clear hK K
          refine norm_ (a' := ?_) ?_ ?_
          rotate_left
          · show Act.put _ (some 36) _ = _
            simp only [Act.put, List.setIfInBounds_toArray, List.set_cons_zero, List.set_cons_succ, i64_w, i32_w]
            rfl
          refine pure_ (i := 5) (N := some 31) (v := ?_) (a' := ?_) #[true, true, true, true, true, true, false, false, false, false] rfl rfl (any_of HT_.out (by kernel_rfl)) (fun _ _ _ h => h) (Or.inl ⟨by rfl, ?_⟩) ?_ ?_
          rotate_left
          · intro w'
            go_simp
            with_reducible rfl
          rotate_left
          · simp only [Act.put, List.setIfInBounds_toArray, List.set_cons_zero, List.set_cons_succ, i64_w, i32_w]
            rfl
          refine pure_ (i := 6) (N := some 37) (v := ?_) (a' := ?_) #[true, true, true, true, true, true, true, false, false, false] rfl rfl (any_of HT_.out (by kernel_rfl)) (fun _ _ _ h => h) (Or.inl ⟨by rfl, ?_⟩) ?_ ?_
          rotate_left
          · intro w'
            go_simp
            with_reducible rfl
          rotate_left
          · simp only [Act.put, List.setIfInBounds_toArray, List.set_cons_zero, List.set_cons_succ, i64_w, i32_w]
            rfl
          refine pure_ (i := 7) (N := some 38) (v := ?_) (a' := ?_) #[true, true, true, true, true, true, true, true, false, false] rfl rfl (any_of HT_.out (by kernel_rfl)) (fun _ _ _ h => h) (Or.inl ⟨by rfl, ?_⟩) ?_ ?_
          rotate_left
          · intro w'
            go_simp
            with_reducible rfl
          rotate_left
          · simp only [Act.put, List.setIfInBounds_toArray, List.set_cons_zero, List.set_cons_succ, i64_w, i32_w]
            rfl
          refine last_ (i := 8) (N := none) #[true, true, true, true, true, true, true, true, true, false] rfl rfl (one_of HT_.out (by kernel_rfl)) (by decide) (fun K hK => ?_)
          have hs19 : w18.cell? ⟨gb488, 0, none⟩ = some (.bool t483) := (blk_cell BK488.out 0).trans rfl
          have hfs19 := blk_frozen BK488.out 0
          have hs21 : w18.cell? ⟨gb488, 1, none⟩ = some (.slice Ao11 t484.length co11) := (blk_cell BK488.out 1).trans rfl
          have hfs21 := blk_frozen BK488.out 1
          refine skip_ (w1 := ?_) (by rfl) rfl ?_ ?_
          rotate_left
          · go_simp
            rfl
          refine hK.out _ _ ?_
          clear hK K
          refine pure_ (i := 9) (N := some 9) (v := ?_) (a' := ?_) #[true, true, true, true, true, true, true, true, true, true] rfl rfl (any_of HT_.out (by kernel_rfl)) (fun _ _ _ h => h) (Or.inl ⟨by rfl, ?_⟩) ?_ ?_
          rotate_left
          · intro w'
            go_simp
            with_reducible rfl
          rotate_left
          · simp only [Act.put, List.setIfInBounds_toArray, List.set_cons_zero, List.set_cons_succ, i64_w, i32_w]
            rfl
          refine done_ (done_of HT_.out (by kernel_rfl)) ?_
          try go_wp2
          go_meet
          case rel => exact ⟨_, (t495), (t491), (t492), (.slice Ao20 t492.length co20), (by first | rfl | (simp; done) | (simp [*]; done)), H', ⟨by have := HJ6.out; first | omega | exact Nat.le_refl _⟩, ⟨by (with_reducible repeat (first | apply Kd.R_alloc | apply Kd.R_drewN | apply Kd.R_drew)); exact Kd.R_mono (Kd.R_far (p := ⟨gb488, 1, none⟩) (Kd.R_far (p := ⟨gb488, 0, none⟩) (Kd.R_types HO494.out BK488.out (by decide)) (fun _ hk => hk.2) (.bool t491)) (fun _ hk => hk.2) (.slice Ao20 t492.length co20)) (fun _ hk => trivial)⟩, ⟨by (with_reducible repeat (first | refine blk_drewN ?_ _ | refine blk_drew ?_ | refine blk_alloc ?_ _)); refine blk_put (cs := #[.bool t491, .slice Ao11 t484.length co11]) ?_ 1 _ rfl; (with_reducible repeat (first | refine blk_drewN ?_ _ | refine blk_drew ?_ | refine blk_alloc ?_ _)); refine blk_put (cs := #[.bool t483, .slice Ao11 t484.length co11]) ?_ 0 _ rfl; (with_reducible repeat (first | refine blk_drewN ?_ _ | refine blk_drew ?_ | refine blk_alloc ?_ _)); exact BK488.out⟩, ⟨by repeat (first | (with_reducible first | exact HB.out | apply below_alloc | apply pw_below_drewN | apply below_drew1 | refine below_set ?_ GE488.out) | exact HB.out)⟩⟩
        · replace c14 := Bool.eq_false_iff.mpr c14
          subst c14
          have H1 : (L17_LockBack.j1 kj6 (wrap64 (2 + t482)) t487 t489 t483 t484) = some true := by rw [if_neg (show ¬ (false = true) by decide)] at H; exact H
          clear H
          have H := H1
          clear H1
          have H' := Aside0.mk H
          clear H
          go_wp2
          go_meet
          case rel => exact ⟨_, (t487), (t483), (t484), (.slice Ao11 t484.length co11), (by first | rfl | (simp; done) | (simp [*]; done)), H', ⟨by have := HJ6.out; first | omega | exact Nat.le_refl _⟩, ⟨by (with_reducible repeat (first | apply Kd.R_alloc | apply Kd.R_drewN | apply Kd.R_drew)); exact HO_489001.out⟩, ⟨by (with_reducible repeat (first | refine blk_drewN ?_ _ | refine blk_drew ?_ | refine blk_alloc ?_ _)); exact BK488.out⟩, ⟨by repeat (first | (with_reducible first | exact HB.out | apply below_alloc | apply pw_below_drewN | apply below_drew1 | refine below_set ?_ GE488.out) | exact HB.out)⟩⟩
      case rest =>
        clear HC13
        try clear c1
        try clear c2
        try clear p2
        try clear c3
        try clear p6
        try clear c8
        try clear c12
        try clear c12b0
        try clear c14
        try clear hcz10_0
        try clear hcz10_1
        try clear hfz10_0
        try clear hfz10_1
        try clear p2
        try clear p6
        obtain ⟨kq, x9_12, x489000_12, x489001_12, u489001, rfl, HA, HJ12, HO_489001, BK488, HB⟩ := hcut
        cases kq with
        | zero => exact absurd HA.out (by simp [L17_LockBack.j1])
        | succ kj12 =>
          have H := HA.out
          clear HA
          simp only [L17_LockBack.j1] at H
          have HC22 := Aside0.mk H
          clear H
          go_upto_region 6 with (fail)
          go_cut [44] (fun v44 wc => ∃ (kq : Nat) (x44_21 : Bool), v44 = .bool x44_21 ∧ Aside0 (L17_LockBack.j2 kq (wrap64 (2 + t482)) x9_12 x44_21 x489000_12 x489001_12 = some true) ∧ Aside0 (kq ≤ kj12) ∧ Aside0 (Kd.R Kd.bool 4 wc w.heap.size (fun _ => True) u489001 x489001_12) ∧ Aside0 (wc.heap[gb488]? = some (.cells #[.bool x489000_12, u489001] 25 (0, 0))) ∧ Aside0 (Below w.heap.size w wc))
          case first =>
            have H := HC22.out
            clear HC22
            by_cases c23 : t489 > 1
            · rw [if_pos c23] at H
              have c23b0 : decide (1 < t489) = true := decide_eq_true c23
              clear c23
              (first | rw [c23b0] | (simp only [i64_w, i32_w]; rw [c23b0]) | skip)
              have H' := Aside0.mk H
              clear H
              go_wp2
              go_meet
              case rel => exact ⟨_, ((x9_12 == 0)), (by first | rfl | (simp; done) | (simp [*]; done)), H', ⟨by have := HJ6.out; have := HJ12.out; first | omega | exact Nat.le_refl _⟩, ⟨by (with_reducible repeat (first | apply Kd.R_alloc | apply Kd.R_drewN | apply Kd.R_drew)); exact HO_489001.out⟩, ⟨by (with_reducible repeat (first | refine blk_drewN ?_ _ | refine blk_drew ?_ | refine blk_alloc ?_ _)); exact BK488.out⟩, ⟨by repeat (first | (with_reducible first | exact HB.out | apply below_alloc | apply pw_below_drewN | apply below_drew1 | refine below_set ?_ GE488.out) | exact HB.out)⟩⟩
            · rw [if_neg c23] at H
              have c23b0 : decide (1 < t489) = false := decide_eq_false c23
              clear c23
              (first | rw [c23b0] | (simp only [i64_w, i32_w]; rw [c23b0]) | skip)
              have H' := Aside0.mk H
              clear H
              go_wp2
              go_meet
              case rel => exact ⟨_, (false), (by first | rfl | (simp; done) | (simp [*]; done)), H', ⟨by have := HJ6.out; have := HJ12.out; first | omega | exact Nat.le_refl _⟩, ⟨by (with_reducible repeat (first | apply Kd.R_alloc | apply Kd.R_drewN | apply Kd.R_drew)); exact HO_489001.out⟩, ⟨by (with_reducible repeat (first | refine blk_drewN ?_ _ | refine blk_drew ?_ | refine blk_alloc ?_ _)); exact BK488.out⟩, ⟨by repeat (first | (with_reducible first | exact HB.out | apply below_alloc | apply pw_below_drewN | apply below_drew1 | refine below_set ?_ GE488.out) | exact HB.out)⟩⟩
          case rest =>
            clear HC22
            try clear c1
            try clear c2
            try clear p2
            try clear c3
            try clear p6
            try clear c8
            try clear c12
            try clear c12b0
            try clear c14
            try clear c23
            try clear c23b0
            try clear hcz10_0
            try clear hcz10_1
            try clear hfz10_0
            try clear hfz10_1
            try clear p2
            try clear p6
            obtain ⟨kq, x44_21, rfl, HA, HJ21, HO_489001, BK488, HB⟩ := hcut
            cases kq with
            | zero => exact absurd HA.out (by simp [L17_LockBack.j2])
            | succ kj21 =>
              have H := HA.out
              clear HA
              simp only [L17_LockBack.j2] at H
              have HC24 := Aside0.mk H
              clear H
              go_upto_if 44 with (fail)
              go_cut [9] (fun v9 wc => ∃ (kq : Nat) (x9_23 : Int) (x489000_23 : Bool) (x489001_23 : List Bool) (u489001 : Value), v9 = .int .i64 x9_23 ∧ Aside0 (L17_LockBack.j3 kq (wrap64 (2 + t482)) x9_23 x489000_23 x489001_23 = some true) ∧ Aside0 (kq ≤ kj21) ∧ Aside0 (Kd.R Kd.bool 4 wc w.heap.size (fun _ => True) u489001 x489001_23) ∧ Aside0 (wc.heap[gb488]? = some (.cells #[.bool x489000_23, u489001] 25 (0, 0))) ∧ Aside0 (Below w.heap.size w wc))
              case first =>
                have H := HC24.out
                clear HC24
                by_cases c25 : x44_21 = true
                · subst c25
                  have H1 : ((lock_Slam.f x489000_12 x489001_12).bind fun bt496 => (L17_LockBack.j3 kj21 (wrap64 (2 + t482)) bt496.2.2.2 bt496.1 bt496.2.1)) = some true := by rw [if_pos rfl] at H; exact H
                  clear H
                  have H := H1
                  clear H1
                  replace H := Option.bind_eq_some_iff.mp H
                  obtain ⟨⟨t496, t497, t500, t501⟩, A260, H⟩ := H
                  replace H : (L17_LockBack.j3 kj21 (wrap64 (2 + t482)) t501 t496 t497) = some true := H
                  have A26 := Aside0.mk A260
                  clear A260
                  have H' := Aside0.mk H
                  clear H
                  have hcz27_0 : wc.cell? ⟨gb488, 0, none⟩ = some (.bool x489000_12) := (blk_cell BK488.out 0).trans rfl
                  have hcz27_1 : wc.cell? ⟨gb488, 1, none⟩ = some (u489001) := (blk_cell BK488.out 1).trans rfl
                  have hfz27_0 := blk_frozen BK488.out 0
                  have hfz27_1 := blk_frozen BK488.out 1
                  obtain ⟨Ao28, co28, eo28⟩ := Kd.R_slice HO_489001.out
                  subst eo28
                  go_wp2_with (first | ((with_reducible refine gate_callee (f := 34) rfl ?_); refine goesL_ (some 47) rfl rfl Try.func34 (by kernel_rfl) rfl #[.agg #[.bool x489000_12, .slice Ao28 x489001_12.length co28]] rfl (by (try simp only [List.map_toArray, List.map_cons, List.map_nil]); first | done | rfl | (simp only [List.length_drop, List.length_take]; rfl)) ?_; (with_reducible refine (lock_Slam.calls x489000_12 _ _ x489001_12 t496 t497 t500 t501 _ ?side1 ?side2 A26.out).mono ?_); (case side1 => repeat (first | exact (Kd.R_reads' HO_489001.out).2.2 | (with_reducible refine Kd.C_alloc ?_ _) | (with_reducible refine Kd.C_drewN ?_ _) | (with_reducible refine Kd.C_drew ?_))); (case side2 => exact (Kd.R_reads' HO_489001.out).2.1); rintro e w29 ⟨v498, rfl, ho0, hb⟩; refine ⟨_, rfl, ?_⟩; have n0_ := Aside0.mk (Kd.R_elder' (by (with_reducible repeat (first | apply Kd.R_alloc | apply Kd.R_drewN | apply Kd.R_drew)); exact HO_489001.out) (Kd.R_base ho0) hb); have n1_ := Aside0.mk (Kd.R_lower (Kd.R_new' ho0 (Kd.R_lt (by (with_reducible repeat (first | apply Kd.R_alloc | apply Kd.R_drewN | apply Kd.R_drew)); exact HO_489001.out))) (below_size (by repeat (first | (with_reducible first | exact HB.out | apply below_alloc | apply pw_below_drewN | apply below_drew1 | refine below_set ?_ GE488.out) | exact HB.out)))); have n2_ := Aside0.mk (blk_below (g := gb488) (o := .cells #[.bool x489000_12, .slice Ao28 x489001_12.length co28] 25 (0, 0)) (by (with_reducible repeat (first | refine blk_drewN ?_ _ | refine blk_drew ?_ | refine blk_alloc ?_ _)); exact BK488.out) hb); have n3_ := Aside0.mk (below_step (by repeat (first | (with_reducible first | exact HB.out | apply below_alloc | apply pw_below_drewN | apply below_drew1 | refine below_set ?_ GE488.out) | exact HB.out)) hb); clear HO_489001; clear BK488; clear HB; have HO_489001 := n0_; have HO499 := n1_; have BK488 := n2_; have HB := n3_; clear n0_ n1_ n2_ n3_; (try clear hb); (try clear hb2); (try clear hk); (try clear hi); (try clear ho0); have hcz30_0 : w29.cell? ⟨gb488, 0, none⟩ = some (.bool x489000_12) := (blk_cell BK488.out 0).trans rfl; have hcz30_1 : w29.cell? ⟨gb488, 1, none⟩ = some (.slice Ao28 x489001_12.length co28) := (blk_cell BK488.out 1).trans rfl; have hfz30_0 := blk_frozen BK488.out 0; have hfz30_1 := blk_frozen BK488.out 1; obtain ⟨Ao31, co31, eo31⟩ := Kd.R_slice HO499.out; subst eo31))
                  go_meet
                  case rel => exact ⟨_, (t501), (t496), (t497), (.slice Ao31 t497.length co31), (by first | rfl | (simp; done) | (simp [*]; done)), H', ⟨by have := HJ6.out; have := HJ12.out; have := HJ21.out; first | omega | exact Nat.le_refl _⟩, ⟨by (with_reducible repeat (first | apply Kd.R_alloc | apply Kd.R_drewN | apply Kd.R_drew)); exact Kd.R_mono (Kd.R_far (p := ⟨gb488, 1, none⟩) (Kd.R_far (p := ⟨gb488, 0, none⟩) (Kd.R_types HO499.out BK488.out (by decide)) (fun _ hk => hk.2) (.bool t496)) (fun _ hk => hk.2) (.slice Ao31 t497.length co31)) (fun _ hk => trivial)⟩, ⟨by (with_reducible repeat (first | refine blk_drewN ?_ _ | refine blk_drew ?_ | refine blk_alloc ?_ _)); refine blk_put (cs := #[.bool t496, .slice Ao28 x489001_12.length co28]) ?_ 1 _ rfl; (with_reducible repeat (first | refine blk_drewN ?_ _ | refine blk_drew ?_ | refine blk_alloc ?_ _)); refine blk_put (cs := #[.bool x489000_12, .slice Ao28 x489001_12.length co28]) ?_ 0 _ rfl; (with_reducible repeat (first | refine blk_drewN ?_ _ | refine blk_drew ?_ | refine blk_alloc ?_ _)); exact BK488.out⟩, ⟨by repeat (first | (with_reducible first | exact HB.out | apply below_alloc | apply pw_below_drewN | apply below_drew1 | refine below_set ?_ GE488.out) | exact HB.out)⟩⟩
                · replace c25 := Bool.eq_false_iff.mpr c25
                  subst c25
                  have H1 : (L17_LockBack.j3 kj21 (wrap64 (2 + t482)) x9_12 x489000_12 x489001_12) = some true := by rw [if_neg (show ¬ (false = true) by decide)] at H; exact H
                  clear H
                  have H := H1
                  clear H1
                  have H' := Aside0.mk H
                  clear H
                  go_wp2
                  go_meet
                  case rel => exact ⟨_, (x9_12), (x489000_12), (x489001_12), (u489001), (by first | rfl | (simp; done) | (simp [*]; done)), H', ⟨by have := HJ6.out; have := HJ12.out; have := HJ21.out; first | omega | exact Nat.le_refl _⟩, ⟨by (with_reducible repeat (first | apply Kd.R_alloc | apply Kd.R_drewN | apply Kd.R_drew)); exact HO_489001.out⟩, ⟨by (with_reducible repeat (first | refine blk_drewN ?_ _ | refine blk_drew ?_ | refine blk_alloc ?_ _)); exact BK488.out⟩, ⟨by repeat (first | (with_reducible first | exact HB.out | apply below_alloc | apply pw_below_drewN | apply below_drew1 | refine below_set ?_ GE488.out) | exact HB.out)⟩⟩
              case rest =>
                clear HC24
                try clear c1
                try clear c2
                try clear p2
                try clear c3
                try clear p6
                try clear c8
                try clear c12
                try clear c12b0
                try clear c14
                try clear c23
                try clear c23b0
                try clear c25
                try clear c26
                try clear c30
                try clear hcz10_0
                try clear hcz10_1
                try clear hcz27_0
                try clear hcz27_1
                try clear hcz30_0
                try clear hcz30_1
                try clear hfz10_0
                try clear hfz10_1
                try clear hfz27_0
                try clear hfz27_1
                try clear hfz30_0
                try clear hfz30_1
                try clear p2
                try clear p6
                obtain ⟨kq, x9_23, x489000_23, x489001_23, u489001, rfl, HA, HJ23, HO_489001, BK488, HB⟩ := hcut
                cases kq with
                | zero => exact absurd HA.out (by simp [L17_LockBack.j3])
                | succ kj23 =>
                  have H := HA.out
                  clear HA
                  simp only [L17_LockBack.j3] at H
                  replace H := Option.bind_eq_some_iff.mp H
                  obtain ⟨⟨t502, t503⟩, A320, H⟩ := H
                  replace H : ((lock_Parse.f t502).bind fun bt504 => (if x9_23 = 0 then (if t503 = 0 then (if (bt504.2.2.1 == 0 && (bt504.2.2.2 == 0)) = true then (if (t502.size : Int) = (wrap64 ((wrap64 (2 + t482)) + 2)) then ((K_SameChain.f kj23 bt504.1 bt504.2.1 x489000_23 x489001_23).bind fun t512 => (if t512 = true then ((L17_awake.f).bind fun t513 => (some t513)) else (some false))) else (some false)) else (some false)) else (some false)) else (some false))) = some true := H
                  have A32 := Aside0.mk A320
                  clear A320
                  replace H := Option.bind_eq_some_iff.mp H
                  obtain ⟨⟨t504, t505, t508, t509⟩, A330, H⟩ := H
                  replace H : (if x9_23 = 0 then (if t503 = 0 then (if (t508 == 0 && (t509 == 0)) = true then (if (t502.size : Int) = (wrap64 ((wrap64 (2 + t482)) + 2)) then ((K_SameChain.f kj23 t504 t505 x489000_23 x489001_23).bind fun t512 => (if t512 = true then ((L17_awake.f).bind fun t513 => (some t513)) else (some false))) else (some false)) else (some false)) else (some false)) else (some false)) = some true := H
                  have A33 := Aside0.mk A330
                  clear A330
                  by_cases c34 : x9_23 = 0
                  rotate_left
                  · rw [if_neg c34] at H
                    exact absurd H (by repeat (first | exact never_none | exact never_false | refine never_ite ?_ ?_ | refine never_bind (fun _ => ?_)))
                  rw [if_pos c34] at H
                  have c34b0 : (x9_23 == 0) = true := beq_iff_eq.mpr c34
                  have c34b1 : (x9_23 != 0) = false := bne_eq_false_iff_eq.mpr c34
                  clear c34
                  by_cases c35 : t503 = 0
                  rotate_left
                  · rw [if_neg c35] at H
                    exact absurd H (by repeat (first | exact never_none | exact never_false | refine never_ite ?_ ?_ | refine never_bind (fun _ => ?_)))
                  rw [if_pos c35] at H
                  have c35b0 : (t503 == 0) = true := beq_iff_eq.mpr c35
                  have c35b1 : (t503 != 0) = false := bne_eq_false_iff_eq.mpr c35
                  clear c35
                  by_cases c36 : (t508 == 0 && (t509 == 0)) = true
                  rotate_left
                  · rw [if_neg c36] at H
                    exact absurd H (by repeat (first | exact never_none | exact never_false | refine never_ite ?_ ?_ | refine never_bind (fun _ => ?_)))
                  rw [if_pos c36] at H
                  have c36b0 : (t508 == 0 && (t509 == 0)) = true := c36
                  (try (have c36b1 : decide (t508 = 0 && (t509 == 0)) = true := by simpa using c36))
                  (try (have c36b2 : (t508 == 0 && (t509 == 0)) = true := by simpa using c36))
                  clear c36
                  by_cases c37 : (t502.size : Int) = (wrap64 ((wrap64 (2 + t482)) + 2))
                  rotate_left
                  · rw [if_neg c37] at H
                    exact absurd H (by repeat (first | exact never_none | exact never_false | refine never_ite ?_ ?_ | refine never_bind (fun _ => ?_)))
                  rw [if_pos c37] at H
                  have c37b0 : ((t502.size : Int) == (wrap64 ((wrap64 (2 + t482)) + 2))) = true := beq_iff_eq.mpr c37
                  have c37b1 : ((t502.size : Int) != (wrap64 ((wrap64 (2 + t482)) + 2))) = false := bne_eq_false_iff_eq.mpr c37
                  clear c37
                  replace H := Option.bind_eq_some_iff.mp H
                  obtain ⟨t512, A380, H⟩ := H
                  replace H : (if t512 = true then ((L17_awake.f).bind fun t513 => (some t513)) else (some false)) = some true := H
                  have A38 := Aside0.mk A380
                  clear A380
                  by_cases c39 : t512 = true
                  rotate_left
                  · replace c39 := Bool.eq_false_iff.mpr c39
                    subst c39
                    have H1 : (some false) = some true := by rw [if_neg (show ¬ (false = true) by decide)] at H; exact H
                    clear H
                    have H := H1
                    clear H1
                    exact absurd H (by repeat (first | exact never_none | exact never_false | refine never_ite ?_ ?_ | refine never_bind (fun _ => ?_)))
                  subst c39
                  have H1 : ((L17_awake.f).bind fun t513 => (some t513)) = some true := by rw [if_pos rfl] at H; exact H
                  clear H
                  have H := H1
                  clear H1
                  replace H := Option.bind_eq_some_iff.mp H
                  obtain ⟨t513, A400, H⟩ := H
                  replace H : (some t513) = some true := H
                  have A40 := Aside0.mk A400
                  clear A400
                  have Ht_ := Option.some.inj H
                  clear H
                  subst Ht_
                  have H : (some true : Option Bool) = some true := rfl
                  clear H
                  have hcz41_0 : wc.cell? ⟨gb488, 0, none⟩ = some (.bool x489000_23) := (blk_cell BK488.out 0).trans rfl
                  have hcz41_1 : wc.cell? ⟨gb488, 1, none⟩ = some (u489001) := (blk_cell BK488.out 1).trans rfl
                  have hfz41_0 := blk_frozen BK488.out 0
                  have hfz41_1 := blk_frozen BK488.out 1
                  obtain ⟨Ao42, co42, eo42⟩ := Kd.R_slice HO_489001.out
                  subst eo42
                  go_wp2_with (first | ((with_reducible refine gate_callee (f := 21) rfl ?_); refine goesL_ (some 53) rfl rfl Try.func21 (by kernel_rfl) rfl #[.agg #[.bool x489000_23, .slice Ao42 x489001_23.length co42]] rfl (by (try simp only [List.map_toArray, List.map_cons, List.map_nil]); first | done | rfl | (simp only [List.length_drop, List.length_take]; rfl)) ?_; (with_reducible refine (lock_Text.calls x489000_23 _ _ x489001_23 t502 t503 _ ?side1 ?side2 A32.out).mono ?_); (case side1 => repeat (first | exact (Kd.R_reads' HO_489001.out).2.2 | (with_reducible refine Kd.C_alloc ?_ _) | (with_reducible refine Kd.C_drewN ?_ _) | (with_reducible refine Kd.C_drew ?_))); (case side2 => exact (Kd.R_reads' HO_489001.out).2.1); rintro e w43 ⟨rfl, hb⟩; refine ⟨_, rfl, ?_⟩; have n0_ := Aside0.mk (Kd.R_below (by (with_reducible repeat (first | apply Kd.R_alloc | apply Kd.R_drewN | apply Kd.R_drew)); exact HO_489001.out) hb); have n1_ := Aside0.mk (blk_below (g := gb488) (o := .cells #[.bool x489000_23, .slice Ao42 x489001_23.length co42] 25 (0, 0)) (by (with_reducible repeat (first | refine blk_drewN ?_ _ | refine blk_drew ?_ | refine blk_alloc ?_ _)); exact BK488.out) hb); have n2_ := Aside0.mk (below_step (by repeat (first | (with_reducible first | exact HB.out | apply below_alloc | apply pw_below_drewN | apply below_drew1 | refine below_set ?_ GE488.out) | exact HB.out)) hb); clear HO_489001; clear BK488; clear HB; have HO_489001 := n0_; have BK488 := n1_; have HB := n2_; clear n0_ n1_ n2_; (try clear hb); (try clear hb2); (try clear hk); (try clear hi)) | ((with_reducible refine gate_callee (f := 11) rfl ?_); refine goesL_ (some 58) rfl rfl Try.func11 (by kernel_rfl) rfl #[.string t502] rfl (by (try simp only [List.map_toArray, List.map_cons, List.map_nil]); first | done | rfl | (simp only [List.length_drop, List.length_take]; rfl)) ?_; (with_reducible refine (lock_Parse.calls t502 t504 t505 t508 t509 _ A33.out).mono ?_); rintro e w44 ⟨v506, rfl, ho0, hb⟩; refine ⟨_, rfl, ?_⟩; have n0_ := Aside0.mk (Kd.R_elder' (by (with_reducible repeat (first | apply Kd.R_alloc | apply Kd.R_drewN | apply Kd.R_drew)); exact HO_489001.out) (Kd.R_base ho0) hb); have n1_ := Aside0.mk (Kd.R_lower (Kd.R_new' ho0 (Kd.R_lt (by (with_reducible repeat (first | apply Kd.R_alloc | apply Kd.R_drewN | apply Kd.R_drew)); exact HO_489001.out))) (below_size (by repeat (first | (with_reducible first | exact HB.out | apply below_alloc | apply pw_below_drewN | apply below_drew1 | refine below_set ?_ GE488.out) | exact HB.out)))); have n2_ := Aside0.mk (blk_below (g := gb488) (o := .cells #[.bool x489000_23, .slice Ao42 x489001_23.length co42] 25 (0, 0)) (by (with_reducible repeat (first | refine blk_drewN ?_ _ | refine blk_drew ?_ | refine blk_alloc ?_ _)); exact BK488.out) hb); have n3_ := Aside0.mk (below_step (by repeat (first | (with_reducible first | exact HB.out | apply below_alloc | apply pw_below_drewN | apply below_drew1 | refine below_set ?_ GE488.out) | exact HB.out)) hb); clear HO_489001; clear BK488; clear HB; have HO_489001 := n0_; have HO507 := n1_; have BK488 := n2_; have HB := n3_; clear n0_ n1_ n2_ n3_; (try clear hb); (try clear hb2); (try clear hk); (try clear hi); (try clear ho0)) | ((with_reducible refine gate_dst (N := 13) rfl ?_); (try (refine gate_guard (by rfl) ?_; dsimp only)); refine box_event ?hg (N := 13) ?hd (cs := #[.bool false, .slice none 0 0]) (t := 25) ?hr ?_; (case hd => rfl); (case hg => rfl); (case hr => first | (go_simp; done) | (go_simp; rfl)); intro gb510 hg w45 hbox hb; have n0_ := Aside0.mk (Kd.R_below (by (with_reducible repeat (first | apply Kd.R_alloc | apply Kd.R_drewN | apply Kd.R_drew)); exact HO_489001.out) hb); have n1_ := Aside0.mk (Kd.R_below (by (with_reducible repeat (first | apply Kd.R_alloc | apply Kd.R_drewN | apply Kd.R_drew)); exact HO507.out) hb); have n2_ := Aside0.mk (blk_below (g := gb488) (o := .cells #[.bool x489000_23, .slice Ao42 x489001_23.length co42] 25 (0, 0)) (by (with_reducible repeat (first | refine blk_drewN ?_ _ | refine blk_drew ?_ | refine blk_alloc ?_ _)); exact BK488.out) hb); have n3_ := Aside0.mk (below_step (by repeat (first | (with_reducible first | exact HB.out | apply below_alloc | apply pw_below_drewN | apply below_drew1 | refine below_set ?_ GE488.out) | exact HB.out)) hb); have n4_ := Aside0.mk (hbox); have n5_ := Aside0.mk ((by rw [hg]; exact (below_size (by repeat (first | (with_reducible first | exact HB.out | apply below_alloc | apply pw_below_drewN | apply below_drew1 | refine below_set ?_ GE488.out) | exact HB.out))) : w.heap.size ≤ gb510)); have n6_ := Aside0.mk ((by rw [hg]; exact (below_size (by repeat (first | (with_reducible first | exact HB.out | apply below_alloc | apply pw_below_drewN | apply below_drew1 | refine below_set ?_ GE488.out) | exact HB.out))) : w.heap.size ≤ gb510)); have n7_ := Aside0.mk ((by rw [hg]; exact Nat.ne_of_lt (blk_lt (g := gb488) (o := .cells #[.bool x489000_23, .slice Ao42 x489001_23.length co42] 25 (0, 0)) (by (with_reducible repeat (first | refine blk_drewN ?_ _ | refine blk_drew ?_ | refine blk_alloc ?_ _)); exact BK488.out)) : gb488 ≠ gb510)); have n8_ := Aside0.mk ((by rw [hg]; exact Nat.ne_of_gt (blk_lt (g := gb488) (o := .cells #[.bool x489000_23, .slice Ao42 x489001_23.length co42] 25 (0, 0)) (by (with_reducible repeat (first | refine blk_drewN ?_ _ | refine blk_drew ?_ | refine blk_alloc ?_ _)); exact BK488.out)) : gb510 ≠ gb488)); clear HO_489001; clear HO507; clear BK488; clear HB; have HO_489001 := n0_; have HO507 := n1_; have BK488 := n2_; have HB := n3_; have BK510 := n4_; have GW510 := n5_; have GE510 := n6_; have NB488_510 := n7_; have NB510_488 := n8_; clear n0_ n1_ n2_ n3_ n4_ n5_ n6_ n7_ n8_; clear hb hbox hg) | ((with_reducible refine gate_dst (N := 14) rfl ?_); (try (refine gate_guard (by rfl) ?_; dsimp only)); refine box_event ?hg (N := 14) ?hd (cs := #[.int .i64 0, .int .i64 0]) (t := 28) ?hr ?_; (case hd => rfl); (case hg => rfl); (case hr => first | (go_simp; done) | (go_simp; rfl)); intro gb511 hg w46 hbox hb; have n0_ := Aside0.mk (Kd.R_below (by (with_reducible repeat (first | apply Kd.R_alloc | apply Kd.R_drewN | apply Kd.R_drew)); exact HO_489001.out) hb); have n1_ := Aside0.mk (Kd.R_below (by (with_reducible repeat (first | apply Kd.R_alloc | apply Kd.R_drewN | apply Kd.R_drew)); exact HO507.out) hb); have n2_ := Aside0.mk (blk_below (g := gb488) (o := .cells #[.bool x489000_23, .slice Ao42 x489001_23.length co42] 25 (0, 0)) (by (with_reducible repeat (first | refine blk_drewN ?_ _ | refine blk_drew ?_ | refine blk_alloc ?_ _)); exact BK488.out) hb); have n3_ := Aside0.mk (blk_below (g := gb510) (o := .cells #[.bool false, .slice none 0 0] 25 (0, 0)) (by (with_reducible repeat (first | refine blk_drewN ?_ _ | refine blk_drew ?_ | refine blk_alloc ?_ _)); exact BK510.out) hb); have n4_ := Aside0.mk (below_step (by repeat (first | (with_reducible first | exact HB.out | apply below_alloc | apply pw_below_drewN | apply below_drew1 | refine below_set ?_ GE488.out | refine below_set ?_ GE510.out) | exact HB.out)) hb); have n5_ := Aside0.mk (hbox); have n6_ := Aside0.mk ((by rw [hg]; exact (below_size (by repeat (first | (with_reducible first | exact HB.out | apply below_alloc | apply pw_below_drewN | apply below_drew1 | refine below_set ?_ GE488.out | refine below_set ?_ GE510.out) | exact HB.out))) : w.heap.size ≤ gb511)); have n7_ := Aside0.mk ((by rw [hg]; exact (below_size (by repeat (first | (with_reducible first | exact HB.out | apply below_alloc | apply pw_below_drewN | apply below_drew1 | refine below_set ?_ GE488.out | refine below_set ?_ GE510.out) | exact HB.out))) : w.heap.size ≤ gb511)); have n8_ := Aside0.mk ((by rw [hg]; exact Nat.ne_of_lt (blk_lt (g := gb488) (o := .cells #[.bool x489000_23, .slice Ao42 x489001_23.length co42] 25 (0, 0)) (by (with_reducible repeat (first | refine blk_drewN ?_ _ | refine blk_drew ?_ | refine blk_alloc ?_ _)); exact BK488.out)) : gb488 ≠ gb511)); have n9_ := Aside0.mk ((by rw [hg]; exact Nat.ne_of_gt (blk_lt (g := gb488) (o := .cells #[.bool x489000_23, .slice Ao42 x489001_23.length co42] 25 (0, 0)) (by (with_reducible repeat (first | refine blk_drewN ?_ _ | refine blk_drew ?_ | refine blk_alloc ?_ _)); exact BK488.out)) : gb511 ≠ gb488)); have n10_ := Aside0.mk ((by rw [hg]; exact Nat.ne_of_lt (blk_lt (g := gb510) (o := .cells #[.bool false, .slice none 0 0] 25 (0, 0)) (by (with_reducible repeat (first | refine blk_drewN ?_ _ | refine blk_drew ?_ | refine blk_alloc ?_ _)); exact BK510.out)) : gb510 ≠ gb511)); have n11_ := Aside0.mk ((by rw [hg]; exact Nat.ne_of_gt (blk_lt (g := gb510) (o := .cells #[.bool false, .slice none 0 0] 25 (0, 0)) (by (with_reducible repeat (first | refine blk_drewN ?_ _ | refine blk_drew ?_ | refine blk_alloc ?_ _)); exact BK510.out)) : gb511 ≠ gb510)); clear HO_489001; clear HO507; clear BK488; clear BK510; clear HB; have HO_489001 := n0_; have HO507 := n1_; have BK488 := n2_; have BK510 := n3_; have HB := n4_; have BK511 := n5_; have GW511 := n6_; have GE511 := n7_; have NB488_511 := n8_; have NB511_488 := n9_; have NB510_511 := n10_; have NB511_510 := n11_; clear n0_ n1_ n2_ n3_ n4_ n5_ n6_ n7_ n8_ n9_ n10_ n11_; clear hb hbox hg; have hnb47 := NB510_488.out; have hnc47 := NB488_510.out; have hnb48 := NB510_511.out; have hnc48 := NB511_510.out; have hcz49_0 : w46.cell? ⟨gb510, 0, none⟩ = some (.bool false) := (blk_cell BK510.out 0).trans rfl; have hcz49_1 : w46.cell? ⟨gb510, 1, none⟩ = some (.slice none 0 0) := (blk_cell BK510.out 1).trans rfl; have hfz49_0 := blk_frozen BK510.out 0; have hfz49_1 := blk_frozen BK510.out 1; obtain ⟨Ao50, co50, eo50⟩ := Kd.R_slice HO507.out; subst eo50; have hnb51 := NB511_488.out; have hnc51 := NB488_511.out; have hcz52_0 : w46.cell? ⟨gb511, 0, none⟩ = some (.int .i64 0) := (blk_cell BK511.out 0).trans rfl; have hcz52_1 : w46.cell? ⟨gb511, 1, none⟩ = some (.int .i64 0) := (blk_cell BK511.out 1).trans rfl; have hfz52_0 := blk_frozen BK511.out 0; have hfz52_1 := blk_frozen BK511.out 1; have hcz53_0 : w46.cell? ⟨gb488, 0, none⟩ = some (.bool x489000_23) := (blk_cell BK488.out 0).trans rfl; have hcz53_1 : w46.cell? ⟨gb488, 1, none⟩ = some (.slice Ao42 x489001_23.length co42) := (blk_cell BK488.out 1).trans rfl; have hfz53_0 := blk_frozen BK488.out 0; have hfz53_1 := blk_frozen BK488.out 1) | ((with_reducible refine gate_callee (f := 13) rfl ?_); (with_reducible refine gate_dst (N := 82) rfl ?_); refine gate_guard (by rfl) ?_; dsimp only; refine goesL_ (some 82) rfl rfl Try.func13 (by kernel_rfl) rfl #[.agg #[.bool t504, .slice Ao50 t505.length co50], .agg #[.bool x489000_23, .slice Ao42 x489001_23.length co42]] rfl (by (try simp only [List.map_toArray, List.map_cons, List.map_nil]); first | done | rfl | (simp only [List.length_drop, List.length_take]; rfl)) ?_; (with_reducible refine (K_SameChain.calls kj23 t504 _ _ t505 x489000_23 _ _ x489001_23 true _ ?side1 ?side2 ?side3 ?side4 A38.out).mono ?_); (case side1 => refine (Kd.R_reads' (e := 4) (base := w.heap.size) (ok := fun k_ => (True ∧ some k_ ≠ (.slice Ao42 x489001_23.length co42 : Value).ownBlock)) (n := t505.length) (c := co50) ?_).2.2; exact (by (with_reducible repeat (first | apply Kd.R_alloc | apply Kd.R_drewN | apply Kd.R_drew)); exact (Kd.R_mono (Kd.R_mono (Kd.R_far (p := ⟨gb511, 1, none⟩) (Kd.R_far (p := ⟨gb511, 0, none⟩) (Kd.R_far (p := ⟨gb510, 1, none⟩) (Kd.R_far (p := ⟨gb510, 0, none⟩) (Kd.R_types (Kd.R_types HO507.out BK510.out (by decide)) BK511.out (by decide)) (fun _ hk => hk.1.2) (.bool t504)) (fun _ hk => hk.1.2) (.slice Ao50 t505.length co50)) (fun _ hk => hk.2) (.int .i64 t508)) (fun _ hk => hk.2) (.int .i64 t509)) (fun _ h_ => h_.1)) (fun _ h_ => h_.1)))); (case side2 => exact (Kd.R_reads' HO507.out).2.1); (case side3 => refine (Kd.R_reads' (e := 4) (base := w.heap.size) (ok := fun k_ => (True ∧ some k_ ≠ (.slice Ao50 t505.length co50 : Value).ownBlock)) (n := x489001_23.length) (c := co42) ?_).2.2; exact (by (with_reducible repeat (first | apply Kd.R_alloc | apply Kd.R_drewN | apply Kd.R_drew)); exact (Kd.R_mono (Kd.R_mono (Kd.R_far (p := ⟨gb511, 1, none⟩) (Kd.R_far (p := ⟨gb511, 0, none⟩) (Kd.R_far (p := ⟨gb510, 1, none⟩) (Kd.R_far (p := ⟨gb510, 0, none⟩) (Kd.R_types (Kd.R_types HO_489001.out BK510.out (by decide)) BK511.out (by decide)) (fun _ hk => hk.1.2) (.bool t504)) (fun _ hk => hk.1.2) (.slice Ao50 t505.length co50)) (fun _ hk => hk.2) (.int .i64 t508)) (fun _ hk => hk.2) (.int .i64 t509)) (fun _ h_ => h_.1)) (fun _ h_ => h_.1)))); (case side4 => exact (Kd.R_reads' HO_489001.out).2.1); rintro e w54 ⟨rfl, hb⟩; refine ⟨_, rfl, ?_⟩; have n3_ := Aside0.mk (blk_below (g := gb510) (o := .cells #[.bool t504, .slice Ao50 t505.length co50] 25 (0, 0)) (by (with_reducible repeat (first | refine blk_drewN ?_ _ | refine blk_drew ?_ | refine blk_alloc ?_ _)); refine blk_far ?_ NB510_511.out _; (with_reducible repeat (first | refine blk_drewN ?_ _ | refine blk_drew ?_ | refine blk_alloc ?_ _)); refine blk_far ?_ NB510_511.out _; (with_reducible repeat (first | refine blk_drewN ?_ _ | refine blk_drew ?_ | refine blk_alloc ?_ _)); refine blk_put (cs := #[.bool t504, .slice none 0 0]) ?_ 1 _ rfl; (with_reducible repeat (first | refine blk_drewN ?_ _ | refine blk_drew ?_ | refine blk_alloc ?_ _)); refine blk_put (cs := #[.bool false, .slice none 0 0]) ?_ 0 _ rfl; (with_reducible repeat (first | refine blk_drewN ?_ _ | refine blk_drew ?_ | refine blk_alloc ?_ _)); exact BK510.out) hb); have n4_ := Aside0.mk (blk_below (g := gb511) (o := .cells #[.int .i64 t508, .int .i64 t509] 28 (0, 0)) (by (with_reducible repeat (first | refine blk_drewN ?_ _ | refine blk_drew ?_ | refine blk_alloc ?_ _)); refine blk_put (cs := #[.int .i64 t508, .int .i64 0]) ?_ 1 _ rfl; (with_reducible repeat (first | refine blk_drewN ?_ _ | refine blk_drew ?_ | refine blk_alloc ?_ _)); refine blk_put (cs := #[.int .i64 0, .int .i64 0]) ?_ 0 _ rfl; (with_reducible repeat (first | refine blk_drewN ?_ _ | refine blk_drew ?_ | refine blk_alloc ?_ _)); refine blk_far ?_ NB511_510.out _; (with_reducible repeat (first | refine blk_drewN ?_ _ | refine blk_drew ?_ | refine blk_alloc ?_ _)); refine blk_far ?_ NB511_510.out _; (with_reducible repeat (first | refine blk_drewN ?_ _ | refine blk_drew ?_ | refine blk_alloc ?_ _)); exact BK511.out) hb); have n5_ := Aside0.mk (below_step (by repeat (first | (with_reducible first | exact HB.out | apply below_alloc | apply pw_below_drewN | apply below_drew1 | refine below_set ?_ GE488.out | refine below_set ?_ GE510.out | refine below_set ?_ GE511.out) | exact HB.out)) hb); clear HO_489001; clear HO507; clear BK488; clear BK510; clear BK511; clear HB; have BK510 := n3_; have BK511 := n4_; have HB := n5_; clear n3_ n4_ n5_; (try clear hb); (try clear hb2); (try clear hk); (try clear hi)) | ((with_reducible refine gate_callee (f := 10) rfl ?_); (with_reducible refine gate_dst (N := 85) rfl ?_); refine gate_guard (by rfl) ?_; dsimp only; refine goesL_ (some 85) rfl rfl Try.func10 (by kernel_rfl) rfl #[] rfl (by (try simp only [List.map_toArray, List.map_cons, List.map_nil]); first | done | rfl | (simp only [List.length_drop, List.length_take]; rfl)) ?_; (with_reducible refine (L17_awake.calls  true _ A40.out).mono ?_); rintro e w55 ⟨rfl, hb⟩; refine ⟨_, rfl, ?_⟩; have n5_ := Aside0.mk (below_step (by repeat (first | (with_reducible first | exact HB.out | apply below_alloc | apply pw_below_drewN | apply below_drew1 | refine below_set ?_ GE488.out | refine below_set ?_ GE510.out | refine below_set ?_ GE511.out) | exact HB.out)) hb); clear BK510; clear BK511; clear HB; have HB := n5_; clear n5_; (try clear hb); (try clear hb2); (try clear hk); (try clear hi)))
                  all_goals go_ret
                  all_goals exact ⟨by first | rfl | (simp [errW_none, errW_some] <;> rfl) | (simp [*, errW_none, errW_some] <;> rfl), by repeat (first | (with_reducible first | exact HB.out | apply below_alloc | apply pw_below_drewN | apply below_drew1 | refine below_set ?_ GE488.out | refine below_set ?_ GE510.out | refine below_set ?_ GE511.out) | exact HB.out)⟩

/-- THE ONE PURE STATEMENT of L17_LockBack: yours. -/
def L17_LockBack.Pure : Prop := ∀ (a0 : Int) (a1 : Int) (a2 : Int), (Lit.int .i64 a0).wf = true → (Lit.int .i64 a1).wf = true → (Lit.int .i64 a2).wf = true → ∃ k, L17_LockBack.f k a0 a1 a2 = some true
theorem L17_LockBack.walk (P : L17_LockBack.Pure) (a0 : Int) (a1 : Int) (a2 : Int) (w : World) (w0 : (Lit.int .i64 a0).wf = true) (w1 : (Lit.int .i64 a1).wf = true) (w2 : (Lit.int .i64 a2).wf = true) :
    Calls Try.prog 8 #[.int .i64 a0, .int .i64 a1, .int .i64 a2] w fun e w' => e = .returned (.bool true) ∧ Below w.heap.size w w' := by
  obtain ⟨k, h⟩ := P a0 a1 a2 w0 w1 w2
  refine (L17_LockBack.calls k a0 a1 a2 true w h).mono ?_
  rintro e w' ⟨rfl, hd⟩
  exact ⟨rfl, hd⟩

end Go.Proofs.Ytdkabbjknclifaa.F
end
section
namespace Go.Proofs.Ytdkabbjknclifaa.Pure
open Go.RowKit Go.Proofs.Ytdkabbjknclifaa.F Go.Proofs.YtdkabbjknclifaaW.PrintWords Go.Proofs.YtdkabbjknclifaaW.PrintLast
set_option linter.unusedVariables false
set_option linter.unusedSimpArgs false
theorem w64s {x : Int} (h0 : -100000 ≤ x) (h1 : x ≤ 100000) : wrap64 x = x := by unfold wrap64; omega
end Go.Proofs.Ytdkabbjknclifaa.Pure
end
section
namespace Go.Proofs.Ytdkabbjknclifaa.Pure
open Go.RowKit Go.Proofs.Ytdkabbjknclifaa.F Go.Proofs.YtdkabbjknclifaaW.PrintWords Go.Proofs.YtdkabbjknclifaaW.PrintLast
set_option linter.unusedVariables false
set_option linter.unusedSimpArgs false
theorem w64n {i : Nat} (h : i ≤ 90000) : wrap64 ((i : Int) + 1) = ((i + 1 : Nat) : Int) := by rw [w64s (by omega) (by omega)]; omega
end Go.Proofs.Ytdkabbjknclifaa.Pure
end
section
namespace Go.Proofs.Ytdkabbjknclifaa.Pure
open Go.RowKit Go.Proofs.Ytdkabbjknclifaa.F Go.Proofs.YtdkabbjknclifaaW.PrintWords Go.Proofs.YtdkabbjknclifaaW.PrintLast
set_option linter.unusedVariables false
set_option linter.unusedSimpArgs false
theorem rd_drop {α : Type} {d : α} {l : List α} {i : Nat} (h : i < l.length) : l.drop i = rdOf d l i :: l.drop (i + 1) := by
  have e : rdOf d l i = l[i] := by simp [rdOf, List.getD_eq_getElem?_getD, List.getElem?_eq_getElem h]
  rw [e, List.drop_eq_getElem_cons h]
end Go.Proofs.Ytdkabbjknclifaa.Pure
end
section
namespace Go.Proofs.Ytdkabbjknclifaa.Pure
open Go.RowKit Go.Proofs.Ytdkabbjknclifaa.F Go.Proofs.YtdkabbjknclifaaW.PrintWords Go.Proofs.YtdkabbjknclifaaW.PrintLast
set_option linter.unusedVariables false
set_option linter.unusedSimpArgs false
/-- The landings that are not locked. -/
def openFrom : Nat → List Bool → List Int
  | _, [] => []
  | i, x :: r => if x = true then openFrom (i + 1) r else (i : Int) :: openFrom (i + 1) r
end Go.Proofs.Ytdkabbjknclifaa.Pure
end
section
namespace Go.Proofs.Ytdkabbjknclifaa.Pure
open Go.RowKit Go.Proofs.Ytdkabbjknclifaa.F Go.Proofs.YtdkabbjknclifaaW.PrintWords Go.Proofs.YtdkabbjknclifaaW.PrintLast
set_option linter.unusedVariables false
set_option linter.unusedSimpArgs false
theorem openFrom_mem : ∀ (l : List Bool) (i : Nat) (x : Int), x ∈ openFrom i l → (i : Int) ≤ x ∧ x < (i : Int) + l.length
  | [], _, _, h => by simp [openFrom] at h
  | b :: r, i, x, h => by
    unfold openFrom at h
    have ih := openFrom_mem r (i + 1) x
    split at h
    · have := ih h; simp; omega
    · rcases List.mem_cons.mp h with rfl | h
      · simp; omega
      · have := ih h; simp; omega
end Go.Proofs.Ytdkabbjknclifaa.Pure
end
section
namespace Go.Proofs.Ytdkabbjknclifaa.Pure
open Go.RowKit Go.Proofs.Ytdkabbjknclifaa.F Go.Proofs.YtdkabbjknclifaaW.PrintWords Go.Proofs.YtdkabbjknclifaaW.PrintLast
set_option linter.unusedVariables false
set_option linter.unusedSimpArgs false
def fin (b : Bool) (n : Int) : Int := if n > 1 then 9 else if n = 1 then (if b = true then 9 else 0) else 0
end Go.Proofs.Ytdkabbjknclifaa.Pure
end
