/- Part 3 of A28: what the functions reckon, step by step, and plain laws. No condition. -/
import Derived.Test.YtmfbpkjhabdcgaaKA28x2
section
-- Written by fork.py (this session's program over the kit's print.py). Not trusted: Lean checks it.
namespace Go.Proofs.Ytmfbpkjhabdcgaa.F
open Go.RowKit Go.Proofs.YtmfbpkjhabdcgaaW.PrintWords Go.Proofs.YtmfbpkjhabdcgaaW.PrintLast Go.Proofs.YtmfbpkjhabdcgaaW.PrintMore
attribute [local go_sem] max2_int min2_int max_two min_two max_three min_three max_four min_four
set_option linter.unusedVariables false
set_option linter.unusedSimpArgs false

/-! ### L28_hall: function 55 -/
def L28_hall.f (a0_0 : Int) (a0_1 : Int) (a0_2 : Int) (a0_3 : Int) : Option (Bool) := some (a0_0 != 3)
set_option maxHeartbeats 8000000 in
set_option maxRecDepth 100000 in
theorem L28_hall.calls (a0_0 : Int) (a0_1 : Int) (a0_2 : Int) (a0_3 : Int) (r : Bool) (w : World) (h : L28_hall.f a0_0 a0_1 a0_2 a0_3 = some r) :
    Calls Try.prog 55 #[.agg #[.int .i64 a0_0, .int .i64 a0_1, .int .i64 a0_2, .int .i64 a0_3]] w fun e w' => e = .returned (.bool r) ∧ Below w.heap.size w w' := by
  have hu29 := Try.underlying29
  have HB := Aside0.mk (Below.refl w.heap.size w)
  have H : (some (a0_0 != 3)) = some r := h
  clear h
  obtain rfl := Option.some.inj H
  go_enter Try.func55, Try.ntmps55
  go_wp2_with (first | ((with_reducible refine gate_dst (N := 1) rfl ?_); refine box_event ?hg (N := 1) ?hd (cs := #[.int .i64 a0_0, .int .i64 a0_1, .int .i64 a0_2, .int .i64 a0_3]) (t := 29) ?hr ?_; (case hd => rfl); (case hg => rfl); (case hr => first | (go_simp; done) | (go_simp; rfl)); intro gb725 hg w2 hbox hb; have n0_ := Aside0.mk (below_step (by repeat (first | (with_reducible first | exact HB.out | apply below_alloc | apply pw_below_drewN | apply below_drew1) | exact HB.out)) hb); have n1_ := Aside0.mk (hbox); have n2_ := Aside0.mk ((by rw [hg]; exact (below_size (by repeat (first | (with_reducible first | exact HB.out | apply below_alloc | apply pw_below_drewN | apply below_drew1) | exact HB.out))) : w.heap.size ≤ gb725)); have n3_ := Aside0.mk ((by rw [hg]; exact (below_size (by repeat (first | (with_reducible first | exact HB.out | apply below_alloc | apply pw_below_drewN | apply below_drew1) | exact HB.out))) : w.heap.size ≤ gb725)); clear HB; have HB := n0_; have BK725 := n1_; have GW725 := n2_; have GE725 := n3_; clear n0_ n1_ n2_ n3_; clear hb hbox hg; have hcz3_0 : w2.cell? ⟨gb725, 0, none⟩ = some (.int .i64 a0_0) := (blk_cell BK725.out 0).trans rfl; have hcz3_1 : w2.cell? ⟨gb725, 1, none⟩ = some (.int .i64 a0_1) := (blk_cell BK725.out 1).trans rfl; have hcz3_2 : w2.cell? ⟨gb725, 2, none⟩ = some (.int .i64 a0_2) := (blk_cell BK725.out 2).trans rfl; have hcz3_3 : w2.cell? ⟨gb725, 3, none⟩ = some (.int .i64 a0_3) := (blk_cell BK725.out 3).trans rfl; have hfz3_0 := blk_frozen BK725.out 0; have hfz3_1 := blk_frozen BK725.out 1; have hfz3_2 := blk_frozen BK725.out 2; have hfz3_3 := blk_frozen BK725.out 3))
  all_goals go_ret
  all_goals exact ⟨by first | rfl | (simp [errW_none, errW_some] <;> rfl) | (simp [*, errW_none, errW_some] <;> rfl), by repeat (first | (with_reducible first | exact HB.out | apply below_alloc | apply pw_below_drewN | apply below_drew1 | refine below_set ?_ GE725.out) | exact HB.out)⟩


end Go.Proofs.Ytmfbpkjhabdcgaa.F
end
section
-- Written by fork.py (this session's program over the kit's print.py). Not trusted: Lean checks it.
namespace Go.Proofs.Ytmfbpkjhabdcgaa.F
open Go.RowKit Go.Proofs.YtmfbpkjhabdcgaaW.PrintWords Go.Proofs.YtmfbpkjhabdcgaaW.PrintLast Go.Proofs.YtmfbpkjhabdcgaaW.PrintMore
attribute [local go_sem] max2_int min2_int max_two min_two max_three min_three max_four min_four
set_option linter.unusedVariables false
set_option linter.unusedSimpArgs false

/-! ### pick_between_int: function 147 -/
def pick_between_int.f (a0 : Int) (a1 : Int) (a2 : Int) : Option (Bool) := if a0 ≥ a1 then (some (decide (a0 ≤ a2))) else (some false)
set_option maxHeartbeats 8000000 in
set_option maxRecDepth 100000 in
theorem pick_between_int.calls (a0 : Int) (a1 : Int) (a2 : Int) (r : Bool) (w : World) (h : pick_between_int.f a0 a1 a2 = some r) :
    Calls Try.prog 147 #[.int .i64 a0, .int .i64 a1, .int .i64 a2] w fun e w' => e = .returned (.bool r) ∧ Drawn0 w w' := by
  have H : (if a0 ≥ a1 then (some (decide (a0 ≤ a2))) else (some false)) = some r := h
  clear h
  by_cases c4 : a0 ≥ a1
  · rw [if_pos c4] at H
    have c4b0 : decide (a1 ≤ a0) = true := decide_eq_true c4
    clear c4
    obtain rfl := Option.some.inj H
    go_enter Try.func147, Try.ntmps147
    go_wp2
    all_goals go_ret
    all_goals exact ⟨by first | rfl | (simp; done) | (simp [*]; done), by repeat (first | exact Drawn0.refl _ | apply Drawn0.step)⟩
  · rw [if_neg c4] at H
    have c4b0 : decide (a1 ≤ a0) = false := decide_eq_false c4
    clear c4
    obtain rfl := Option.some.inj H
    go_enter Try.func147, Try.ntmps147
    go_wp2
    all_goals go_ret
    all_goals exact ⟨by first | rfl | (simp; done) | (simp [*]; done), by repeat (first | exact Drawn0.refl _ | apply Drawn0.step)⟩


end Go.Proofs.Ytmfbpkjhabdcgaa.F
end
section
-- Written by fork.py (this session's program over the kit's print.py). Not trusted: Lean checks it.
namespace Go.Proofs.Ytmfbpkjhabdcgaa.F
open Go.RowKit Go.Proofs.YtmfbpkjhabdcgaaW.PrintWords Go.Proofs.YtmfbpkjhabdcgaaW.PrintLast Go.Proofs.YtmfbpkjhabdcgaaW.PrintMore
attribute [local go_sem] max2_int min2_int max_two min_two max_three min_three max_four min_four
set_option linter.unusedVariables false
set_option linter.unusedSimpArgs false

/-! ### pick_hall: function 199 -/
def pick_hall.f (a0_0 : Int) (a0_1 : Int) (a0_2 : Int) (a0_3 : Int) : Option (Bool) := some (a0_0 != 3)
set_option maxHeartbeats 8000000 in
set_option maxRecDepth 100000 in
theorem pick_hall.calls (a0_0 : Int) (a0_1 : Int) (a0_2 : Int) (a0_3 : Int) (r : Bool) (w : World) (h : pick_hall.f a0_0 a0_1 a0_2 a0_3 = some r) :
    Calls Try.prog 199 #[.agg #[.int .i64 a0_0, .int .i64 a0_1, .int .i64 a0_2, .int .i64 a0_3]] w fun e w' => e = .returned (.bool r) ∧ Below w.heap.size w w' := by
  have hu29 := Try.underlying29
  have HB := Aside0.mk (Below.refl w.heap.size w)
  have H : (some (a0_0 != 3)) = some r := h
  clear h
  obtain rfl := Option.some.inj H
  go_enter Try.func199, Try.ntmps199
  go_wp2_with (first | ((with_reducible refine gate_dst (N := 1) rfl ?_); refine box_event ?hg (N := 1) ?hd (cs := #[.int .i64 a0_0, .int .i64 a0_1, .int .i64 a0_2, .int .i64 a0_3]) (t := 29) ?hr ?_; (case hd => rfl); (case hg => rfl); (case hr => first | (go_simp; done) | (go_simp; rfl)); intro gb726 hg w2 hbox hb; have n0_ := Aside0.mk (below_step (by repeat (first | (with_reducible first | exact HB.out | apply below_alloc | apply pw_below_drewN | apply below_drew1) | exact HB.out)) hb); have n1_ := Aside0.mk (hbox); have n2_ := Aside0.mk ((by rw [hg]; exact (below_size (by repeat (first | (with_reducible first | exact HB.out | apply below_alloc | apply pw_below_drewN | apply below_drew1) | exact HB.out))) : w.heap.size ≤ gb726)); have n3_ := Aside0.mk ((by rw [hg]; exact (below_size (by repeat (first | (with_reducible first | exact HB.out | apply below_alloc | apply pw_below_drewN | apply below_drew1) | exact HB.out))) : w.heap.size ≤ gb726)); clear HB; have HB := n0_; have BK726 := n1_; have GW726 := n2_; have GE726 := n3_; clear n0_ n1_ n2_ n3_; clear hb hbox hg; have hcz3_0 : w2.cell? ⟨gb726, 0, none⟩ = some (.int .i64 a0_0) := (blk_cell BK726.out 0).trans rfl; have hcz3_1 : w2.cell? ⟨gb726, 1, none⟩ = some (.int .i64 a0_1) := (blk_cell BK726.out 1).trans rfl; have hcz3_2 : w2.cell? ⟨gb726, 2, none⟩ = some (.int .i64 a0_2) := (blk_cell BK726.out 2).trans rfl; have hcz3_3 : w2.cell? ⟨gb726, 3, none⟩ = some (.int .i64 a0_3) := (blk_cell BK726.out 3).trans rfl; have hfz3_0 := blk_frozen BK726.out 0; have hfz3_1 := blk_frozen BK726.out 1; have hfz3_2 := blk_frozen BK726.out 2; have hfz3_3 := blk_frozen BK726.out 3))
  all_goals go_ret
  all_goals exact ⟨by first | rfl | (simp [errW_none, errW_some] <;> rfl) | (simp [*, errW_none, errW_some] <;> rfl), by repeat (first | (with_reducible first | exact HB.out | apply below_alloc | apply pw_below_drewN | apply below_drew1 | refine below_set ?_ GE726.out) | exact HB.out)⟩


end Go.Proofs.Ytmfbpkjhabdcgaa.F
end
section
-- Written by fork.py (this session's program over the kit's print.py). Not trusted: Lean checks it.
namespace Go.Proofs.Ytmfbpkjhabdcgaa.F
open Go.RowKit Go.Proofs.YtmfbpkjhabdcgaaW.PrintWords Go.Proofs.YtmfbpkjhabdcgaaW.PrintLast Go.Proofs.YtmfbpkjhabdcgaaW.PrintMore
attribute [local go_sem] max2_int min2_int max_two min_two max_three min_three max_four min_four
set_option linter.unusedVariables false
set_option linter.unusedSimpArgs false

/-! ### pick_checkTaken: function 148 -/
def pick_checkTaken.l0 : Nat → List (S29) → Int → Int → Option (Int)
  | 0, _, _, _ => none
  | k + 1, x9, x10, x11 => if x11 < x10 then (if 0 ≤ x11 then (if x11 < (x9.length : Int) then ((call_Check.f k ((rd_T29 x9 x11).f0) ((rd_T29 x9 x11).f1) ((rd_T29 x9 x11).f2) ((rd_T29 x9 x11).f3)).bind fun t729 => (if t729 = 0 then ((pick_hall.f ((rd_T29 x9 x11).f0) ((rd_T29 x9 x11).f1) ((rd_T29 x9 x11).f2) ((rd_T29 x9 x11).f3)).bind fun t730 => (if t730 = true then (pick_checkTaken.l0 k x9 x10 (wrap64 (x11 + 1))) else (some 11))) else (some t729))) else (none)) else (none)) else (some 0)
def pick_checkTaken.f (k : Nat) (l0 : List (S29)) : Option (Int) := if (l0.length : Int) > 8 then (some 5) else (pick_checkTaken.l0 k l0 (l0.length : Int) 0)
theorem pick_checkTaken.mono_l : ∀ k, (∀ y0 y1 y2, LeO (pick_checkTaken.l0 k y0 y1 y2) (pick_checkTaken.l0 (k + 1) y0 y1 y2))
  | 0 => fun _ _ _ r h => by simp [pick_checkTaken.l0] at h
  | k + 1 => by
    have ih0 := pick_checkTaken.mono_l k
    · intro y0 y1 y2
      unfold pick_checkTaken.l0
      repeat' first
      | (with_reducible exact ih0 _ _ _)
      | (with_reducible exact call_Check.mono _ _ _ _ _)
      | (with_reducible exact LeO.refl _)
      | (with_reducible exact LeO.none _)
      | (with_reducible refine LeO.ite ?_ ?_)
      | (with_reducible refine LeO.bind ?_ (fun _ => ?_))
      | exact ih0 _ _ _
      | exact call_Check.mono _ _ _ _ _
      | exact LeO.none _
      | refine LeO.ite ?_ ?_
      | refine LeO.bind ?_ (fun _ => ?_)
theorem pick_checkTaken.mono : ∀ a0 k, LeO (pick_checkTaken.f k a0) (pick_checkTaken.f (k + 1) a0) := by
  intro a0 k
  have ih0 := pick_checkTaken.mono_l k
  unfold pick_checkTaken.f
  repeat' first
      | (with_reducible exact ih0 _ _ _)
      | (with_reducible exact call_Check.mono _ _ _ _ _)
      | (with_reducible exact LeO.refl _)
      | (with_reducible exact LeO.none _)
      | (with_reducible refine LeO.ite ?_ ?_)
      | (with_reducible refine LeO.bind ?_ (fun _ => ?_))
      | exact ih0 _ _ _
      | exact call_Check.mono _ _ _ _ _
      | exact LeO.none _
      | refine LeO.ite ?_ ?_
      | refine LeO.bind ?_ (fun _ => ?_)
set_option maxHeartbeats 8000000 in
set_option maxRecDepth 100000 in
theorem pick_checkTaken.calls (k : Nat) (A0 : Option Addr) (c0 : Nat) (l0 : List (S29)) (r : Int) (w : World) (hr0 : Kd.C k29 w A0 l0.length l0) (hc0 : l0.length ≤ c0) (h : pick_checkTaken.f k l0 = some r) :
    Calls Try.prog 148 #[.slice A0 l0.length c0] w fun e w' => e = .returned (.int .i64 r) ∧ Below w.heap.size w w' := by
  have hu29 := Try.underlying29
  have HR0 := Aside0.mk hr0
  have HC0 := Aside0.mk hc0
  clear hr0 hc0
  have HB := Aside0.mk (Below.refl w.heap.size w)
  have H : (if (l0.length : Int) > 8 then (some 5) else (pick_checkTaken.l0 k l0 (l0.length : Int) 0)) = some r := h
  clear h
  by_cases c2 : (l0.length : Int) > 8
  · rw [if_pos c2] at H
    have c2b0 : decide (8 < (l0.length : Int)) = true := decide_eq_true c2
    have c2b1 : decide (8 < l0.length) = true := decide_eq_true (by omega)
    clear c2
    obtain rfl := Option.some.inj H
    go_enter Try.func148, Try.ntmps148
    go_wp2
    all_goals go_ret
    all_goals exact ⟨by first | rfl | (simp [errW_none, errW_some] <;> rfl) | (simp [*, errW_none, errW_some] <;> rfl), by repeat (first | (with_reducible first | exact HB.out | apply below_alloc | apply pw_below_drewN | apply below_drew1) | exact HB.out)⟩
  · rw [if_neg c2] at H
    have c2b0 : decide (8 < (l0.length : Int)) = false := decide_eq_false c2
    have c2b1 : decide (8 < l0.length) = false := decide_eq_false (by omega)
    clear c2
    have H' := Aside0.mk H
    clear H
    go_enter Try.func148, Try.ntmps148
    go_wp2
    go_loopg [11] k (fun kq v11 w' => ∃ (x11_1 : Int), v11 = .int .i64 x11_1 ∧ Aside0 (pick_checkTaken.l0 kq l0 (l0.length : Int) x11_1 = some r) ∧ Aside0 (kq ≤ k) ∧ Aside0 (Below w.heap.size w w'))
    case atStart => exact ⟨(0), (by first | rfl | (simp; done) | (simp [*]; done)), H', ⟨Nat.le_refl _⟩, ⟨by repeat (first | (with_reducible first | exact HB.out | apply below_alloc | apply pw_below_drewN | apply below_drew1) | exact HB.out)⟩⟩
    case round =>
      clear H'
      try clear c1
      try clear c2
      try clear c2b0
      try clear c2b1
      try clear p2
      obtain ⟨x11_1, rfl, HA, HK1, HB⟩ := hrel
      cases gk with
      | zero => exact absurd HA.out (by simp [pick_checkTaken.l0])
      | succ k1 =>
        have H := HA.out
        clear HA
        simp only [pick_checkTaken.l0] at H
        by_cases c3 : x11_1 < (l0.length : Int)
        · rw [if_pos c3] at H
          have c3b0 : decide (x11_1 < (l0.length : Int)) = true := decide_eq_true c3
          clear c3
          by_cases c4 : 0 ≤ x11_1
          rotate_left
          · rw [if_neg c4] at H
            exact absurd H (by simp)
          rw [if_pos c4] at H
          have c4b0 : decide (0 ≤ x11_1) = true := decide_eq_true c4
          clear c4
          by_cases c5 : x11_1 < (l0.length : Int)
          rotate_left
          · rw [if_neg c5] at H
            exact absurd H (by simp)
          rw [if_pos c5] at H
          have c5b0 : decide (x11_1 < (l0.length : Int)) = true := decide_eq_true c5
          clear c5
          replace H := Option.bind_eq_some_iff.mp H
          obtain ⟨t729, A60, H⟩ := H
          replace H : (if t729 = 0 then ((pick_hall.f ((rd_T29 l0 x11_1).f0) ((rd_T29 l0 x11_1).f1) ((rd_T29 l0 x11_1).f2) ((rd_T29 l0 x11_1).f3)).bind fun t730 => (if t730 = true then (pick_checkTaken.l0 k1 l0 (l0.length : Int) (wrap64 (x11_1 + 1))) else (some 11))) else (some t729)) = some r := H
          have A6 := Aside0.mk A60
          clear A60
          by_cases c7 : t729 = 0
          · rw [if_pos c7] at H
            have c7b0 : (t729 == 0) = true := beq_iff_eq.mpr c7
            have c7b1 : (t729 != 0) = false := bne_eq_false_iff_eq.mpr c7
            clear c7
            replace H := Option.bind_eq_some_iff.mp H
            obtain ⟨t730, A80, H⟩ := H
            replace H : (if t730 = true then (pick_checkTaken.l0 k1 l0 (l0.length : Int) (wrap64 (x11_1 + 1))) else (some 11)) = some r := H
            have A8 := Aside0.mk A80
            clear A80
            by_cases c9 : t730 = true
            · subst c9
              have H1 : (pick_checkTaken.l0 k1 l0 (l0.length : Int) (wrap64 (x11_1 + 1))) = some r := by rw [if_pos rfl] at H; exact H
              clear H
              have H := H1
              clear H1
              have H' := Aside0.mk H
              clear H
              have p727 : 0 ≤ (x11_1 : Int) := of_decide_eq_true (by first | (with_reducible assumption) | assumption)
              have q727 : x11_1 < (l0.length : Int) := of_decide_eq_true (by first | (with_reducible assumption) | assumption)
              obtain ⟨ad727, e727, hx727_0, hx727_1, hx727_2, hx727_3⟩ := at_T29 HR0.out x11_1 p727 q727
              cases e727
              replace hx727_0 := (HB.out.cell (World.block_lt_of_cell? w _ hx727_0)).trans hx727_0
              replace hx727_1 := (HB.out.cell (World.block_lt_of_cell? w _ hx727_1)).trans hx727_1
              replace hx727_2 := (HB.out.cell (World.block_lt_of_cell? w _ hx727_2)).trans hx727_2
              replace hx727_3 := (HB.out.cell (World.block_lt_of_cell? w _ hx727_3)).trans hx727_3
              replace p727 := eq_true p727
              replace q727 := eq_true q727
              go_wp2_with (first | ((with_reducible refine gate_dst (N := 4) rfl ?_); refine box_event ?hg (N := 4) ?hd (cs := #[.int .i64 0, .int .i64 0, .int .i64 0, .int .i64 0]) (t := 29) ?hr ?_; (case hd => rfl); (case hg => rfl); (case hr => first | (go_simp; done) | (go_simp; rfl)); intro gb728 hg w10 hbox hb; have n0_ := Aside0.mk (below_step (by repeat (first | (with_reducible first | exact HB.out | apply below_alloc | apply pw_below_drewN | apply below_drew1) | exact HB.out)) hb); have n1_ := Aside0.mk (hbox); have n2_ := Aside0.mk ((by rw [hg]; exact (below_size (by repeat (first | (with_reducible first | exact HB.out | apply below_alloc | apply pw_below_drewN | apply below_drew1) | exact HB.out))) : w.heap.size ≤ gb728)); have n3_ := Aside0.mk ((by rw [hg]; exact (below_size (by repeat (first | (with_reducible first | exact HB.out | apply below_alloc | apply pw_below_drewN | apply below_drew1) | exact HB.out))) : w.heap.size ≤ gb728)); clear HB; have HB := n0_; have BK728 := n1_; have GW728 := n2_; have GE728 := n3_; clear n0_ n1_ n2_ n3_; clear hb hbox hg; have hcz11_0 : w10.cell? ⟨gb728, 0, none⟩ = some (.int .i64 0) := (blk_cell BK728.out 0).trans rfl; have hcz11_1 : w10.cell? ⟨gb728, 1, none⟩ = some (.int .i64 0) := (blk_cell BK728.out 1).trans rfl; have hcz11_2 : w10.cell? ⟨gb728, 2, none⟩ = some (.int .i64 0) := (blk_cell BK728.out 2).trans rfl; have hcz11_3 : w10.cell? ⟨gb728, 3, none⟩ = some (.int .i64 0) := (blk_cell BK728.out 3).trans rfl; have hfz11_0 := blk_frozen BK728.out 0; have hfz11_1 := blk_frozen BK728.out 1; have hfz11_2 := blk_frozen BK728.out 2; have hfz11_3 := blk_frozen BK728.out 3) | ((with_reducible refine gate_callee (f := 139) rfl ?_); refine goesL_ (some 16) rfl rfl Try.func139 (by kernel_rfl) rfl #[.agg #[.int .i64 ((rd_T29 l0 x11_1).f0), .int .i64 ((rd_T29 l0 x11_1).f1), .int .i64 ((rd_T29 l0 x11_1).f2), .int .i64 ((rd_T29 l0 x11_1).f3)]] rfl (by (try simp only [List.map_toArray, List.map_cons, List.map_nil]); first | done | rfl | (simp only [List.length_drop, List.length_take]; rfl)) ?_; (with_reducible refine (call_Check.calls k1 ((rd_T29 l0 x11_1).f0) ((rd_T29 l0 x11_1).f1) ((rd_T29 l0 x11_1).f2) ((rd_T29 l0 x11_1).f3) t729 _ A6.out).mono ?_); rintro e w12 ⟨rfl, hb⟩; refine ⟨_, rfl, ?_⟩; have n0_ := Aside0.mk (blk_below (g := gb728) (o := .cells #[.int .i64 ((rd_T29 l0 x11_1).f0), .int .i64 ((rd_T29 l0 x11_1).f1), .int .i64 ((rd_T29 l0 x11_1).f2), .int .i64 ((rd_T29 l0 x11_1).f3)] 29 (0, 0)) (by (with_reducible repeat (first | refine blk_drewN ?_ _ | refine blk_drew ?_ | refine blk_alloc ?_ _)); refine blk_put (cs := #[.int .i64 ((rd_T29 l0 x11_1).f0), .int .i64 ((rd_T29 l0 x11_1).f1), .int .i64 ((rd_T29 l0 x11_1).f2), .int .i64 0]) ?_ 3 _ rfl; (with_reducible repeat (first | refine blk_drewN ?_ _ | refine blk_drew ?_ | refine blk_alloc ?_ _)); refine blk_put (cs := #[.int .i64 ((rd_T29 l0 x11_1).f0), .int .i64 ((rd_T29 l0 x11_1).f1), .int .i64 0, .int .i64 0]) ?_ 2 _ rfl; (with_reducible repeat (first | refine blk_drewN ?_ _ | refine blk_drew ?_ | refine blk_alloc ?_ _)); refine blk_put (cs := #[.int .i64 ((rd_T29 l0 x11_1).f0), .int .i64 0, .int .i64 0, .int .i64 0]) ?_ 1 _ rfl; (with_reducible repeat (first | refine blk_drewN ?_ _ | refine blk_drew ?_ | refine blk_alloc ?_ _)); refine blk_put (cs := #[.int .i64 0, .int .i64 0, .int .i64 0, .int .i64 0]) ?_ 0 _ rfl; (with_reducible repeat (first | refine blk_drewN ?_ _ | refine blk_drew ?_ | refine blk_alloc ?_ _)); exact BK728.out) hb); have n1_ := Aside0.mk (below_step (by repeat (first | (with_reducible first | exact HB.out | apply below_alloc | apply pw_below_drewN | apply below_drew1 | refine below_set ?_ GE728.out) | exact HB.out)) hb); clear BK728; clear HB; have BK728 := n0_; have HB := n1_; clear n0_ n1_; (try clear hb); (try clear hb2); (try clear hk); (try clear hi); have hcz13_0 : w12.cell? ⟨gb728, 0, none⟩ = some (.int .i64 ((rd_T29 l0 x11_1).f0)) := (blk_cell BK728.out 0).trans rfl; have hcz13_1 : w12.cell? ⟨gb728, 1, none⟩ = some (.int .i64 ((rd_T29 l0 x11_1).f1)) := (blk_cell BK728.out 1).trans rfl; have hcz13_2 : w12.cell? ⟨gb728, 2, none⟩ = some (.int .i64 ((rd_T29 l0 x11_1).f2)) := (blk_cell BK728.out 2).trans rfl; have hcz13_3 : w12.cell? ⟨gb728, 3, none⟩ = some (.int .i64 ((rd_T29 l0 x11_1).f3)) := (blk_cell BK728.out 3).trans rfl; have hfz13_0 := blk_frozen BK728.out 0; have hfz13_1 := blk_frozen BK728.out 1; have hfz13_2 := blk_frozen BK728.out 2; have hfz13_3 := blk_frozen BK728.out 3) | ((with_reducible refine gate_callee (f := 199) rfl ?_); refine goesL_ (some 21) rfl rfl Try.func199 (by kernel_rfl) rfl #[.agg #[.int .i64 ((rd_T29 l0 x11_1).f0), .int .i64 ((rd_T29 l0 x11_1).f1), .int .i64 ((rd_T29 l0 x11_1).f2), .int .i64 ((rd_T29 l0 x11_1).f3)]] rfl (by (try simp only [List.map_toArray, List.map_cons, List.map_nil]); first | done | rfl | (simp only [List.length_drop, List.length_take]; rfl)) ?_; (with_reducible refine (pick_hall.calls ((rd_T29 l0 x11_1).f0) ((rd_T29 l0 x11_1).f1) ((rd_T29 l0 x11_1).f2) ((rd_T29 l0 x11_1).f3) true _ A8.out).mono ?_); rintro e w14 ⟨rfl, hb⟩; refine ⟨_, rfl, ?_⟩; have n0_ := Aside0.mk (blk_below (g := gb728) (o := .cells #[.int .i64 ((rd_T29 l0 x11_1).f0), .int .i64 ((rd_T29 l0 x11_1).f1), .int .i64 ((rd_T29 l0 x11_1).f2), .int .i64 ((rd_T29 l0 x11_1).f3)] 29 (0, 0)) (by (with_reducible repeat (first | refine blk_drewN ?_ _ | refine blk_drew ?_ | refine blk_alloc ?_ _)); exact BK728.out) hb); have n1_ := Aside0.mk (below_step (by repeat (first | (with_reducible first | exact HB.out | apply below_alloc | apply pw_below_drewN | apply below_drew1 | refine below_set ?_ GE728.out) | exact HB.out)) hb); clear BK728; clear HB; have BK728 := n0_; have HB := n1_; clear n0_ n1_; (try clear hb); (try clear hb2); (try clear hk); (try clear hi)))
              go_roundg k1
              case measure => have := HK1.out; omega
              case rel => exact ⟨(wrap64 (x11_1 + 1)), (by first | rfl | (simp; done) | (simp [*]; done)), H', ⟨by have := HK1.out; omega⟩, ⟨by repeat (first | (with_reducible first | exact HB.out | apply below_alloc | apply pw_below_drewN | apply below_drew1 | refine below_set ?_ GE728.out) | exact HB.out)⟩⟩
            · replace c9 := Bool.eq_false_iff.mpr c9
              subst c9
              have H1 : (some 11) = some r := by rw [if_neg (show ¬ (false = true) by decide)] at H; exact H
              clear H
              have H := H1
              clear H1
              obtain rfl := Option.some.inj H
              have p727 : 0 ≤ (x11_1 : Int) := of_decide_eq_true (by first | (with_reducible assumption) | assumption)
              have q727 : x11_1 < (l0.length : Int) := of_decide_eq_true (by first | (with_reducible assumption) | assumption)
              obtain ⟨ad727, e727, hx727_0, hx727_1, hx727_2, hx727_3⟩ := at_T29 HR0.out x11_1 p727 q727
              cases e727
              replace hx727_0 := (HB.out.cell (World.block_lt_of_cell? w _ hx727_0)).trans hx727_0
              replace hx727_1 := (HB.out.cell (World.block_lt_of_cell? w _ hx727_1)).trans hx727_1
              replace hx727_2 := (HB.out.cell (World.block_lt_of_cell? w _ hx727_2)).trans hx727_2
              replace hx727_3 := (HB.out.cell (World.block_lt_of_cell? w _ hx727_3)).trans hx727_3
              replace p727 := eq_true p727
              replace q727 := eq_true q727
              go_wp2_with (first | ((with_reducible refine gate_dst (N := 4) rfl ?_); refine box_event ?hg (N := 4) ?hd (cs := #[.int .i64 0, .int .i64 0, .int .i64 0, .int .i64 0]) (t := 29) ?hr ?_; (case hd => rfl); (case hg => rfl); (case hr => first | (go_simp; done) | (go_simp; rfl)); intro gb728 hg w15 hbox hb; have n0_ := Aside0.mk (below_step (by repeat (first | (with_reducible first | exact HB.out | apply below_alloc | apply pw_below_drewN | apply below_drew1) | exact HB.out)) hb); have n1_ := Aside0.mk (hbox); have n2_ := Aside0.mk ((by rw [hg]; exact (below_size (by repeat (first | (with_reducible first | exact HB.out | apply below_alloc | apply pw_below_drewN | apply below_drew1) | exact HB.out))) : w.heap.size ≤ gb728)); have n3_ := Aside0.mk ((by rw [hg]; exact (below_size (by repeat (first | (with_reducible first | exact HB.out | apply below_alloc | apply pw_below_drewN | apply below_drew1) | exact HB.out))) : w.heap.size ≤ gb728)); clear HB; have HB := n0_; have BK728 := n1_; have GW728 := n2_; have GE728 := n3_; clear n0_ n1_ n2_ n3_; clear hb hbox hg; have hcz16_0 : w15.cell? ⟨gb728, 0, none⟩ = some (.int .i64 0) := (blk_cell BK728.out 0).trans rfl; have hcz16_1 : w15.cell? ⟨gb728, 1, none⟩ = some (.int .i64 0) := (blk_cell BK728.out 1).trans rfl; have hcz16_2 : w15.cell? ⟨gb728, 2, none⟩ = some (.int .i64 0) := (blk_cell BK728.out 2).trans rfl; have hcz16_3 : w15.cell? ⟨gb728, 3, none⟩ = some (.int .i64 0) := (blk_cell BK728.out 3).trans rfl; have hfz16_0 := blk_frozen BK728.out 0; have hfz16_1 := blk_frozen BK728.out 1; have hfz16_2 := blk_frozen BK728.out 2; have hfz16_3 := blk_frozen BK728.out 3) | ((with_reducible refine gate_callee (f := 139) rfl ?_); refine goesL_ (some 16) rfl rfl Try.func139 (by kernel_rfl) rfl #[.agg #[.int .i64 ((rd_T29 l0 x11_1).f0), .int .i64 ((rd_T29 l0 x11_1).f1), .int .i64 ((rd_T29 l0 x11_1).f2), .int .i64 ((rd_T29 l0 x11_1).f3)]] rfl (by (try simp only [List.map_toArray, List.map_cons, List.map_nil]); first | done | rfl | (simp only [List.length_drop, List.length_take]; rfl)) ?_; (with_reducible refine (call_Check.calls k1 ((rd_T29 l0 x11_1).f0) ((rd_T29 l0 x11_1).f1) ((rd_T29 l0 x11_1).f2) ((rd_T29 l0 x11_1).f3) t729 _ A6.out).mono ?_); rintro e w17 ⟨rfl, hb⟩; refine ⟨_, rfl, ?_⟩; have n0_ := Aside0.mk (blk_below (g := gb728) (o := .cells #[.int .i64 ((rd_T29 l0 x11_1).f0), .int .i64 ((rd_T29 l0 x11_1).f1), .int .i64 ((rd_T29 l0 x11_1).f2), .int .i64 ((rd_T29 l0 x11_1).f3)] 29 (0, 0)) (by (with_reducible repeat (first | refine blk_drewN ?_ _ | refine blk_drew ?_ | refine blk_alloc ?_ _)); refine blk_put (cs := #[.int .i64 ((rd_T29 l0 x11_1).f0), .int .i64 ((rd_T29 l0 x11_1).f1), .int .i64 ((rd_T29 l0 x11_1).f2), .int .i64 0]) ?_ 3 _ rfl; (with_reducible repeat (first | refine blk_drewN ?_ _ | refine blk_drew ?_ | refine blk_alloc ?_ _)); refine blk_put (cs := #[.int .i64 ((rd_T29 l0 x11_1).f0), .int .i64 ((rd_T29 l0 x11_1).f1), .int .i64 0, .int .i64 0]) ?_ 2 _ rfl; (with_reducible repeat (first | refine blk_drewN ?_ _ | refine blk_drew ?_ | refine blk_alloc ?_ _)); refine blk_put (cs := #[.int .i64 ((rd_T29 l0 x11_1).f0), .int .i64 0, .int .i64 0, .int .i64 0]) ?_ 1 _ rfl; (with_reducible repeat (first | refine blk_drewN ?_ _ | refine blk_drew ?_ | refine blk_alloc ?_ _)); refine blk_put (cs := #[.int .i64 0, .int .i64 0, .int .i64 0, .int .i64 0]) ?_ 0 _ rfl; (with_reducible repeat (first | refine blk_drewN ?_ _ | refine blk_drew ?_ | refine blk_alloc ?_ _)); exact BK728.out) hb); have n1_ := Aside0.mk (below_step (by repeat (first | (with_reducible first | exact HB.out | apply below_alloc | apply pw_below_drewN | apply below_drew1 | refine below_set ?_ GE728.out) | exact HB.out)) hb); clear BK728; clear HB; have BK728 := n0_; have HB := n1_; clear n0_ n1_; (try clear hb); (try clear hb2); (try clear hk); (try clear hi); have hcz18_0 : w17.cell? ⟨gb728, 0, none⟩ = some (.int .i64 ((rd_T29 l0 x11_1).f0)) := (blk_cell BK728.out 0).trans rfl; have hcz18_1 : w17.cell? ⟨gb728, 1, none⟩ = some (.int .i64 ((rd_T29 l0 x11_1).f1)) := (blk_cell BK728.out 1).trans rfl; have hcz18_2 : w17.cell? ⟨gb728, 2, none⟩ = some (.int .i64 ((rd_T29 l0 x11_1).f2)) := (blk_cell BK728.out 2).trans rfl; have hcz18_3 : w17.cell? ⟨gb728, 3, none⟩ = some (.int .i64 ((rd_T29 l0 x11_1).f3)) := (blk_cell BK728.out 3).trans rfl; have hfz18_0 := blk_frozen BK728.out 0; have hfz18_1 := blk_frozen BK728.out 1; have hfz18_2 := blk_frozen BK728.out 2; have hfz18_3 := blk_frozen BK728.out 3) | ((with_reducible refine gate_callee (f := 199) rfl ?_); refine goesL_ (some 21) rfl rfl Try.func199 (by kernel_rfl) rfl #[.agg #[.int .i64 ((rd_T29 l0 x11_1).f0), .int .i64 ((rd_T29 l0 x11_1).f1), .int .i64 ((rd_T29 l0 x11_1).f2), .int .i64 ((rd_T29 l0 x11_1).f3)]] rfl (by (try simp only [List.map_toArray, List.map_cons, List.map_nil]); first | done | rfl | (simp only [List.length_drop, List.length_take]; rfl)) ?_; (with_reducible refine (pick_hall.calls ((rd_T29 l0 x11_1).f0) ((rd_T29 l0 x11_1).f1) ((rd_T29 l0 x11_1).f2) ((rd_T29 l0 x11_1).f3) false _ A8.out).mono ?_); rintro e w19 ⟨rfl, hb⟩; refine ⟨_, rfl, ?_⟩; have n0_ := Aside0.mk (blk_below (g := gb728) (o := .cells #[.int .i64 ((rd_T29 l0 x11_1).f0), .int .i64 ((rd_T29 l0 x11_1).f1), .int .i64 ((rd_T29 l0 x11_1).f2), .int .i64 ((rd_T29 l0 x11_1).f3)] 29 (0, 0)) (by (with_reducible repeat (first | refine blk_drewN ?_ _ | refine blk_drew ?_ | refine blk_alloc ?_ _)); exact BK728.out) hb); have n1_ := Aside0.mk (below_step (by repeat (first | (with_reducible first | exact HB.out | apply below_alloc | apply pw_below_drewN | apply below_drew1 | refine below_set ?_ GE728.out) | exact HB.out)) hb); clear BK728; clear HB; have BK728 := n0_; have HB := n1_; clear n0_ n1_; (try clear hb); (try clear hb2); (try clear hk); (try clear hi)))
              all_goals go_ret
              all_goals exact ⟨by first | rfl | (simp [errW_none, errW_some] <;> rfl) | (simp [*, errW_none, errW_some] <;> rfl), by repeat (first | (with_reducible first | exact HB.out | apply below_alloc | apply pw_below_drewN | apply below_drew1 | refine below_set ?_ GE728.out) | exact HB.out)⟩
          · rw [if_neg c7] at H
            have c7b0 : (t729 == 0) = false := beq_eq_false_iff_ne.mpr c7
            have c7b1 : (t729 != 0) = true := bne_iff_ne.mpr c7
            obtain rfl := Option.some.inj H
            have p727 : 0 ≤ (x11_1 : Int) := of_decide_eq_true (by first | (with_reducible assumption) | assumption)
            have q727 : x11_1 < (l0.length : Int) := of_decide_eq_true (by first | (with_reducible assumption) | assumption)
            obtain ⟨ad727, e727, hx727_0, hx727_1, hx727_2, hx727_3⟩ := at_T29 HR0.out x11_1 p727 q727
            cases e727
            replace hx727_0 := (HB.out.cell (World.block_lt_of_cell? w _ hx727_0)).trans hx727_0
            replace hx727_1 := (HB.out.cell (World.block_lt_of_cell? w _ hx727_1)).trans hx727_1
            replace hx727_2 := (HB.out.cell (World.block_lt_of_cell? w _ hx727_2)).trans hx727_2
            replace hx727_3 := (HB.out.cell (World.block_lt_of_cell? w _ hx727_3)).trans hx727_3
            replace p727 := eq_true p727
            replace q727 := eq_true q727
            go_wp2_with (first | ((with_reducible refine gate_dst (N := 4) rfl ?_); refine box_event ?hg (N := 4) ?hd (cs := #[.int .i64 0, .int .i64 0, .int .i64 0, .int .i64 0]) (t := 29) ?hr ?_; (case hd => rfl); (case hg => rfl); (case hr => first | (go_simp; done) | (go_simp; rfl)); intro gb728 hg w20 hbox hb; have n0_ := Aside0.mk (below_step (by repeat (first | (with_reducible first | exact HB.out | apply below_alloc | apply pw_below_drewN | apply below_drew1) | exact HB.out)) hb); have n1_ := Aside0.mk (hbox); have n2_ := Aside0.mk ((by rw [hg]; exact (below_size (by repeat (first | (with_reducible first | exact HB.out | apply below_alloc | apply pw_below_drewN | apply below_drew1) | exact HB.out))) : w.heap.size ≤ gb728)); have n3_ := Aside0.mk ((by rw [hg]; exact (below_size (by repeat (first | (with_reducible first | exact HB.out | apply below_alloc | apply pw_below_drewN | apply below_drew1) | exact HB.out))) : w.heap.size ≤ gb728)); clear HB; have HB := n0_; have BK728 := n1_; have GW728 := n2_; have GE728 := n3_; clear n0_ n1_ n2_ n3_; clear hb hbox hg; have hcz21_0 : w20.cell? ⟨gb728, 0, none⟩ = some (.int .i64 0) := (blk_cell BK728.out 0).trans rfl; have hcz21_1 : w20.cell? ⟨gb728, 1, none⟩ = some (.int .i64 0) := (blk_cell BK728.out 1).trans rfl; have hcz21_2 : w20.cell? ⟨gb728, 2, none⟩ = some (.int .i64 0) := (blk_cell BK728.out 2).trans rfl; have hcz21_3 : w20.cell? ⟨gb728, 3, none⟩ = some (.int .i64 0) := (blk_cell BK728.out 3).trans rfl; have hfz21_0 := blk_frozen BK728.out 0; have hfz21_1 := blk_frozen BK728.out 1; have hfz21_2 := blk_frozen BK728.out 2; have hfz21_3 := blk_frozen BK728.out 3) | ((with_reducible refine gate_callee (f := 139) rfl ?_); refine goesL_ (some 16) rfl rfl Try.func139 (by kernel_rfl) rfl #[.agg #[.int .i64 ((rd_T29 l0 x11_1).f0), .int .i64 ((rd_T29 l0 x11_1).f1), .int .i64 ((rd_T29 l0 x11_1).f2), .int .i64 ((rd_T29 l0 x11_1).f3)]] rfl (by (try simp only [List.map_toArray, List.map_cons, List.map_nil]); first | done | rfl | (simp only [List.length_drop, List.length_take]; rfl)) ?_; (with_reducible refine (call_Check.calls k1 ((rd_T29 l0 x11_1).f0) ((rd_T29 l0 x11_1).f1) ((rd_T29 l0 x11_1).f2) ((rd_T29 l0 x11_1).f3) t729 _ A6.out).mono ?_); rintro e w22 ⟨rfl, hb⟩; refine ⟨_, rfl, ?_⟩; have n1_ := Aside0.mk (below_step (by repeat (first | (with_reducible first | exact HB.out | apply below_alloc | apply pw_below_drewN | apply below_drew1 | refine below_set ?_ GE728.out) | exact HB.out)) hb); clear BK728; clear HB; have HB := n1_; clear n1_; (try clear hb); (try clear hb2); (try clear hk); (try clear hi)))
            all_goals go_ret
            all_goals exact ⟨by first | rfl | (simp [errW_none, errW_some] <;> rfl) | (simp [*, errW_none, errW_some] <;> rfl), by repeat (first | (with_reducible first | exact HB.out | apply below_alloc | apply pw_below_drewN | apply below_drew1 | refine below_set ?_ GE728.out) | exact HB.out)⟩
        · rw [if_neg c3] at H
          have c3b0 : decide (x11_1 < (l0.length : Int)) = false := decide_eq_false c3
          clear c3
          obtain rfl := Option.some.inj H
          go_wp2
          all_goals go_ret
          all_goals exact ⟨by first | rfl | (simp [errW_none, errW_some] <;> rfl) | (simp [*, errW_none, errW_some] <;> rfl), by repeat (first | (with_reducible first | exact HB.out | apply below_alloc | apply pw_below_drewN | apply below_drew1) | exact HB.out)⟩


end Go.Proofs.Ytmfbpkjhabdcgaa.F
end
section
-- Written by fork.py (this session's program over the kit's print.py). Not trusted: Lean checks it.
namespace Go.Proofs.Ytmfbpkjhabdcgaa.F
open Go.RowKit Go.Proofs.YtmfbpkjhabdcgaaW.PrintWords Go.Proofs.YtmfbpkjhabdcgaaW.PrintLast Go.Proofs.YtmfbpkjhabdcgaaW.PrintMore
attribute [local go_sem] max2_int min2_int max_two min_two max_three min_three max_four min_four
set_option linter.unusedVariables false
set_option linter.unusedSimpArgs false

/-! ### pick_Check: function 63 -/
def pick_Check.j0 : Nat → Bool → Int → Int → Int → Int → Int → Int → Int → Int → Int → List (S29) → Option (Int)
  | 0, _, _, _, _, _, _, _, _, _, _, _ => none
  | k + 1, x3, x732000, x732001, x732002, x732003, x732004, x732005, x732006, x732007, x732008, x732009 => if x3 = true then ((pick_between_int.f x732005 0 10000).bind fun t736 => (if t736 = true then ((pick_between_int.f x732006 1 10000).bind fun t737 => (if t737 = true then ((pick_between_int.f x732007 0 63).bind fun t738 => (if t738 = true then ((pick_between_int.f x732008 0 63).bind fun t739 => (if t739 = true then ((pick_checkTaken.f k x732009).bind fun t740 => (some t740)) else (some 2))) else (some 2))) else (some 2))) else (some 2))) else (some 2)
def pick_Check.f (k : Nat) (a0_0 : Int) (a0_1 : Int) (a0_2 : Int) (a0_3 : Int) (a0_4 : Int) (a0_5 : Int) (a0_6 : Int) (a0_7 : Int) (a0_8 : Int) (l0_9 : List (S29)) : Option (Int) := (pick_between_int.f a0_0 1 8).bind fun t732 => (if t732 = true then ((pick_between_int.f a0_1 0 3).bind fun t733 => (if t733 = true then ((pick_between_int.f a0_2 0 15).bind fun t734 => (if t734 = true then ((pick_between_int.f a0_3 0 1099511627776).bind fun t735 => (if t735 = true then (pick_Check.j0 k (decide (a0_4 ≥ 1)) a0_0 a0_1 a0_2 a0_3 a0_4 a0_5 a0_6 a0_7 a0_8 l0_9) else (pick_Check.j0 k false a0_0 a0_1 a0_2 a0_3 a0_4 a0_5 a0_6 a0_7 a0_8 l0_9))) else (pick_Check.j0 k false a0_0 a0_1 a0_2 a0_3 a0_4 a0_5 a0_6 a0_7 a0_8 l0_9))) else (pick_Check.j0 k false a0_0 a0_1 a0_2 a0_3 a0_4 a0_5 a0_6 a0_7 a0_8 l0_9))) else (pick_Check.j0 k false a0_0 a0_1 a0_2 a0_3 a0_4 a0_5 a0_6 a0_7 a0_8 l0_9))
theorem pick_Check.mono_l : ∀ k, (∀ y0 y1 y2 y3 y4 y5 y6 y7 y8 y9 y10, LeO (pick_Check.j0 k y0 y1 y2 y3 y4 y5 y6 y7 y8 y9 y10) (pick_Check.j0 (k + 1) y0 y1 y2 y3 y4 y5 y6 y7 y8 y9 y10))
  | 0 => fun _ _ _ _ _ _ _ _ _ _ _ r h => by simp [pick_Check.j0] at h
  | k + 1 => by
    have ih0 := pick_Check.mono_l k
    · intro y0 y1 y2 y3 y4 y5 y6 y7 y8 y9 y10
      unfold pick_Check.j0
      repeat' first
      | (with_reducible exact ih0 _ _ _ _ _ _ _ _ _ _ _)
      | (with_reducible exact pick_checkTaken.mono _ _)
      | (with_reducible exact LeO.refl _)
      | (with_reducible exact LeO.none _)
      | (with_reducible refine LeO.ite ?_ ?_)
      | (with_reducible refine LeO.bind ?_ (fun _ => ?_))
      | exact ih0 _ _ _ _ _ _ _ _ _ _ _
      | exact pick_checkTaken.mono _ _
      | exact LeO.none _
      | refine LeO.ite ?_ ?_
      | refine LeO.bind ?_ (fun _ => ?_)
theorem pick_Check.mono : ∀ a0 a1 a2 a3 a4 a5 a6 a7 a8 a9 k, LeO (pick_Check.f k a0 a1 a2 a3 a4 a5 a6 a7 a8 a9) (pick_Check.f (k + 1) a0 a1 a2 a3 a4 a5 a6 a7 a8 a9) := by
  intro a0 a1 a2 a3 a4 a5 a6 a7 a8 a9 k
  have ih0 := pick_Check.mono_l k
  unfold pick_Check.f
  repeat' first
      | (with_reducible exact ih0 _ _ _ _ _ _ _ _ _ _ _)
      | (with_reducible exact pick_checkTaken.mono _ _)
      | (with_reducible exact LeO.refl _)
      | (with_reducible exact LeO.none _)
      | (with_reducible refine LeO.ite ?_ ?_)
      | (with_reducible refine LeO.bind ?_ (fun _ => ?_))
      | exact ih0 _ _ _ _ _ _ _ _ _ _ _
      | exact pick_checkTaken.mono _ _
      | exact LeO.none _
      | refine LeO.ite ?_ ?_
      | refine LeO.bind ?_ (fun _ => ?_)
set_option maxHeartbeats 8000000 in
set_option maxRecDepth 100000 in
theorem pick_Check.calls (k : Nat) (a0_0 : Int) (a0_1 : Int) (a0_2 : Int) (a0_3 : Int) (a0_4 : Int) (a0_5 : Int) (a0_6 : Int) (a0_7 : Int) (a0_8 : Int) (A0_9 : Option Addr) (c0_9 : Nat) (l0_9 : List (S29)) (r : Int) (w : World) (hr0_9 : Kd.C k29 w A0_9 l0_9.length l0_9) (hc0_9 : l0_9.length ≤ c0_9) (h : pick_Check.f k a0_0 a0_1 a0_2 a0_3 a0_4 a0_5 a0_6 a0_7 a0_8 l0_9 = some r) :
    Calls Try.prog 63 #[.agg #[.int .i64 a0_0, .int .i64 a0_1, .int .i64 a0_2, .int .i64 a0_3, .int .i64 a0_4, .int .i64 a0_5, .int .i64 a0_6, .int .i64 a0_7, .int .i64 a0_8, .slice A0_9 l0_9.length c0_9]] w fun e w' => e = .returned (.int .i64 r) ∧ Below w.heap.size w w' := by
  have hu60 := Try.underlying60
  have HR0_9 := Aside0.mk hr0_9
  have HC0_9 := Aside0.mk hc0_9
  clear hr0_9 hc0_9
  have HB := Aside0.mk (Below.refl w.heap.size w)
  have H : ((pick_between_int.f a0_0 1 8).bind fun t732 => (if t732 = true then ((pick_between_int.f a0_1 0 3).bind fun t733 => (if t733 = true then ((pick_between_int.f a0_2 0 15).bind fun t734 => (if t734 = true then ((pick_between_int.f a0_3 0 1099511627776).bind fun t735 => (if t735 = true then (pick_Check.j0 k (decide (a0_4 ≥ 1)) a0_0 a0_1 a0_2 a0_3 a0_4 a0_5 a0_6 a0_7 a0_8 l0_9) else (pick_Check.j0 k false a0_0 a0_1 a0_2 a0_3 a0_4 a0_5 a0_6 a0_7 a0_8 l0_9))) else (pick_Check.j0 k false a0_0 a0_1 a0_2 a0_3 a0_4 a0_5 a0_6 a0_7 a0_8 l0_9))) else (pick_Check.j0 k false a0_0 a0_1 a0_2 a0_3 a0_4 a0_5 a0_6 a0_7 a0_8 l0_9))) else (pick_Check.j0 k false a0_0 a0_1 a0_2 a0_3 a0_4 a0_5 a0_6 a0_7 a0_8 l0_9))) = some r := h
  clear h
  have HC2 := Aside0.mk H
  clear H
  go_enter Try.func63, Try.ntmps63
  go_upto_region 1 with (first | ((with_reducible refine gate_dst (N := 1) rfl ?_); refine box_event ?hg (N := 1) ?hd (cs := #[.int .i64 a0_0, .int .i64 a0_1, .int .i64 a0_2, .int .i64 a0_3, .int .i64 a0_4, .int .i64 a0_5, .int .i64 a0_6, .int .i64 a0_7, .int .i64 a0_8, .slice A0_9 l0_9.length c0_9]) (t := 60) ?hr ?_; (case hd => rfl); (case hg => rfl); (case hr => first | (go_simp; done) | (go_simp; rfl)); intro gb731 hg w3 hbox hb; have n0_ := Aside0.mk (below_step (by repeat (first | (with_reducible first | exact HB.out | apply below_alloc | apply pw_below_drewN | apply below_drew1) | exact HB.out)) hb); have n1_ := Aside0.mk (hbox); have n2_ := Aside0.mk ((by rw [hg]; exact (below_size (by repeat (first | (with_reducible first | exact HB.out | apply below_alloc | apply pw_below_drewN | apply below_drew1) | exact HB.out))) : w.heap.size ≤ gb731)); have n3_ := Aside0.mk ((by rw [hg]; exact (below_size (by repeat (first | (with_reducible first | exact HB.out | apply below_alloc | apply pw_below_drewN | apply below_drew1) | exact HB.out))) : w.heap.size ≤ gb731)); clear HB; have HB := n0_; have BK731 := n1_; have GW731 := n2_; have GE731 := n3_; clear n0_ n1_ n2_ n3_; clear hb hbox hg))
  (try simp only [Act.put, List.setIfInBounds_toArray, List.set_cons_zero, List.set_cons_succ])
  go_cut [3] (fun v3 wc => ∃ (kq : Nat) (x3_1 : Bool), v3 = .bool x3_1 ∧ Aside0 (pick_Check.j0 kq x3_1 a0_0 a0_1 a0_2 a0_3 a0_4 a0_5 a0_6 a0_7 a0_8 l0_9 = some r) ∧ Aside0 (kq ≤ k) ∧ Aside0 (wc.heap[gb731]? = some (.cells #[.int .i64 a0_0, .int .i64 a0_1, .int .i64 a0_2, .int .i64 a0_3, .int .i64 a0_4, .int .i64 a0_5, .int .i64 a0_6, .int .i64 a0_7, .int .i64 a0_8, (.slice A0_9 l0_9.length c0_9)] 60 (0, 0))) ∧ Aside0 (Below w.heap.size w wc))
  case first =>
    have H := HC2.out
    clear HC2
    replace H := Option.bind_eq_some_iff.mp H
    obtain ⟨t732, A40, H⟩ := H
    replace H : (if t732 = true then ((pick_between_int.f a0_1 0 3).bind fun t733 => (if t733 = true then ((pick_between_int.f a0_2 0 15).bind fun t734 => (if t734 = true then ((pick_between_int.f a0_3 0 1099511627776).bind fun t735 => (if t735 = true then (pick_Check.j0 k (decide (a0_4 ≥ 1)) a0_0 a0_1 a0_2 a0_3 a0_4 a0_5 a0_6 a0_7 a0_8 l0_9) else (pick_Check.j0 k false a0_0 a0_1 a0_2 a0_3 a0_4 a0_5 a0_6 a0_7 a0_8 l0_9))) else (pick_Check.j0 k false a0_0 a0_1 a0_2 a0_3 a0_4 a0_5 a0_6 a0_7 a0_8 l0_9))) else (pick_Check.j0 k false a0_0 a0_1 a0_2 a0_3 a0_4 a0_5 a0_6 a0_7 a0_8 l0_9))) else (pick_Check.j0 k false a0_0 a0_1 a0_2 a0_3 a0_4 a0_5 a0_6 a0_7 a0_8 l0_9)) = some r := H
    have A4 := Aside0.mk A40
    clear A40
    by_cases c5 : t732 = true
    · subst c5
      have H1 : ((pick_between_int.f a0_1 0 3).bind fun t733 => (if t733 = true then ((pick_between_int.f a0_2 0 15).bind fun t734 => (if t734 = true then ((pick_between_int.f a0_3 0 1099511627776).bind fun t735 => (if t735 = true then (pick_Check.j0 k (decide (a0_4 ≥ 1)) a0_0 a0_1 a0_2 a0_3 a0_4 a0_5 a0_6 a0_7 a0_8 l0_9) else (pick_Check.j0 k false a0_0 a0_1 a0_2 a0_3 a0_4 a0_5 a0_6 a0_7 a0_8 l0_9))) else (pick_Check.j0 k false a0_0 a0_1 a0_2 a0_3 a0_4 a0_5 a0_6 a0_7 a0_8 l0_9))) else (pick_Check.j0 k false a0_0 a0_1 a0_2 a0_3 a0_4 a0_5 a0_6 a0_7 a0_8 l0_9))) = some r := by rw [if_pos rfl] at H; exact H
      clear H
      have H := H1
      clear H1
      replace H := Option.bind_eq_some_iff.mp H
      obtain ⟨t733, A60, H⟩ := H
      replace H : (if t733 = true then ((pick_between_int.f a0_2 0 15).bind fun t734 => (if t734 = true then ((pick_between_int.f a0_3 0 1099511627776).bind fun t735 => (if t735 = true then (pick_Check.j0 k (decide (a0_4 ≥ 1)) a0_0 a0_1 a0_2 a0_3 a0_4 a0_5 a0_6 a0_7 a0_8 l0_9) else (pick_Check.j0 k false a0_0 a0_1 a0_2 a0_3 a0_4 a0_5 a0_6 a0_7 a0_8 l0_9))) else (pick_Check.j0 k false a0_0 a0_1 a0_2 a0_3 a0_4 a0_5 a0_6 a0_7 a0_8 l0_9))) else (pick_Check.j0 k false a0_0 a0_1 a0_2 a0_3 a0_4 a0_5 a0_6 a0_7 a0_8 l0_9)) = some r := H
      have A6 := Aside0.mk A60
      clear A60
      by_cases c7 : t733 = true
      · subst c7
        have H1 : ((pick_between_int.f a0_2 0 15).bind fun t734 => (if t734 = true then ((pick_between_int.f a0_3 0 1099511627776).bind fun t735 => (if t735 = true then (pick_Check.j0 k (decide (a0_4 ≥ 1)) a0_0 a0_1 a0_2 a0_3 a0_4 a0_5 a0_6 a0_7 a0_8 l0_9) else (pick_Check.j0 k false a0_0 a0_1 a0_2 a0_3 a0_4 a0_5 a0_6 a0_7 a0_8 l0_9))) else (pick_Check.j0 k false a0_0 a0_1 a0_2 a0_3 a0_4 a0_5 a0_6 a0_7 a0_8 l0_9))) = some r := by rw [if_pos rfl] at H; exact H
        clear H
        have H := H1
        clear H1
        replace H := Option.bind_eq_some_iff.mp H
        obtain ⟨t734, A80, H⟩ := H
        replace H : (if t734 = true then ((pick_between_int.f a0_3 0 1099511627776).bind fun t735 => (if t735 = true then (pick_Check.j0 k (decide (a0_4 ≥ 1)) a0_0 a0_1 a0_2 a0_3 a0_4 a0_5 a0_6 a0_7 a0_8 l0_9) else (pick_Check.j0 k false a0_0 a0_1 a0_2 a0_3 a0_4 a0_5 a0_6 a0_7 a0_8 l0_9))) else (pick_Check.j0 k false a0_0 a0_1 a0_2 a0_3 a0_4 a0_5 a0_6 a0_7 a0_8 l0_9)) = some r := H
        have A8 := Aside0.mk A80
        clear A80
        by_cases c9 : t734 = true
        · subst c9
          have H1 : ((pick_between_int.f a0_3 0 1099511627776).bind fun t735 => (if t735 = true then (pick_Check.j0 k (decide (a0_4 ≥ 1)) a0_0 a0_1 a0_2 a0_3 a0_4 a0_5 a0_6 a0_7 a0_8 l0_9) else (pick_Check.j0 k false a0_0 a0_1 a0_2 a0_3 a0_4 a0_5 a0_6 a0_7 a0_8 l0_9))) = some r := by rw [if_pos rfl] at H; exact H
          clear H
          have H := H1
          clear H1
          replace H := Option.bind_eq_some_iff.mp H
          obtain ⟨t735, A100, H⟩ := H
          replace H : (if t735 = true then (pick_Check.j0 k (decide (a0_4 ≥ 1)) a0_0 a0_1 a0_2 a0_3 a0_4 a0_5 a0_6 a0_7 a0_8 l0_9) else (pick_Check.j0 k false a0_0 a0_1 a0_2 a0_3 a0_4 a0_5 a0_6 a0_7 a0_8 l0_9)) = some r := H
          have A10 := Aside0.mk A100
          clear A100
          by_cases c11 : t735 = true
          · subst c11
            have H1 : (pick_Check.j0 k (decide (a0_4 ≥ 1)) a0_0 a0_1 a0_2 a0_3 a0_4 a0_5 a0_6 a0_7 a0_8 l0_9) = some r := by rw [if_pos rfl] at H; exact H
            clear H
            have H := H1
            clear H1
            have H' := Aside0.mk H
            clear H
            have hcz12_0 : w3.cell? ⟨gb731, 0, none⟩ = some (.int .i64 a0_0) := (blk_cell BK731.out 0).trans rfl
            have hcz12_1 : w3.cell? ⟨gb731, 1, none⟩ = some (.int .i64 a0_1) := (blk_cell BK731.out 1).trans rfl
            have hcz12_2 : w3.cell? ⟨gb731, 2, none⟩ = some (.int .i64 a0_2) := (blk_cell BK731.out 2).trans rfl
            have hcz12_3 : w3.cell? ⟨gb731, 3, none⟩ = some (.int .i64 a0_3) := (blk_cell BK731.out 3).trans rfl
            have hcz12_4 : w3.cell? ⟨gb731, 4, none⟩ = some (.int .i64 a0_4) := (blk_cell BK731.out 4).trans rfl
            have hcz12_5 : w3.cell? ⟨gb731, 5, none⟩ = some (.int .i64 a0_5) := (blk_cell BK731.out 5).trans rfl
            have hcz12_6 : w3.cell? ⟨gb731, 6, none⟩ = some (.int .i64 a0_6) := (blk_cell BK731.out 6).trans rfl
            have hcz12_7 : w3.cell? ⟨gb731, 7, none⟩ = some (.int .i64 a0_7) := (blk_cell BK731.out 7).trans rfl
            have hcz12_8 : w3.cell? ⟨gb731, 8, none⟩ = some (.int .i64 a0_8) := (blk_cell BK731.out 8).trans rfl
            have hcz12_9 : w3.cell? ⟨gb731, 9, none⟩ = some (.slice A0_9 l0_9.length c0_9) := (blk_cell BK731.out 9).trans rfl
            have hfz12_0 := blk_frozen BK731.out 0
            have hfz12_1 := blk_frozen BK731.out 1
            have hfz12_2 := blk_frozen BK731.out 2
            have hfz12_3 := blk_frozen BK731.out 3
            have hfz12_4 := blk_frozen BK731.out 4
            have hfz12_5 := blk_frozen BK731.out 5
            have hfz12_6 := blk_frozen BK731.out 6
            have hfz12_7 := blk_frozen BK731.out 7
            have hfz12_8 := blk_frozen BK731.out 8
            have hfz12_9 := blk_frozen BK731.out 9
            go_wp2_with (first | ((with_reducible refine gate_callee (f := 147) rfl ?_); refine goesL_ (some 6) rfl rfl Try.func147 (by kernel_rfl) rfl #[.int .i64 a0_0, .int .i64 1, .int .i64 8] rfl (by (try simp only [List.map_toArray, List.map_cons, List.map_nil]); first | done | rfl | (simp only [List.length_drop, List.length_take]; rfl)) ?_; (with_reducible refine (pick_between_int.calls a0_0 1 8 true _ A4.out).mono ?_); rintro e w' ⟨rfl, ⟨nd, rfl⟩⟩; refine ⟨_, rfl, ?_⟩) | ((with_reducible refine gate_callee (f := 147) rfl ?_); (with_reducible refine gate_dst (N := 10) rfl ?_); refine gate_guard (by rfl) ?_; dsimp only; refine goesL_ (some 10) rfl rfl Try.func147 (by kernel_rfl) rfl #[.int .i64 a0_1, .int .i64 0, .int .i64 3] rfl (by (try simp only [List.map_toArray, List.map_cons, List.map_nil]); first | done | rfl | (simp only [List.length_drop, List.length_take]; rfl)) ?_; (with_reducible refine (pick_between_int.calls a0_1 0 3 true _ A6.out).mono ?_); rintro e w' ⟨rfl, ⟨nd, rfl⟩⟩; refine ⟨_, rfl, ?_⟩) | ((with_reducible refine gate_callee (f := 147) rfl ?_); (with_reducible refine gate_dst (N := 15) rfl ?_); refine gate_guard (by rfl) ?_; dsimp only; refine goesL_ (some 15) rfl rfl Try.func147 (by kernel_rfl) rfl #[.int .i64 a0_2, .int .i64 0, .int .i64 15] rfl (by (try simp only [List.map_toArray, List.map_cons, List.map_nil]); first | done | rfl | (simp only [List.length_drop, List.length_take]; rfl)) ?_; (with_reducible refine (pick_between_int.calls a0_2 0 15 true _ A8.out).mono ?_); rintro e w' ⟨rfl, ⟨nd, rfl⟩⟩; refine ⟨_, rfl, ?_⟩) | ((with_reducible refine gate_callee (f := 147) rfl ?_); (with_reducible refine gate_dst (N := 20) rfl ?_); refine gate_guard (by rfl) ?_; dsimp only; refine goesL_ (some 20) rfl rfl Try.func147 (by kernel_rfl) rfl #[.int .i64 a0_3, .int .i64 0, .int .i64 1099511627776] rfl (by (try simp only [List.map_toArray, List.map_cons, List.map_nil]); first | done | rfl | (simp only [List.length_drop, List.length_take]; rfl)) ?_; (with_reducible refine (pick_between_int.calls a0_3 0 1099511627776 true _ A10.out).mono ?_); rintro e w' ⟨rfl, ⟨nd, rfl⟩⟩; refine ⟨_, rfl, ?_⟩))
            go_meet
            case rel => exact ⟨_, (decide (a0_4 ≥ 1)), (by first | rfl | (simp; done) | (simp [*]; done)), H', ⟨by first | omega | exact Nat.le_refl _⟩, ⟨by (with_reducible repeat (first | refine blk_drewN ?_ _ | refine blk_drew ?_ | refine blk_alloc ?_ _)); exact BK731.out⟩, ⟨by repeat (first | (with_reducible first | exact HB.out | apply below_alloc | apply pw_below_drewN | apply below_drew1 | refine below_set ?_ GE731.out) | exact HB.out)⟩⟩
          · replace c11 := Bool.eq_false_iff.mpr c11
            subst c11
            have H1 : (pick_Check.j0 k false a0_0 a0_1 a0_2 a0_3 a0_4 a0_5 a0_6 a0_7 a0_8 l0_9) = some r := by rw [if_neg (show ¬ (false = true) by decide)] at H; exact H
            clear H
            have H := H1
            clear H1
            have H' := Aside0.mk H
            clear H
            have hcz13_0 : w3.cell? ⟨gb731, 0, none⟩ = some (.int .i64 a0_0) := (blk_cell BK731.out 0).trans rfl
            have hcz13_1 : w3.cell? ⟨gb731, 1, none⟩ = some (.int .i64 a0_1) := (blk_cell BK731.out 1).trans rfl
            have hcz13_2 : w3.cell? ⟨gb731, 2, none⟩ = some (.int .i64 a0_2) := (blk_cell BK731.out 2).trans rfl
            have hcz13_3 : w3.cell? ⟨gb731, 3, none⟩ = some (.int .i64 a0_3) := (blk_cell BK731.out 3).trans rfl
            have hcz13_4 : w3.cell? ⟨gb731, 4, none⟩ = some (.int .i64 a0_4) := (blk_cell BK731.out 4).trans rfl
            have hcz13_5 : w3.cell? ⟨gb731, 5, none⟩ = some (.int .i64 a0_5) := (blk_cell BK731.out 5).trans rfl
            have hcz13_6 : w3.cell? ⟨gb731, 6, none⟩ = some (.int .i64 a0_6) := (blk_cell BK731.out 6).trans rfl
            have hcz13_7 : w3.cell? ⟨gb731, 7, none⟩ = some (.int .i64 a0_7) := (blk_cell BK731.out 7).trans rfl
            have hcz13_8 : w3.cell? ⟨gb731, 8, none⟩ = some (.int .i64 a0_8) := (blk_cell BK731.out 8).trans rfl
            have hcz13_9 : w3.cell? ⟨gb731, 9, none⟩ = some (.slice A0_9 l0_9.length c0_9) := (blk_cell BK731.out 9).trans rfl
            have hfz13_0 := blk_frozen BK731.out 0
            have hfz13_1 := blk_frozen BK731.out 1
            have hfz13_2 := blk_frozen BK731.out 2
            have hfz13_3 := blk_frozen BK731.out 3
            have hfz13_4 := blk_frozen BK731.out 4
            have hfz13_5 := blk_frozen BK731.out 5
            have hfz13_6 := blk_frozen BK731.out 6
            have hfz13_7 := blk_frozen BK731.out 7
            have hfz13_8 := blk_frozen BK731.out 8
            have hfz13_9 := blk_frozen BK731.out 9
            go_wp2_with (first | ((with_reducible refine gate_callee (f := 147) rfl ?_); refine goesL_ (some 6) rfl rfl Try.func147 (by kernel_rfl) rfl #[.int .i64 a0_0, .int .i64 1, .int .i64 8] rfl (by (try simp only [List.map_toArray, List.map_cons, List.map_nil]); first | done | rfl | (simp only [List.length_drop, List.length_take]; rfl)) ?_; (with_reducible refine (pick_between_int.calls a0_0 1 8 true _ A4.out).mono ?_); rintro e w' ⟨rfl, ⟨nd, rfl⟩⟩; refine ⟨_, rfl, ?_⟩) | ((with_reducible refine gate_callee (f := 147) rfl ?_); (with_reducible refine gate_dst (N := 10) rfl ?_); refine gate_guard (by rfl) ?_; dsimp only; refine goesL_ (some 10) rfl rfl Try.func147 (by kernel_rfl) rfl #[.int .i64 a0_1, .int .i64 0, .int .i64 3] rfl (by (try simp only [List.map_toArray, List.map_cons, List.map_nil]); first | done | rfl | (simp only [List.length_drop, List.length_take]; rfl)) ?_; (with_reducible refine (pick_between_int.calls a0_1 0 3 true _ A6.out).mono ?_); rintro e w' ⟨rfl, ⟨nd, rfl⟩⟩; refine ⟨_, rfl, ?_⟩) | ((with_reducible refine gate_callee (f := 147) rfl ?_); (with_reducible refine gate_dst (N := 15) rfl ?_); refine gate_guard (by rfl) ?_; dsimp only; refine goesL_ (some 15) rfl rfl Try.func147 (by kernel_rfl) rfl #[.int .i64 a0_2, .int .i64 0, .int .i64 15] rfl (by (try simp only [List.map_toArray, List.map_cons, List.map_nil]); first | done | rfl | (simp only [List.length_drop, List.length_take]; rfl)) ?_; (with_reducible refine (pick_between_int.calls a0_2 0 15 true _ A8.out).mono ?_); rintro e w' ⟨rfl, ⟨nd, rfl⟩⟩; refine ⟨_, rfl, ?_⟩) | ((with_reducible refine gate_callee (f := 147) rfl ?_); (with_reducible refine gate_dst (N := 20) rfl ?_); refine gate_guard (by rfl) ?_; dsimp only; refine goesL_ (some 20) rfl rfl Try.func147 (by kernel_rfl) rfl #[.int .i64 a0_3, .int .i64 0, .int .i64 1099511627776] rfl (by (try simp only [List.map_toArray, List.map_cons, List.map_nil]); first | done | rfl | (simp only [List.length_drop, List.length_take]; rfl)) ?_; (with_reducible refine (pick_between_int.calls a0_3 0 1099511627776 false _ A10.out).mono ?_); rintro e w' ⟨rfl, ⟨nd, rfl⟩⟩; refine ⟨_, rfl, ?_⟩))
            go_meet
            case rel => exact ⟨_, (false), (by first | rfl | (simp; done) | (simp [*]; done)), H', ⟨by first | omega | exact Nat.le_refl _⟩, ⟨by (with_reducible repeat (first | refine blk_drewN ?_ _ | refine blk_drew ?_ | refine blk_alloc ?_ _)); exact BK731.out⟩, ⟨by repeat (first | (with_reducible first | exact HB.out | apply below_alloc | apply pw_below_drewN | apply below_drew1 | refine below_set ?_ GE731.out) | exact HB.out)⟩⟩
        · replace c9 := Bool.eq_false_iff.mpr c9
          subst c9
          have H1 : (pick_Check.j0 k false a0_0 a0_1 a0_2 a0_3 a0_4 a0_5 a0_6 a0_7 a0_8 l0_9) = some r := by rw [if_neg (show ¬ (false = true) by decide)] at H; exact H
          clear H
          have H := H1
          clear H1
          have H' := Aside0.mk H
          clear H
          have hcz14_0 : w3.cell? ⟨gb731, 0, none⟩ = some (.int .i64 a0_0) := (blk_cell BK731.out 0).trans rfl
          have hcz14_1 : w3.cell? ⟨gb731, 1, none⟩ = some (.int .i64 a0_1) := (blk_cell BK731.out 1).trans rfl
          have hcz14_2 : w3.cell? ⟨gb731, 2, none⟩ = some (.int .i64 a0_2) := (blk_cell BK731.out 2).trans rfl
          have hcz14_3 : w3.cell? ⟨gb731, 3, none⟩ = some (.int .i64 a0_3) := (blk_cell BK731.out 3).trans rfl
          have hcz14_4 : w3.cell? ⟨gb731, 4, none⟩ = some (.int .i64 a0_4) := (blk_cell BK731.out 4).trans rfl
          have hcz14_5 : w3.cell? ⟨gb731, 5, none⟩ = some (.int .i64 a0_5) := (blk_cell BK731.out 5).trans rfl
          have hcz14_6 : w3.cell? ⟨gb731, 6, none⟩ = some (.int .i64 a0_6) := (blk_cell BK731.out 6).trans rfl
          have hcz14_7 : w3.cell? ⟨gb731, 7, none⟩ = some (.int .i64 a0_7) := (blk_cell BK731.out 7).trans rfl
          have hcz14_8 : w3.cell? ⟨gb731, 8, none⟩ = some (.int .i64 a0_8) := (blk_cell BK731.out 8).trans rfl
          have hcz14_9 : w3.cell? ⟨gb731, 9, none⟩ = some (.slice A0_9 l0_9.length c0_9) := (blk_cell BK731.out 9).trans rfl
          have hfz14_0 := blk_frozen BK731.out 0
          have hfz14_1 := blk_frozen BK731.out 1
          have hfz14_2 := blk_frozen BK731.out 2
          have hfz14_3 := blk_frozen BK731.out 3
          have hfz14_4 := blk_frozen BK731.out 4
          have hfz14_5 := blk_frozen BK731.out 5
          have hfz14_6 := blk_frozen BK731.out 6
          have hfz14_7 := blk_frozen BK731.out 7
          have hfz14_8 := blk_frozen BK731.out 8
          have hfz14_9 := blk_frozen BK731.out 9
          go_wp2_with (first | ((with_reducible refine gate_callee (f := 147) rfl ?_); refine goesL_ (some 6) rfl rfl Try.func147 (by kernel_rfl) rfl #[.int .i64 a0_0, .int .i64 1, .int .i64 8] rfl (by (try simp only [List.map_toArray, List.map_cons, List.map_nil]); first | done | rfl | (simp only [List.length_drop, List.length_take]; rfl)) ?_; (with_reducible refine (pick_between_int.calls a0_0 1 8 true _ A4.out).mono ?_); rintro e w' ⟨rfl, ⟨nd, rfl⟩⟩; refine ⟨_, rfl, ?_⟩) | ((with_reducible refine gate_callee (f := 147) rfl ?_); (with_reducible refine gate_dst (N := 10) rfl ?_); refine gate_guard (by rfl) ?_; dsimp only; refine goesL_ (some 10) rfl rfl Try.func147 (by kernel_rfl) rfl #[.int .i64 a0_1, .int .i64 0, .int .i64 3] rfl (by (try simp only [List.map_toArray, List.map_cons, List.map_nil]); first | done | rfl | (simp only [List.length_drop, List.length_take]; rfl)) ?_; (with_reducible refine (pick_between_int.calls a0_1 0 3 true _ A6.out).mono ?_); rintro e w' ⟨rfl, ⟨nd, rfl⟩⟩; refine ⟨_, rfl, ?_⟩) | ((with_reducible refine gate_callee (f := 147) rfl ?_); (with_reducible refine gate_dst (N := 15) rfl ?_); refine gate_guard (by rfl) ?_; dsimp only; refine goesL_ (some 15) rfl rfl Try.func147 (by kernel_rfl) rfl #[.int .i64 a0_2, .int .i64 0, .int .i64 15] rfl (by (try simp only [List.map_toArray, List.map_cons, List.map_nil]); first | done | rfl | (simp only [List.length_drop, List.length_take]; rfl)) ?_; (with_reducible refine (pick_between_int.calls a0_2 0 15 false _ A8.out).mono ?_); rintro e w' ⟨rfl, ⟨nd, rfl⟩⟩; refine ⟨_, rfl, ?_⟩))
          go_meet
          case rel => exact ⟨_, (false), (by first | rfl | (simp; done) | (simp [*]; done)), H', ⟨by first | omega | exact Nat.le_refl _⟩, ⟨by (with_reducible repeat (first | refine blk_drewN ?_ _ | refine blk_drew ?_ | refine blk_alloc ?_ _)); exact BK731.out⟩, ⟨by repeat (first | (with_reducible first | exact HB.out | apply below_alloc | apply pw_below_drewN | apply below_drew1 | refine below_set ?_ GE731.out) | exact HB.out)⟩⟩
      · replace c7 := Bool.eq_false_iff.mpr c7
        subst c7
        have H1 : (pick_Check.j0 k false a0_0 a0_1 a0_2 a0_3 a0_4 a0_5 a0_6 a0_7 a0_8 l0_9) = some r := by rw [if_neg (show ¬ (false = true) by decide)] at H; exact H
        clear H
        have H := H1
        clear H1
        have H' := Aside0.mk H
        clear H
        have hcz15_0 : w3.cell? ⟨gb731, 0, none⟩ = some (.int .i64 a0_0) := (blk_cell BK731.out 0).trans rfl
        have hcz15_1 : w3.cell? ⟨gb731, 1, none⟩ = some (.int .i64 a0_1) := (blk_cell BK731.out 1).trans rfl
        have hcz15_2 : w3.cell? ⟨gb731, 2, none⟩ = some (.int .i64 a0_2) := (blk_cell BK731.out 2).trans rfl
        have hcz15_3 : w3.cell? ⟨gb731, 3, none⟩ = some (.int .i64 a0_3) := (blk_cell BK731.out 3).trans rfl
        have hcz15_4 : w3.cell? ⟨gb731, 4, none⟩ = some (.int .i64 a0_4) := (blk_cell BK731.out 4).trans rfl
        have hcz15_5 : w3.cell? ⟨gb731, 5, none⟩ = some (.int .i64 a0_5) := (blk_cell BK731.out 5).trans rfl
        have hcz15_6 : w3.cell? ⟨gb731, 6, none⟩ = some (.int .i64 a0_6) := (blk_cell BK731.out 6).trans rfl
        have hcz15_7 : w3.cell? ⟨gb731, 7, none⟩ = some (.int .i64 a0_7) := (blk_cell BK731.out 7).trans rfl
        have hcz15_8 : w3.cell? ⟨gb731, 8, none⟩ = some (.int .i64 a0_8) := (blk_cell BK731.out 8).trans rfl
        have hcz15_9 : w3.cell? ⟨gb731, 9, none⟩ = some (.slice A0_9 l0_9.length c0_9) := (blk_cell BK731.out 9).trans rfl
        have hfz15_0 := blk_frozen BK731.out 0
        have hfz15_1 := blk_frozen BK731.out 1
        have hfz15_2 := blk_frozen BK731.out 2
        have hfz15_3 := blk_frozen BK731.out 3
        have hfz15_4 := blk_frozen BK731.out 4
        have hfz15_5 := blk_frozen BK731.out 5
        have hfz15_6 := blk_frozen BK731.out 6
        have hfz15_7 := blk_frozen BK731.out 7
        have hfz15_8 := blk_frozen BK731.out 8
        have hfz15_9 := blk_frozen BK731.out 9
        go_wp2_with (first | ((with_reducible refine gate_callee (f := 147) rfl ?_); refine goesL_ (some 6) rfl rfl Try.func147 (by kernel_rfl) rfl #[.int .i64 a0_0, .int .i64 1, .int .i64 8] rfl (by (try simp only [List.map_toArray, List.map_cons, List.map_nil]); first | done | rfl | (simp only [List.length_drop, List.length_take]; rfl)) ?_; (with_reducible refine (pick_between_int.calls a0_0 1 8 true _ A4.out).mono ?_); rintro e w' ⟨rfl, ⟨nd, rfl⟩⟩; refine ⟨_, rfl, ?_⟩) | ((with_reducible refine gate_callee (f := 147) rfl ?_); (with_reducible refine gate_dst (N := 10) rfl ?_); refine gate_guard (by rfl) ?_; dsimp only; refine goesL_ (some 10) rfl rfl Try.func147 (by kernel_rfl) rfl #[.int .i64 a0_1, .int .i64 0, .int .i64 3] rfl (by (try simp only [List.map_toArray, List.map_cons, List.map_nil]); first | done | rfl | (simp only [List.length_drop, List.length_take]; rfl)) ?_; (with_reducible refine (pick_between_int.calls a0_1 0 3 false _ A6.out).mono ?_); rintro e w' ⟨rfl, ⟨nd, rfl⟩⟩; refine ⟨_, rfl, ?_⟩))
        go_meet
        case rel => exact ⟨_, (false), (by first | rfl | (simp; done) | (simp [*]; done)), H', ⟨by first | omega | exact Nat.le_refl _⟩, ⟨by (with_reducible repeat (first | refine blk_drewN ?_ _ | refine blk_drew ?_ | refine blk_alloc ?_ _)); exact BK731.out⟩, ⟨by repeat (first | (with_reducible first | exact HB.out | apply below_alloc | apply pw_below_drewN | apply below_drew1 | refine below_set ?_ GE731.out) | exact HB.out)⟩⟩
    · replace c5 := Bool.eq_false_iff.mpr c5
      subst c5
      have H1 : (pick_Check.j0 k false a0_0 a0_1 a0_2 a0_3 a0_4 a0_5 a0_6 a0_7 a0_8 l0_9) = some r := by rw [if_neg (show ¬ (false = true) by decide)] at H; exact H
      clear H
      have H := H1
      clear H1
      have H' := Aside0.mk H
      clear H
      have hcz16_0 : w3.cell? ⟨gb731, 0, none⟩ = some (.int .i64 a0_0) := (blk_cell BK731.out 0).trans rfl
      have hcz16_1 : w3.cell? ⟨gb731, 1, none⟩ = some (.int .i64 a0_1) := (blk_cell BK731.out 1).trans rfl
      have hcz16_2 : w3.cell? ⟨gb731, 2, none⟩ = some (.int .i64 a0_2) := (blk_cell BK731.out 2).trans rfl
      have hcz16_3 : w3.cell? ⟨gb731, 3, none⟩ = some (.int .i64 a0_3) := (blk_cell BK731.out 3).trans rfl
      have hcz16_4 : w3.cell? ⟨gb731, 4, none⟩ = some (.int .i64 a0_4) := (blk_cell BK731.out 4).trans rfl
      have hcz16_5 : w3.cell? ⟨gb731, 5, none⟩ = some (.int .i64 a0_5) := (blk_cell BK731.out 5).trans rfl
      have hcz16_6 : w3.cell? ⟨gb731, 6, none⟩ = some (.int .i64 a0_6) := (blk_cell BK731.out 6).trans rfl
      have hcz16_7 : w3.cell? ⟨gb731, 7, none⟩ = some (.int .i64 a0_7) := (blk_cell BK731.out 7).trans rfl
      have hcz16_8 : w3.cell? ⟨gb731, 8, none⟩ = some (.int .i64 a0_8) := (blk_cell BK731.out 8).trans rfl
      have hcz16_9 : w3.cell? ⟨gb731, 9, none⟩ = some (.slice A0_9 l0_9.length c0_9) := (blk_cell BK731.out 9).trans rfl
      have hfz16_0 := blk_frozen BK731.out 0
      have hfz16_1 := blk_frozen BK731.out 1
      have hfz16_2 := blk_frozen BK731.out 2
      have hfz16_3 := blk_frozen BK731.out 3
      have hfz16_4 := blk_frozen BK731.out 4
      have hfz16_5 := blk_frozen BK731.out 5
      have hfz16_6 := blk_frozen BK731.out 6
      have hfz16_7 := blk_frozen BK731.out 7
      have hfz16_8 := blk_frozen BK731.out 8
      have hfz16_9 := blk_frozen BK731.out 9
      go_wp2_with (first | ((with_reducible refine gate_callee (f := 147) rfl ?_); refine goesL_ (some 6) rfl rfl Try.func147 (by kernel_rfl) rfl #[.int .i64 a0_0, .int .i64 1, .int .i64 8] rfl (by (try simp only [List.map_toArray, List.map_cons, List.map_nil]); first | done | rfl | (simp only [List.length_drop, List.length_take]; rfl)) ?_; (with_reducible refine (pick_between_int.calls a0_0 1 8 false _ A4.out).mono ?_); rintro e w' ⟨rfl, ⟨nd, rfl⟩⟩; refine ⟨_, rfl, ?_⟩))
      go_meet
      case rel => exact ⟨_, (false), (by first | rfl | (simp; done) | (simp [*]; done)), H', ⟨by first | omega | exact Nat.le_refl _⟩, ⟨by (with_reducible repeat (first | refine blk_drewN ?_ _ | refine blk_drew ?_ | refine blk_alloc ?_ _)); exact BK731.out⟩, ⟨by repeat (first | (with_reducible first | exact HB.out | apply below_alloc | apply pw_below_drewN | apply below_drew1 | refine below_set ?_ GE731.out) | exact HB.out)⟩⟩
  case rest =>
    clear HC2
    try clear c1
    try clear p2
    try clear c5
    try clear c6
    try clear c7
    try clear c9
    try clear c11
    try clear c14
    try clear hcz12_0
    try clear hcz12_1
    try clear hcz12_2
    try clear hcz12_3
    try clear hcz12_4
    try clear hcz12_5
    try clear hcz12_6
    try clear hcz12_7
    try clear hcz12_8
    try clear hcz12_9
    try clear hcz13_0
    try clear hcz13_1
    try clear hcz13_2
    try clear hcz13_3
    try clear hcz13_4
    try clear hcz13_5
    try clear hcz13_6
    try clear hcz13_7
    try clear hcz13_8
    try clear hcz13_9
    try clear hcz14_0
    try clear hcz14_1
    try clear hcz14_2
    try clear hcz14_3
    try clear hcz14_4
    try clear hcz14_5
    try clear hcz14_6
    try clear hcz14_7
    try clear hcz14_8
    try clear hcz14_9
    try clear hcz15_0
    try clear hcz15_1
    try clear hcz15_2
    try clear hcz15_3
    try clear hcz15_4
    try clear hcz15_5
    try clear hcz15_6
    try clear hcz15_7
    try clear hcz15_8
    try clear hcz15_9
    try clear hcz16_0
    try clear hcz16_1
    try clear hcz16_2
    try clear hcz16_3
    try clear hcz16_4
    try clear hcz16_5
    try clear hcz16_6
    try clear hcz16_7
    try clear hcz16_8
    try clear hcz16_9
    try clear hfz12_0
    try clear hfz12_1
    try clear hfz12_2
    try clear hfz12_3
    try clear hfz12_4
    try clear hfz12_5
    try clear hfz12_6
    try clear hfz12_7
    try clear hfz12_8
    try clear hfz12_9
    try clear hfz13_0
    try clear hfz13_1
    try clear hfz13_2
    try clear hfz13_3
    try clear hfz13_4
    try clear hfz13_5
    try clear hfz13_6
    try clear hfz13_7
    try clear hfz13_8
    try clear hfz13_9
    try clear hfz14_0
    try clear hfz14_1
    try clear hfz14_2
    try clear hfz14_3
    try clear hfz14_4
    try clear hfz14_5
    try clear hfz14_6
    try clear hfz14_7
    try clear hfz14_8
    try clear hfz14_9
    try clear hfz15_0
    try clear hfz15_1
    try clear hfz15_2
    try clear hfz15_3
    try clear hfz15_4
    try clear hfz15_5
    try clear hfz15_6
    try clear hfz15_7
    try clear hfz15_8
    try clear hfz15_9
    try clear hfz16_0
    try clear hfz16_1
    try clear hfz16_2
    try clear hfz16_3
    try clear hfz16_4
    try clear hfz16_5
    try clear hfz16_6
    try clear hfz16_7
    try clear hfz16_8
    try clear hfz16_9
    obtain ⟨kq, x3_1, rfl, HA, HJ1, BK731, HB⟩ := hcut
    cases kq with
    | zero => exact absurd HA.out (by simp [pick_Check.j0])
    | succ kj1 =>
      have H := HA.out
      clear HA
      simp only [pick_Check.j0] at H
      by_cases c17 : x3_1 = true
      · subst c17
        have H1 : ((pick_between_int.f a0_5 0 10000).bind fun t736 => (if t736 = true then ((pick_between_int.f a0_6 1 10000).bind fun t737 => (if t737 = true then ((pick_between_int.f a0_7 0 63).bind fun t738 => (if t738 = true then ((pick_between_int.f a0_8 0 63).bind fun t739 => (if t739 = true then ((pick_checkTaken.f kj1 l0_9).bind fun t740 => (some t740)) else (some 2))) else (some 2))) else (some 2))) else (some 2))) = some r := by rw [if_pos rfl] at H; exact H
        clear H
        have H := H1
        clear H1
        replace H := Option.bind_eq_some_iff.mp H
        obtain ⟨t736, A180, H⟩ := H
        replace H : (if t736 = true then ((pick_between_int.f a0_6 1 10000).bind fun t737 => (if t737 = true then ((pick_between_int.f a0_7 0 63).bind fun t738 => (if t738 = true then ((pick_between_int.f a0_8 0 63).bind fun t739 => (if t739 = true then ((pick_checkTaken.f kj1 l0_9).bind fun t740 => (some t740)) else (some 2))) else (some 2))) else (some 2))) else (some 2)) = some r := H
        have A18 := Aside0.mk A180
        clear A180
        by_cases c19 : t736 = true
        · subst c19
          have H1 : ((pick_between_int.f a0_6 1 10000).bind fun t737 => (if t737 = true then ((pick_between_int.f a0_7 0 63).bind fun t738 => (if t738 = true then ((pick_between_int.f a0_8 0 63).bind fun t739 => (if t739 = true then ((pick_checkTaken.f kj1 l0_9).bind fun t740 => (some t740)) else (some 2))) else (some 2))) else (some 2))) = some r := by rw [if_pos rfl] at H; exact H
          clear H
          have H := H1
          clear H1
          replace H := Option.bind_eq_some_iff.mp H
          obtain ⟨t737, A200, H⟩ := H
          replace H : (if t737 = true then ((pick_between_int.f a0_7 0 63).bind fun t738 => (if t738 = true then ((pick_between_int.f a0_8 0 63).bind fun t739 => (if t739 = true then ((pick_checkTaken.f kj1 l0_9).bind fun t740 => (some t740)) else (some 2))) else (some 2))) else (some 2)) = some r := H
          have A20 := Aside0.mk A200
          clear A200
          by_cases c21 : t737 = true
          · subst c21
            have H1 : ((pick_between_int.f a0_7 0 63).bind fun t738 => (if t738 = true then ((pick_between_int.f a0_8 0 63).bind fun t739 => (if t739 = true then ((pick_checkTaken.f kj1 l0_9).bind fun t740 => (some t740)) else (some 2))) else (some 2))) = some r := by rw [if_pos rfl] at H; exact H
            clear H
            have H := H1
            clear H1
            replace H := Option.bind_eq_some_iff.mp H
            obtain ⟨t738, A220, H⟩ := H
            replace H : (if t738 = true then ((pick_between_int.f a0_8 0 63).bind fun t739 => (if t739 = true then ((pick_checkTaken.f kj1 l0_9).bind fun t740 => (some t740)) else (some 2))) else (some 2)) = some r := H
            have A22 := Aside0.mk A220
            clear A220
            by_cases c23 : t738 = true
            · subst c23
              have H1 : ((pick_between_int.f a0_8 0 63).bind fun t739 => (if t739 = true then ((pick_checkTaken.f kj1 l0_9).bind fun t740 => (some t740)) else (some 2))) = some r := by rw [if_pos rfl] at H; exact H
              clear H
              have H := H1
              clear H1
              replace H := Option.bind_eq_some_iff.mp H
              obtain ⟨t739, A240, H⟩ := H
              replace H : (if t739 = true then ((pick_checkTaken.f kj1 l0_9).bind fun t740 => (some t740)) else (some 2)) = some r := H
              have A24 := Aside0.mk A240
              clear A240
              by_cases c25 : t739 = true
              · subst c25
                have H1 : ((pick_checkTaken.f kj1 l0_9).bind fun t740 => (some t740)) = some r := by rw [if_pos rfl] at H; exact H
                clear H
                have H := H1
                clear H1
                replace H := Option.bind_eq_some_iff.mp H
                obtain ⟨t740, A260, H⟩ := H
                replace H : (some t740) = some r := H
                have A26 := Aside0.mk A260
                clear A260
                obtain rfl := Option.some.inj H
                have hcz27_0 : wc.cell? ⟨gb731, 0, none⟩ = some (.int .i64 a0_0) := (blk_cell BK731.out 0).trans rfl
                have hcz27_1 : wc.cell? ⟨gb731, 1, none⟩ = some (.int .i64 a0_1) := (blk_cell BK731.out 1).trans rfl
                have hcz27_2 : wc.cell? ⟨gb731, 2, none⟩ = some (.int .i64 a0_2) := (blk_cell BK731.out 2).trans rfl
                have hcz27_3 : wc.cell? ⟨gb731, 3, none⟩ = some (.int .i64 a0_3) := (blk_cell BK731.out 3).trans rfl
                have hcz27_4 : wc.cell? ⟨gb731, 4, none⟩ = some (.int .i64 a0_4) := (blk_cell BK731.out 4).trans rfl
                have hcz27_5 : wc.cell? ⟨gb731, 5, none⟩ = some (.int .i64 a0_5) := (blk_cell BK731.out 5).trans rfl
                have hcz27_6 : wc.cell? ⟨gb731, 6, none⟩ = some (.int .i64 a0_6) := (blk_cell BK731.out 6).trans rfl
                have hcz27_7 : wc.cell? ⟨gb731, 7, none⟩ = some (.int .i64 a0_7) := (blk_cell BK731.out 7).trans rfl
                have hcz27_8 : wc.cell? ⟨gb731, 8, none⟩ = some (.int .i64 a0_8) := (blk_cell BK731.out 8).trans rfl
                have hcz27_9 : wc.cell? ⟨gb731, 9, none⟩ = some (.slice A0_9 l0_9.length c0_9) := (blk_cell BK731.out 9).trans rfl
                have hfz27_0 := blk_frozen BK731.out 0
                have hfz27_1 := blk_frozen BK731.out 1
                have hfz27_2 := blk_frozen BK731.out 2
                have hfz27_3 := blk_frozen BK731.out 3
                have hfz27_4 := blk_frozen BK731.out 4
                have hfz27_5 := blk_frozen BK731.out 5
                have hfz27_6 := blk_frozen BK731.out 6
                have hfz27_7 := blk_frozen BK731.out 7
                have hfz27_8 := blk_frozen BK731.out 8
                have hfz27_9 := blk_frozen BK731.out 9
                go_wp2_with (first | ((with_reducible refine gate_callee (f := 147) rfl ?_); (with_reducible refine gate_dst (N := 31) rfl ?_); refine gate_guard (by rfl) ?_; dsimp only; refine goesL_ (some 31) rfl rfl Try.func147 (by kernel_rfl) rfl #[.int .i64 a0_5, .int .i64 0, .int .i64 10000] rfl (by (try simp only [List.map_toArray, List.map_cons, List.map_nil]); first | done | rfl | (simp only [List.length_drop, List.length_take]; rfl)) ?_; (with_reducible refine (pick_between_int.calls a0_5 0 10000 true _ A18.out).mono ?_); rintro e w' ⟨rfl, ⟨nd, rfl⟩⟩; refine ⟨_, rfl, ?_⟩) | ((with_reducible refine gate_callee (f := 147) rfl ?_); (with_reducible refine gate_dst (N := 36) rfl ?_); refine gate_guard (by rfl) ?_; dsimp only; refine goesL_ (some 36) rfl rfl Try.func147 (by kernel_rfl) rfl #[.int .i64 a0_6, .int .i64 1, .int .i64 10000] rfl (by (try simp only [List.map_toArray, List.map_cons, List.map_nil]); first | done | rfl | (simp only [List.length_drop, List.length_take]; rfl)) ?_; (with_reducible refine (pick_between_int.calls a0_6 1 10000 true _ A20.out).mono ?_); rintro e w' ⟨rfl, ⟨nd, rfl⟩⟩; refine ⟨_, rfl, ?_⟩) | ((with_reducible refine gate_callee (f := 147) rfl ?_); (with_reducible refine gate_dst (N := 41) rfl ?_); refine gate_guard (by rfl) ?_; dsimp only; refine goesL_ (some 41) rfl rfl Try.func147 (by kernel_rfl) rfl #[.int .i64 a0_7, .int .i64 0, .int .i64 63] rfl (by (try simp only [List.map_toArray, List.map_cons, List.map_nil]); first | done | rfl | (simp only [List.length_drop, List.length_take]; rfl)) ?_; (with_reducible refine (pick_between_int.calls a0_7 0 63 true _ A22.out).mono ?_); rintro e w' ⟨rfl, ⟨nd, rfl⟩⟩; refine ⟨_, rfl, ?_⟩) | ((with_reducible refine gate_callee (f := 147) rfl ?_); (with_reducible refine gate_dst (N := 46) rfl ?_); refine gate_guard (by rfl) ?_; dsimp only; refine goesL_ (some 46) rfl rfl Try.func147 (by kernel_rfl) rfl #[.int .i64 a0_8, .int .i64 0, .int .i64 63] rfl (by (try simp only [List.map_toArray, List.map_cons, List.map_nil]); first | done | rfl | (simp only [List.length_drop, List.length_take]; rfl)) ?_; (with_reducible refine (pick_between_int.calls a0_8 0 63 true _ A24.out).mono ?_); rintro e w' ⟨rfl, ⟨nd, rfl⟩⟩; refine ⟨_, rfl, ?_⟩) | ((with_reducible refine gate_callee (f := 148) rfl ?_); refine goesL_ (some 52) rfl rfl Try.func148 (by kernel_rfl) rfl #[.slice A0_9 l0_9.length c0_9] rfl (by (try simp only [List.map_toArray, List.map_cons, List.map_nil]); first | done | rfl | (simp only [List.length_drop, List.length_take]; rfl)) ?_; (with_reducible refine (pick_checkTaken.calls kj1 _ _ l0_9 t740 _ ?side1 ?side2 A26.out).mono ?_); (case side1 => repeat (first | exact (Kd.C_below HR0_9.out (by repeat (first | (with_reducible first | exact HB.out | apply below_alloc | apply pw_below_drewN | apply below_drew1 | refine below_set ?_ GE731.out) | exact HB.out))) | (with_reducible refine Kd.C_alloc ?_ _) | (with_reducible refine Kd.C_drewN ?_ _) | (with_reducible refine Kd.C_drew ?_))); (case side2 => exact HC0_9.out); rintro e w28 ⟨rfl, hb⟩; refine ⟨_, rfl, ?_⟩; have n0_ := Aside0.mk (blk_below (g := gb731) (o := .cells #[.int .i64 a0_0, .int .i64 a0_1, .int .i64 a0_2, .int .i64 a0_3, .int .i64 a0_4, .int .i64 a0_5, .int .i64 a0_6, .int .i64 a0_7, .int .i64 a0_8, .slice A0_9 l0_9.length c0_9] 60 (0, 0)) (by (with_reducible repeat (first | refine blk_drewN ?_ _ | refine blk_drew ?_ | refine blk_alloc ?_ _)); exact BK731.out) hb); have n1_ := Aside0.mk (below_step (by repeat (first | (with_reducible first | exact HB.out | apply below_alloc | apply pw_below_drewN | apply below_drew1 | refine below_set ?_ GE731.out) | exact HB.out)) hb); clear BK731; clear HB; have BK731 := n0_; have HB := n1_; clear n0_ n1_; (try clear hb); (try clear hb2); (try clear hk); (try clear hi)))
                all_goals go_ret
                all_goals exact ⟨by first | rfl | (simp [errW_none, errW_some] <;> rfl) | (simp [*, errW_none, errW_some] <;> rfl), by repeat (first | (with_reducible first | exact HB.out | apply below_alloc | apply pw_below_drewN | apply below_drew1 | refine below_set ?_ GE731.out) | exact HB.out)⟩
              · replace c25 := Bool.eq_false_iff.mpr c25
                subst c25
                have H1 : (some 2) = some r := by rw [if_neg (show ¬ (false = true) by decide)] at H; exact H
                clear H
                have H := H1
                clear H1
                obtain rfl := Option.some.inj H
                have hcz29_0 : wc.cell? ⟨gb731, 0, none⟩ = some (.int .i64 a0_0) := (blk_cell BK731.out 0).trans rfl
                have hcz29_1 : wc.cell? ⟨gb731, 1, none⟩ = some (.int .i64 a0_1) := (blk_cell BK731.out 1).trans rfl
                have hcz29_2 : wc.cell? ⟨gb731, 2, none⟩ = some (.int .i64 a0_2) := (blk_cell BK731.out 2).trans rfl
                have hcz29_3 : wc.cell? ⟨gb731, 3, none⟩ = some (.int .i64 a0_3) := (blk_cell BK731.out 3).trans rfl
                have hcz29_4 : wc.cell? ⟨gb731, 4, none⟩ = some (.int .i64 a0_4) := (blk_cell BK731.out 4).trans rfl
                have hcz29_5 : wc.cell? ⟨gb731, 5, none⟩ = some (.int .i64 a0_5) := (blk_cell BK731.out 5).trans rfl
                have hcz29_6 : wc.cell? ⟨gb731, 6, none⟩ = some (.int .i64 a0_6) := (blk_cell BK731.out 6).trans rfl
                have hcz29_7 : wc.cell? ⟨gb731, 7, none⟩ = some (.int .i64 a0_7) := (blk_cell BK731.out 7).trans rfl
                have hcz29_8 : wc.cell? ⟨gb731, 8, none⟩ = some (.int .i64 a0_8) := (blk_cell BK731.out 8).trans rfl
                have hcz29_9 : wc.cell? ⟨gb731, 9, none⟩ = some (.slice A0_9 l0_9.length c0_9) := (blk_cell BK731.out 9).trans rfl
                have hfz29_0 := blk_frozen BK731.out 0
                have hfz29_1 := blk_frozen BK731.out 1
                have hfz29_2 := blk_frozen BK731.out 2
                have hfz29_3 := blk_frozen BK731.out 3
                have hfz29_4 := blk_frozen BK731.out 4
                have hfz29_5 := blk_frozen BK731.out 5
                have hfz29_6 := blk_frozen BK731.out 6
                have hfz29_7 := blk_frozen BK731.out 7
                have hfz29_8 := blk_frozen BK731.out 8
                have hfz29_9 := blk_frozen BK731.out 9
                go_wp2_with (first | ((with_reducible refine gate_callee (f := 147) rfl ?_); (with_reducible refine gate_dst (N := 31) rfl ?_); refine gate_guard (by rfl) ?_; dsimp only; refine goesL_ (some 31) rfl rfl Try.func147 (by kernel_rfl) rfl #[.int .i64 a0_5, .int .i64 0, .int .i64 10000] rfl (by (try simp only [List.map_toArray, List.map_cons, List.map_nil]); first | done | rfl | (simp only [List.length_drop, List.length_take]; rfl)) ?_; (with_reducible refine (pick_between_int.calls a0_5 0 10000 true _ A18.out).mono ?_); rintro e w' ⟨rfl, ⟨nd, rfl⟩⟩; refine ⟨_, rfl, ?_⟩) | ((with_reducible refine gate_callee (f := 147) rfl ?_); (with_reducible refine gate_dst (N := 36) rfl ?_); refine gate_guard (by rfl) ?_; dsimp only; refine goesL_ (some 36) rfl rfl Try.func147 (by kernel_rfl) rfl #[.int .i64 a0_6, .int .i64 1, .int .i64 10000] rfl (by (try simp only [List.map_toArray, List.map_cons, List.map_nil]); first | done | rfl | (simp only [List.length_drop, List.length_take]; rfl)) ?_; (with_reducible refine (pick_between_int.calls a0_6 1 10000 true _ A20.out).mono ?_); rintro e w' ⟨rfl, ⟨nd, rfl⟩⟩; refine ⟨_, rfl, ?_⟩) | ((with_reducible refine gate_callee (f := 147) rfl ?_); (with_reducible refine gate_dst (N := 41) rfl ?_); refine gate_guard (by rfl) ?_; dsimp only; refine goesL_ (some 41) rfl rfl Try.func147 (by kernel_rfl) rfl #[.int .i64 a0_7, .int .i64 0, .int .i64 63] rfl (by (try simp only [List.map_toArray, List.map_cons, List.map_nil]); first | done | rfl | (simp only [List.length_drop, List.length_take]; rfl)) ?_; (with_reducible refine (pick_between_int.calls a0_7 0 63 true _ A22.out).mono ?_); rintro e w' ⟨rfl, ⟨nd, rfl⟩⟩; refine ⟨_, rfl, ?_⟩) | ((with_reducible refine gate_callee (f := 147) rfl ?_); (with_reducible refine gate_dst (N := 46) rfl ?_); refine gate_guard (by rfl) ?_; dsimp only; refine goesL_ (some 46) rfl rfl Try.func147 (by kernel_rfl) rfl #[.int .i64 a0_8, .int .i64 0, .int .i64 63] rfl (by (try simp only [List.map_toArray, List.map_cons, List.map_nil]); first | done | rfl | (simp only [List.length_drop, List.length_take]; rfl)) ?_; (with_reducible refine (pick_between_int.calls a0_8 0 63 false _ A24.out).mono ?_); rintro e w' ⟨rfl, ⟨nd, rfl⟩⟩; refine ⟨_, rfl, ?_⟩))
                all_goals go_ret
                all_goals exact ⟨by first | rfl | (simp [errW_none, errW_some] <;> rfl) | (simp [*, errW_none, errW_some] <;> rfl), by repeat (first | (with_reducible first | exact HB.out | apply below_alloc | apply pw_below_drewN | apply below_drew1 | refine below_set ?_ GE731.out) | exact HB.out)⟩
            · replace c23 := Bool.eq_false_iff.mpr c23
              subst c23
              have H1 : (some 2) = some r := by rw [if_neg (show ¬ (false = true) by decide)] at H; exact H
              clear H
              have H := H1
              clear H1
              obtain rfl := Option.some.inj H
              have hcz30_0 : wc.cell? ⟨gb731, 0, none⟩ = some (.int .i64 a0_0) := (blk_cell BK731.out 0).trans rfl
              have hcz30_1 : wc.cell? ⟨gb731, 1, none⟩ = some (.int .i64 a0_1) := (blk_cell BK731.out 1).trans rfl
              have hcz30_2 : wc.cell? ⟨gb731, 2, none⟩ = some (.int .i64 a0_2) := (blk_cell BK731.out 2).trans rfl
              have hcz30_3 : wc.cell? ⟨gb731, 3, none⟩ = some (.int .i64 a0_3) := (blk_cell BK731.out 3).trans rfl
              have hcz30_4 : wc.cell? ⟨gb731, 4, none⟩ = some (.int .i64 a0_4) := (blk_cell BK731.out 4).trans rfl
              have hcz30_5 : wc.cell? ⟨gb731, 5, none⟩ = some (.int .i64 a0_5) := (blk_cell BK731.out 5).trans rfl
              have hcz30_6 : wc.cell? ⟨gb731, 6, none⟩ = some (.int .i64 a0_6) := (blk_cell BK731.out 6).trans rfl
              have hcz30_7 : wc.cell? ⟨gb731, 7, none⟩ = some (.int .i64 a0_7) := (blk_cell BK731.out 7).trans rfl
              have hcz30_8 : wc.cell? ⟨gb731, 8, none⟩ = some (.int .i64 a0_8) := (blk_cell BK731.out 8).trans rfl
              have hcz30_9 : wc.cell? ⟨gb731, 9, none⟩ = some (.slice A0_9 l0_9.length c0_9) := (blk_cell BK731.out 9).trans rfl
              have hfz30_0 := blk_frozen BK731.out 0
              have hfz30_1 := blk_frozen BK731.out 1
              have hfz30_2 := blk_frozen BK731.out 2
              have hfz30_3 := blk_frozen BK731.out 3
              have hfz30_4 := blk_frozen BK731.out 4
              have hfz30_5 := blk_frozen BK731.out 5
              have hfz30_6 := blk_frozen BK731.out 6
              have hfz30_7 := blk_frozen BK731.out 7
              have hfz30_8 := blk_frozen BK731.out 8
              have hfz30_9 := blk_frozen BK731.out 9
              go_wp2_with (first | ((with_reducible refine gate_callee (f := 147) rfl ?_); (with_reducible refine gate_dst (N := 31) rfl ?_); refine gate_guard (by rfl) ?_; dsimp only; refine goesL_ (some 31) rfl rfl Try.func147 (by kernel_rfl) rfl #[.int .i64 a0_5, .int .i64 0, .int .i64 10000] rfl (by (try simp only [List.map_toArray, List.map_cons, List.map_nil]); first | done | rfl | (simp only [List.length_drop, List.length_take]; rfl)) ?_; (with_reducible refine (pick_between_int.calls a0_5 0 10000 true _ A18.out).mono ?_); rintro e w' ⟨rfl, ⟨nd, rfl⟩⟩; refine ⟨_, rfl, ?_⟩) | ((with_reducible refine gate_callee (f := 147) rfl ?_); (with_reducible refine gate_dst (N := 36) rfl ?_); refine gate_guard (by rfl) ?_; dsimp only; refine goesL_ (some 36) rfl rfl Try.func147 (by kernel_rfl) rfl #[.int .i64 a0_6, .int .i64 1, .int .i64 10000] rfl (by (try simp only [List.map_toArray, List.map_cons, List.map_nil]); first | done | rfl | (simp only [List.length_drop, List.length_take]; rfl)) ?_; (with_reducible refine (pick_between_int.calls a0_6 1 10000 true _ A20.out).mono ?_); rintro e w' ⟨rfl, ⟨nd, rfl⟩⟩; refine ⟨_, rfl, ?_⟩) | ((with_reducible refine gate_callee (f := 147) rfl ?_); (with_reducible refine gate_dst (N := 41) rfl ?_); refine gate_guard (by rfl) ?_; dsimp only; refine goesL_ (some 41) rfl rfl Try.func147 (by kernel_rfl) rfl #[.int .i64 a0_7, .int .i64 0, .int .i64 63] rfl (by (try simp only [List.map_toArray, List.map_cons, List.map_nil]); first | done | rfl | (simp only [List.length_drop, List.length_take]; rfl)) ?_; (with_reducible refine (pick_between_int.calls a0_7 0 63 false _ A22.out).mono ?_); rintro e w' ⟨rfl, ⟨nd, rfl⟩⟩; refine ⟨_, rfl, ?_⟩))
              all_goals go_ret
              all_goals exact ⟨by first | rfl | (simp [errW_none, errW_some] <;> rfl) | (simp [*, errW_none, errW_some] <;> rfl), by repeat (first | (with_reducible first | exact HB.out | apply below_alloc | apply pw_below_drewN | apply below_drew1 | refine below_set ?_ GE731.out) | exact HB.out)⟩
          · replace c21 := Bool.eq_false_iff.mpr c21
            subst c21
            have H1 : (some 2) = some r := by rw [if_neg (show ¬ (false = true) by decide)] at H; exact H
            clear H
            have H := H1
            clear H1
            obtain rfl := Option.some.inj H
            have hcz31_0 : wc.cell? ⟨gb731, 0, none⟩ = some (.int .i64 a0_0) := (blk_cell BK731.out 0).trans rfl
            have hcz31_1 : wc.cell? ⟨gb731, 1, none⟩ = some (.int .i64 a0_1) := (blk_cell BK731.out 1).trans rfl
            have hcz31_2 : wc.cell? ⟨gb731, 2, none⟩ = some (.int .i64 a0_2) := (blk_cell BK731.out 2).trans rfl
            have hcz31_3 : wc.cell? ⟨gb731, 3, none⟩ = some (.int .i64 a0_3) := (blk_cell BK731.out 3).trans rfl
            have hcz31_4 : wc.cell? ⟨gb731, 4, none⟩ = some (.int .i64 a0_4) := (blk_cell BK731.out 4).trans rfl
            have hcz31_5 : wc.cell? ⟨gb731, 5, none⟩ = some (.int .i64 a0_5) := (blk_cell BK731.out 5).trans rfl
            have hcz31_6 : wc.cell? ⟨gb731, 6, none⟩ = some (.int .i64 a0_6) := (blk_cell BK731.out 6).trans rfl
            have hcz31_7 : wc.cell? ⟨gb731, 7, none⟩ = some (.int .i64 a0_7) := (blk_cell BK731.out 7).trans rfl
            have hcz31_8 : wc.cell? ⟨gb731, 8, none⟩ = some (.int .i64 a0_8) := (blk_cell BK731.out 8).trans rfl
            have hcz31_9 : wc.cell? ⟨gb731, 9, none⟩ = some (.slice A0_9 l0_9.length c0_9) := (blk_cell BK731.out 9).trans rfl
            have hfz31_0 := blk_frozen BK731.out 0
            have hfz31_1 := blk_frozen BK731.out 1
            have hfz31_2 := blk_frozen BK731.out 2
            have hfz31_3 := blk_frozen BK731.out 3
            have hfz31_4 := blk_frozen BK731.out 4
            have hfz31_5 := blk_frozen BK731.out 5
            have hfz31_6 := blk_frozen BK731.out 6
            have hfz31_7 := blk_frozen BK731.out 7
            have hfz31_8 := blk_frozen BK731.out 8
            have hfz31_9 := blk_frozen BK731.out 9
            go_wp2_with (first | ((with_reducible refine gate_callee (f := 147) rfl ?_); (with_reducible refine gate_dst (N := 31) rfl ?_); refine gate_guard (by rfl) ?_; dsimp only; refine goesL_ (some 31) rfl rfl Try.func147 (by kernel_rfl) rfl #[.int .i64 a0_5, .int .i64 0, .int .i64 10000] rfl (by (try simp only [List.map_toArray, List.map_cons, List.map_nil]); first | done | rfl | (simp only [List.length_drop, List.length_take]; rfl)) ?_; (with_reducible refine (pick_between_int.calls a0_5 0 10000 true _ A18.out).mono ?_); rintro e w' ⟨rfl, ⟨nd, rfl⟩⟩; refine ⟨_, rfl, ?_⟩) | ((with_reducible refine gate_callee (f := 147) rfl ?_); (with_reducible refine gate_dst (N := 36) rfl ?_); refine gate_guard (by rfl) ?_; dsimp only; refine goesL_ (some 36) rfl rfl Try.func147 (by kernel_rfl) rfl #[.int .i64 a0_6, .int .i64 1, .int .i64 10000] rfl (by (try simp only [List.map_toArray, List.map_cons, List.map_nil]); first | done | rfl | (simp only [List.length_drop, List.length_take]; rfl)) ?_; (with_reducible refine (pick_between_int.calls a0_6 1 10000 false _ A20.out).mono ?_); rintro e w' ⟨rfl, ⟨nd, rfl⟩⟩; refine ⟨_, rfl, ?_⟩))
            all_goals go_ret
            all_goals exact ⟨by first | rfl | (simp [errW_none, errW_some] <;> rfl) | (simp [*, errW_none, errW_some] <;> rfl), by repeat (first | (with_reducible first | exact HB.out | apply below_alloc | apply pw_below_drewN | apply below_drew1 | refine below_set ?_ GE731.out) | exact HB.out)⟩
        · replace c19 := Bool.eq_false_iff.mpr c19
          subst c19
          have H1 : (some 2) = some r := by rw [if_neg (show ¬ (false = true) by decide)] at H; exact H
          clear H
          have H := H1
          clear H1
          obtain rfl := Option.some.inj H
          have hcz32_0 : wc.cell? ⟨gb731, 0, none⟩ = some (.int .i64 a0_0) := (blk_cell BK731.out 0).trans rfl
          have hcz32_1 : wc.cell? ⟨gb731, 1, none⟩ = some (.int .i64 a0_1) := (blk_cell BK731.out 1).trans rfl
          have hcz32_2 : wc.cell? ⟨gb731, 2, none⟩ = some (.int .i64 a0_2) := (blk_cell BK731.out 2).trans rfl
          have hcz32_3 : wc.cell? ⟨gb731, 3, none⟩ = some (.int .i64 a0_3) := (blk_cell BK731.out 3).trans rfl
          have hcz32_4 : wc.cell? ⟨gb731, 4, none⟩ = some (.int .i64 a0_4) := (blk_cell BK731.out 4).trans rfl
          have hcz32_5 : wc.cell? ⟨gb731, 5, none⟩ = some (.int .i64 a0_5) := (blk_cell BK731.out 5).trans rfl
          have hcz32_6 : wc.cell? ⟨gb731, 6, none⟩ = some (.int .i64 a0_6) := (blk_cell BK731.out 6).trans rfl
          have hcz32_7 : wc.cell? ⟨gb731, 7, none⟩ = some (.int .i64 a0_7) := (blk_cell BK731.out 7).trans rfl
          have hcz32_8 : wc.cell? ⟨gb731, 8, none⟩ = some (.int .i64 a0_8) := (blk_cell BK731.out 8).trans rfl
          have hcz32_9 : wc.cell? ⟨gb731, 9, none⟩ = some (.slice A0_9 l0_9.length c0_9) := (blk_cell BK731.out 9).trans rfl
          have hfz32_0 := blk_frozen BK731.out 0
          have hfz32_1 := blk_frozen BK731.out 1
          have hfz32_2 := blk_frozen BK731.out 2
          have hfz32_3 := blk_frozen BK731.out 3
          have hfz32_4 := blk_frozen BK731.out 4
          have hfz32_5 := blk_frozen BK731.out 5
          have hfz32_6 := blk_frozen BK731.out 6
          have hfz32_7 := blk_frozen BK731.out 7
          have hfz32_8 := blk_frozen BK731.out 8
          have hfz32_9 := blk_frozen BK731.out 9
          go_wp2_with (first | ((with_reducible refine gate_callee (f := 147) rfl ?_); (with_reducible refine gate_dst (N := 31) rfl ?_); refine gate_guard (by rfl) ?_; dsimp only; refine goesL_ (some 31) rfl rfl Try.func147 (by kernel_rfl) rfl #[.int .i64 a0_5, .int .i64 0, .int .i64 10000] rfl (by (try simp only [List.map_toArray, List.map_cons, List.map_nil]); first | done | rfl | (simp only [List.length_drop, List.length_take]; rfl)) ?_; (with_reducible refine (pick_between_int.calls a0_5 0 10000 false _ A18.out).mono ?_); rintro e w' ⟨rfl, ⟨nd, rfl⟩⟩; refine ⟨_, rfl, ?_⟩))
          all_goals go_ret
          all_goals exact ⟨by first | rfl | (simp [errW_none, errW_some] <;> rfl) | (simp [*, errW_none, errW_some] <;> rfl), by repeat (first | (with_reducible first | exact HB.out | apply below_alloc | apply pw_below_drewN | apply below_drew1 | refine below_set ?_ GE731.out) | exact HB.out)⟩
      · replace c17 := Bool.eq_false_iff.mpr c17
        subst c17
        have H1 : (some 2) = some r := by rw [if_neg (show ¬ (false = true) by decide)] at H; exact H
        clear H
        have H := H1
        clear H1
        obtain rfl := Option.some.inj H
        go_wp2
        all_goals go_ret
        all_goals exact ⟨by first | rfl | (simp [errW_none, errW_some] <;> rfl) | (simp [*, errW_none, errW_some] <;> rfl), by repeat (first | (with_reducible first | exact HB.out | apply below_alloc | apply pw_below_drewN | apply below_drew1 | refine below_set ?_ GE731.out) | exact HB.out)⟩


end Go.Proofs.Ytmfbpkjhabdcgaa.F
end
section
namespace Go.Proofs.Ytmfbpkjhabdcgaa.F
open Go.RowKit Go.Proofs.YtmfbpkjhabdcgaaW.PrintWords Go.Proofs.YtmfbpkjhabdcgaaW.PrintLast Go.Proofs.YtmfbpkjhabdcgaaW.PrintMore
set_option linter.unusedVariables false
set_option linter.unusedSimpArgs false
theorem laidOutT : laidOutB Try.prog = true := by kernel_rfl
end Go.Proofs.Ytmfbpkjhabdcgaa.F
end
section
namespace Go.Proofs.Ytmfbpkjhabdcgaa.F
open Go.RowKit Go.Proofs.YtmfbpkjhabdcgaaW.PrintWords Go.Proofs.YtmfbpkjhabdcgaaW.PrintLast Go.Proofs.YtmfbpkjhabdcgaaW.PrintMore
set_option linter.unusedVariables false
set_option linter.unusedSimpArgs false
theorem keyed142 : Maps.Keyed Try.prog 142 := Maps.Keyed.of_law (deep_law_laid laidOutT (m := 2) (by omega) (of_decide_eq_true (by kernel_rfl)) (by kernel_rfl) (by kernel_rfl))
end Go.Proofs.Ytmfbpkjhabdcgaa.F
end
section
namespace Go.Proofs.Ytmfbpkjhabdcgaa.F
open Go.RowKit Go.Proofs.YtmfbpkjhabdcgaaW.PrintWords Go.Proofs.YtmfbpkjhabdcgaaW.PrintLast Go.Proofs.YtmfbpkjhabdcgaaW.PrintMore
set_option linter.unusedVariables false
set_option linter.unusedSimpArgs false
abbrev keyV (a b c : Int) : Value := .agg #[.int .i64 a, .int .i64 b, .int .i64 c]
end Go.Proofs.Ytmfbpkjhabdcgaa.F
end
section
namespace Go.Proofs.Ytmfbpkjhabdcgaa.F
open Go.RowKit Go.Proofs.YtmfbpkjhabdcgaaW.PrintWords Go.Proofs.YtmfbpkjhabdcgaaW.PrintLast Go.Proofs.YtmfbpkjhabdcgaaW.PrintMore
set_option linter.unusedVariables false
set_option linter.unusedSimpArgs false
def Wf3 (a b c : Int) : Prop := (Lit.int .i64 a).wf = true ∧ (Lit.int .i64 b).wf = true ∧ (Lit.int .i64 c).wf = true
end Go.Proofs.Ytmfbpkjhabdcgaa.F
end
section
namespace Go.Proofs.Ytmfbpkjhabdcgaa.F
open Go.RowKit Go.Proofs.YtmfbpkjhabdcgaaW.PrintWords Go.Proofs.YtmfbpkjhabdcgaaW.PrintLast Go.Proofs.YtmfbpkjhabdcgaaW.PrintMore
set_option linter.unusedVariables false
set_option linter.unusedSimpArgs false
theorem lits3 (d : Nat) (x : Int) (h : (Lit.int .i64 x).wf = true) : Try.prog.keyLits (d + 1) 3 [.int .i64 x] = some [.int .i64 x] := by
  unfold Program.keyLits
  rw [Try.underlying3]
  simp [h]
end Go.Proofs.Ytmfbpkjhabdcgaa.F
end
section
namespace Go.Proofs.Ytmfbpkjhabdcgaa.F
open Go.RowKit Go.Proofs.YtmfbpkjhabdcgaaW.PrintWords Go.Proofs.YtmfbpkjhabdcgaaW.PrintLast Go.Proofs.YtmfbpkjhabdcgaaW.PrintMore
set_option linter.unusedVariables false
set_option linter.unusedSimpArgs false
theorem lits142 (d : Nat) {a b c : Int} (h : Wf3 a b c) : Try.prog.keyLits (d + 1 + 1) 142 [.int .i64 a, .int .i64 b, .int .i64 c] = some [.int .i64 a, .int .i64 b, .int .i64 c] := by
  have hc : Try.prog.cellsOf 142 = 3 := by kernel_rfl
  have h3 : Try.prog.cellsOf 3 = 1 := by kernel_rfl
  unfold Program.keyLits
  rw [Try.underlying142]
  simp [hc, h3, lits3 d a h.1, lits3 d b h.2.1, lits3 d c h.2.2]
end Go.Proofs.Ytmfbpkjhabdcgaa.F
end
section
namespace Go.Proofs.Ytmfbpkjhabdcgaa.F
open Go.RowKit Go.Proofs.YtmfbpkjhabdcgaaW.PrintWords Go.Proofs.YtmfbpkjhabdcgaaW.PrintLast Go.Proofs.YtmfbpkjhabdcgaaW.PrintMore
set_option linter.unusedVariables false
set_option linter.unusedSimpArgs false
theorem keyOf142 {a b c : Int} (h : Wf3 a b c) : ∃ l, keyOf Try.prog 142 (keyV a b c) = some l := by
  unfold keyOf
  rw [Try.underlying142]
  simp only
  have hk : Try.prog.keyType 142 = true := by kernel_rfl
  have hc : Try.prog.cellsOf 142 = 3 := by kernel_rfl
  have hf : (keyV a b c).formed Try.prog 142 = true := by
    unfold Value.formed
    simp only [Try.underlying142, hc]
    rfl
  obtain ⟨n, hn⟩ : ∃ n, Try.prog.types.size = n + 1 := ⟨Try.prog.types.size - 1, by have : 0 < Try.prog.types.size := of_decide_eq_true (by kernel_rfl); omega⟩
  have hl := lits142 n h
  rw [hk, hf]
  simp only [Bool.and_self, if_true]
  rw [hn]
  exact ⟨_, by rw [show (keyV a b c).cells.toList = [.int .i64 a, .int .i64 b, .int .i64 c] from rfl, hl]; rfl⟩
end Go.Proofs.Ytmfbpkjhabdcgaa.F
end
section
namespace Go.Proofs.Ytmfbpkjhabdcgaa.F
open Go.RowKit Go.Proofs.YtmfbpkjhabdcgaaW.PrintWords Go.Proofs.YtmfbpkjhabdcgaaW.PrintLast Go.Proofs.YtmfbpkjhabdcgaaW.PrintMore
set_option linter.unusedVariables false
set_option linter.unusedSimpArgs false
noncomputable def keyL (a b c : Int) : Lit := (keyOf Try.prog 142 (keyV a b c)).getD (.bool false)
end Go.Proofs.Ytmfbpkjhabdcgaa.F
end
section
namespace Go.Proofs.Ytmfbpkjhabdcgaa.F
open Go.RowKit Go.Proofs.YtmfbpkjhabdcgaaW.PrintWords Go.Proofs.YtmfbpkjhabdcgaaW.PrintLast Go.Proofs.YtmfbpkjhabdcgaaW.PrintMore
set_option linter.unusedVariables false
set_option linter.unusedSimpArgs false
theorem keyL_of {a b c : Int} (h : Wf3 a b c) : keyOf Try.prog 142 (keyV a b c) = some (keyL a b c) := by
  obtain ⟨l, hl⟩ := keyOf142 h
  unfold keyL
  rw [hl]; rfl
end Go.Proofs.Ytmfbpkjhabdcgaa.F
end
section
namespace Go.Proofs.Ytmfbpkjhabdcgaa.F
open Go.RowKit Go.Proofs.YtmfbpkjhabdcgaaW.PrintWords Go.Proofs.YtmfbpkjhabdcgaaW.PrintLast Go.Proofs.YtmfbpkjhabdcgaaW.PrintMore
set_option linter.unusedVariables false
set_option linter.unusedSimpArgs false
theorem keyL_inj {a b c a' b' c' : Int} (h : Wf3 a b c) (h' : Wf3 a' b' c') (e : keyL a b c = keyL a' b' c') : a = a' ∧ b = b' ∧ c = c' := by
  have h1 := keyL_of h
  rw [e] at h1
  have := keyed142.inj h1 (keyL_of h')
  simpa using this
end Go.Proofs.Ytmfbpkjhabdcgaa.F
end
section
namespace Go.Proofs.Ytmfbpkjhabdcgaa.F
open Go.RowKit Go.Proofs.YtmfbpkjhabdcgaaW.PrintWords Go.Proofs.YtmfbpkjhabdcgaaW.PrintLast Go.Proofs.YtmfbpkjhabdcgaaW.PrintMore
set_option linter.unusedVariables false
set_option linter.unusedSimpArgs false
/-- The map in block b holds just the keys of L. -/
def Seen (w : World) (b : Nat) (L : List (Int × Int × Int)) : Prop :=
  ∃ (n : Nat) (D : DataW Unit), n ≤ L.length ∧ w.ownsMap Try.prog 142 (plainElem (H := Unit) Try.prog 4) b n D ∧ (∃ es, D = .map es) ∧ (∀ q ∈ L, Wf3 q.1 q.2.1 q.2.2) ∧
    ∀ a b c, Wf3 a b c → D.atKey (keyL a b c) (.lit (.bool false)) = .lit (.bool (decide ((a, b, c) ∈ L)))
end Go.Proofs.Ytmfbpkjhabdcgaa.F
end
section
namespace Go.Proofs.Ytmfbpkjhabdcgaa.F
open Go.RowKit Go.Proofs.YtmfbpkjhabdcgaaW.PrintWords Go.Proofs.YtmfbpkjhabdcgaaW.PrintLast Go.Proofs.YtmfbpkjhabdcgaaW.PrintMore
set_option linter.unusedVariables false
set_option linter.unusedSimpArgs false
theorem Seen.kept {w w' : World} {b : Nat} {L : List (Int × Int × Int)} {row : Option Nat} (h : Seen w b L) (hg : w.grownBy w' row) (hne : some b ≠ row) : Seen w' b L := by
  obtain ⟨n, D, h1, h2, h3⟩ := h
  exact ⟨n, D, h1, h2.kept hg hne, h3⟩
end Go.Proofs.Ytmfbpkjhabdcgaa.F
end
section
namespace Go.Proofs.Ytmfbpkjhabdcgaa.F
open Go.RowKit Go.Proofs.YtmfbpkjhabdcgaaW.PrintWords Go.Proofs.YtmfbpkjhabdcgaaW.PrintLast Go.Proofs.YtmfbpkjhabdcgaaW.PrintMore
set_option linter.unusedVariables false
set_option linter.unusedSimpArgs false
theorem seen_made (w : World) : Seen (w.alloc (.map #[] 0)) w.heap.size [] :=
  ⟨0, .map [], Nat.le_refl _, World.ownsMap_made w _ _ _, ⟨[], rfl⟩, fun _ h => (List.not_mem_nil h).elim, fun a b c h => WideAt.atKey_none _ (fun _ h => (List.not_mem_nil h).elim)⟩
end Go.Proofs.Ytmfbpkjhabdcgaa.F
end
section
namespace Go.Proofs.Ytmfbpkjhabdcgaa.F
open Go.RowKit Go.Proofs.YtmfbpkjhabdcgaaW.PrintWords Go.Proofs.YtmfbpkjhabdcgaaW.PrintLast Go.Proofs.YtmfbpkjhabdcgaaW.PrintMore
set_option linter.unusedVariables false
set_option linter.unusedSimpArgs false
theorem plain_bool_inv {P : Program} {e : TypeId} (he : P.underlying e = some .bool) {v : Value} {d : DataW Unit} {ps : List MemPlace} (h : plainElem (H := Unit) P e v = some (d, ps)) {x : Bool} (hd : d = .lit (.bool x)) : v = .bool x := by
  subst hd
  unfold plainElem at h
  rw [he] at h
  split at h <;> simp_all
end Go.Proofs.Ytmfbpkjhabdcgaa.F
end
section
namespace Go.Proofs.Ytmfbpkjhabdcgaa.F
open Go.RowKit Go.Proofs.YtmfbpkjhabdcgaaW.PrintWords Go.Proofs.YtmfbpkjhabdcgaaW.PrintLast Go.Proofs.YtmfbpkjhabdcgaaW.PrintMore
set_option linter.unusedVariables false
set_option linter.unusedSimpArgs false
set_option maxRecDepth 100000 in
theorem seen_lookup {w : World} {b : Nat} {L : List (Int × Int × Int)} (h : Seen w b L) {x y z : Int} (hw : Wf3 x y z) (hz : (zeroValue 4).run Try.prog w = .ok (.bool false) w) :
    (Instr.lookup 179 (.map (some b)) (keyV x y z) false).run Try.prog w = .ok (.bool (decide ((x, y, z) ∈ L))) w := by
  obtain ⟨n, D, h1, h2, h3, h4, h5⟩ := h
  obtain ⟨v, ps, hrun, hv⟩ := h2.lookup keyed142 Try.underlying179 hz (plainElem_bool Try.underlying4 false) (keyL_of hw)
  have e := plain_bool_inv Try.underlying4 hv (h5 x y z hw)
  subst e
  exact hrun
end Go.Proofs.Ytmfbpkjhabdcgaa.F
end
section
namespace Go.Proofs.Ytmfbpkjhabdcgaa.F
open Go.RowKit Go.Proofs.YtmfbpkjhabdcgaaW.PrintWords Go.Proofs.YtmfbpkjhabdcgaaW.PrintLast Go.Proofs.YtmfbpkjhabdcgaaW.PrintMore
set_option linter.unusedVariables false
set_option linter.unusedSimpArgs false
set_option maxRecDepth 100000 in
theorem seen_put {w : World} {b : Nat} {L : List (Int × Int × Int)} (h : Seen w b L) {x y z : Int} (hw : Wf3 x y z) (hL : L.length < maxLen) :
    ∃ w', (Instr.mapUpdate 179 (.map (some b)) (keyV x y z) (.bool true)).run Try.prog w = .ok () w' ∧ Seen w' b ((x, y, z) :: L) ∧ w.grownBy w' (some b) := by
  obtain ⟨n, D, h1, h2, h3, h4, h5⟩ := h
  obtain ⟨w', hrun, ho, hg⟩ := h2.update keyed142 Try.underlying179 (by omega) (keyL_of hw) (plainElem_bool Try.underlying4 true)
  refine ⟨w', hrun, ⟨n + 1, _, by simp; omega, ho, ?_, fun q hq => ?_, fun a c d ha => ?_⟩, hg⟩
  · obtain ⟨es, rfl⟩ := h3
    exact ⟨_, rfl⟩
  · rcases List.mem_cons.1 hq with rfl | hq
    · exact hw
    · exact h4 q hq
  · by_cases e : (a, c, d) = (x, y, z)
    · simp only [Prod.mk.injEq] at e
      obtain ⟨rfl, rfl, rfl⟩ := e
      exact (Maps.atKey_put_same h3 (keyed142.key (keyL_of hw)) _ _).trans (by rw [decide_eq_true List.mem_cons_self])
    · have hne : keyL a c d ≠ keyL x y z := fun ek => e (by obtain ⟨rfl, rfl, rfl⟩ := keyL_inj ha hw ek; rfl)
      have ed : decide ((a, c, d) ∈ L) = decide ((a, c, d) ∈ (x, y, z) :: L) := by
        rw [decide_eq_decide]
        exact ⟨fun h => List.mem_cons_of_mem _ h, fun h => (List.mem_cons.1 h).resolve_left e⟩
      exact (Maps.atKey_put_other hne _ _).trans ((h5 a c d ha).trans (by rw [ed]))
end Go.Proofs.Ytmfbpkjhabdcgaa.F
end
section
namespace Go.Proofs.Ytmfbpkjhabdcgaa.F
open Go.RowKit Go.Proofs.YtmfbpkjhabdcgaaW.PrintWords Go.Proofs.YtmfbpkjhabdcgaaW.PrintLast Go.Proofs.YtmfbpkjhabdcgaaW.PrintMore
set_option linter.unusedVariables false
set_option linter.unusedSimpArgs false
theorem C_len {α : Type} {d : Kd α} {w : World} {A : Option Addr} {n : Nat} {l : List α} (h : d.C w A n l) : l.length = n ∧ n ≤ 9223372036854775807 := ⟨h.1, h.2.1⟩
end Go.Proofs.Ytmfbpkjhabdcgaa.F
end
section
namespace Go.Proofs.Ytmfbpkjhabdcgaa.F
open Go.RowKit Go.Proofs.YtmfbpkjhabdcgaaW.PrintWords Go.Proofs.YtmfbpkjhabdcgaaW.PrintLast Go.Proofs.YtmfbpkjhabdcgaaW.PrintMore
set_option linter.unusedVariables false
set_option linter.unusedSimpArgs false
/-- What is asked of a predicate: in every world that has grown out of w by new blocks, and by writes to one row alone. -/
def PredG (g : Nat) (lb : Array Value) (p : S29 → Bool) (w : World) (row : Option Nat) : Prop :=
  ∀ (W : World) (x0 x1 x2 x3 : Int), w.grownBy W row → Calls Try.prog g (#[.agg #[.int .i64 x0, .int .i64 x1, .int .i64 x2, .int .i64 x3]] ++ lb) W fun e w' => e = .returned (.bool (p ⟨x0, x1, x2, x3⟩)) ∧ Below W.heap.size W w'
end Go.Proofs.Ytmfbpkjhabdcgaa.F
end
section
namespace Go.Proofs.Ytmfbpkjhabdcgaa.F
open Go.RowKit Go.Proofs.YtmfbpkjhabdcgaaW.PrintWords Go.Proofs.YtmfbpkjhabdcgaaW.PrintLast Go.Proofs.YtmfbpkjhabdcgaaW.PrintMore
set_option linter.unusedVariables false
set_option linter.unusedSimpArgs false
theorem PredG.step {g : Nat} {lb : Array Value} {p : S29 → Bool} {w w1 : World} {row : Option Nat} (h : PredG g lb p w row) (hg : w.grownBy w1 row) : PredG g lb p w1 row :=
  fun W x0 x1 x2 x3 hW => h W x0 x1 x2 x3 (hg.trans hW)
end Go.Proofs.Ytmfbpkjhabdcgaa.F
end
section
namespace Go.Proofs.Ytmfbpkjhabdcgaa.F
open Go.RowKit Go.Proofs.YtmfbpkjhabdcgaaW.PrintWords Go.Proofs.YtmfbpkjhabdcgaaW.PrintLast Go.Proofs.YtmfbpkjhabdcgaaW.PrintMore
set_option linter.unusedVariables false
set_option linter.unusedSimpArgs false
def idxOf (p : S29 → Bool) (l : List S29) : Int := if l.findIdx p < l.length then (l.findIdx p : Nat) else -1
end Go.Proofs.Ytmfbpkjhabdcgaa.F
end
section
namespace Go.Proofs.Ytmfbpkjhabdcgaa.F
open Go.RowKit Go.Proofs.YtmfbpkjhabdcgaaW.PrintWords Go.Proofs.YtmfbpkjhabdcgaaW.PrintLast Go.Proofs.YtmfbpkjhabdcgaaW.PrintMore
set_option linter.unusedVariables false
set_option linter.unusedSimpArgs false
theorem idxOf_hit {p : S29 → Bool} {l : List S29} {k : Nat} (h : k < l.length) (hp : p (rd_T29 l k) = true) (hn : ∀ j, j < k → p (rd_T29 l j) = false) : idxOf p l = k := by
  have e : l.findIdx p = k := by
    refine (List.findIdx_eq h).2 ⟨?_, fun j hj => ?_⟩
    · simpa [rd_T29, List.getD_eq_getElem?_getD, List.getElem?_eq_getElem h] using hp
    · have := hn j hj
      simpa [rd_T29, List.getD_eq_getElem?_getD, List.getElem?_eq_getElem (show j < l.length by omega)] using this
  unfold idxOf
  rw [e, if_pos h]
end Go.Proofs.Ytmfbpkjhabdcgaa.F
end
section
namespace Go.Proofs.Ytmfbpkjhabdcgaa.F
open Go.RowKit Go.Proofs.YtmfbpkjhabdcgaaW.PrintWords Go.Proofs.YtmfbpkjhabdcgaaW.PrintLast Go.Proofs.YtmfbpkjhabdcgaaW.PrintMore
set_option linter.unusedVariables false
set_option linter.unusedSimpArgs false
theorem idxOf_miss {p : S29 → Bool} {l : List S29} (hn : ∀ j : Nat, j < l.length → p (rd_T29 l j) = false) : idxOf p l = -1 := by
  have e : l.findIdx p = l.length := by
    refine List.findIdx_eq_length.2 fun x hx => ?_
    obtain ⟨j, hj, rfl⟩ := List.getElem_of_mem hx
    have := hn j hj
    simpa [rd_T29, List.getD_eq_getElem?_getD, List.getElem?_eq_getElem hj] using this
  unfold idxOf
  rw [e, if_neg (by omega)]
end Go.Proofs.Ytmfbpkjhabdcgaa.F
end
section
namespace Go.Proofs.Ytmfbpkjhabdcgaa.F
open Go.RowKit Go.Proofs.YtmfbpkjhabdcgaaW.PrintWords Go.Proofs.YtmfbpkjhabdcgaaW.PrintLast Go.Proofs.YtmfbpkjhabdcgaaW.PrintMore
set_option linter.unusedVariables false
set_option linter.unusedSimpArgs false
set_option maxHeartbeats 2000000 in
set_option maxRecDepth 100000 in
theorem indexFunc_calls (g : Nat) (lb : Array Value) (eg : ∀ args w, (callFunc g args).run Try.prog w = .ok (.enter g args) w) (p : S29 → Bool) (A0 : Option Addr) (c0 : Nat) (l0 : List S29) (w : World) (row : Option Nat)
    (hr0 : Kd.C k29 w A0 l0.length l0) (hc0 : l0.length ≤ c0) (hp : PredG g lb p w row) :
    Calls Try.prog 196 #[.slice A0 l0.length c0, .func (.func g) #[] lb] w fun e w' => e = .returned (.int .i64 (idxOf p l0)) ∧ Below w.heap.size w w' := by
  have hbig := (C_len hr0).2
  have HR := Aside0.mk hr0
  have HP := Aside0.mk hp
  clear hr0 hp hc0
  go_enter Try.func196, Try.ntmps196
  go_wp2
  go_loopg [5, 8] l0.length (fun gg _ s8 wr => ∃ kk : Nat, kk ≤ l0.length ∧ l0.length - kk ≤ gg ∧ s8 = .int .i64 kk ∧ Aside0 (Below w.heap.size w wr) ∧ Aside0 (∀ j : Nat, j < kk → p (rd_T29 l0 j) = false))
  case atStart => exact ⟨0, Nat.zero_le _, by omega, rfl, ⟨Below.refl _ w⟩, ⟨fun j hj => absurd hj (Nat.not_lt_zero _)⟩⟩
  case round =>
    obtain ⟨kk, hkk, hg, rfl, BW, AN⟩ := hrel
    by_cases hlt : kk < l0.length
    · have hltz : (kk : Int) < (l0.length : Int) := by omega
      obtain ⟨ad, hA, q0, q1, q2, q3⟩ := at_T29 (Kd.C_below HR.out BW.out) kk (by omega) hltz
      subst hA
      simp only [Int.toNat_natCast] at q0 q1 q2 q3
      have hcall := HP.out wr (rd_T29 l0 kk).f0 (rd_T29 l0 kk).f1 (rd_T29 l0 kk).f2 (rd_T29 l0 kk).f3 (grown_of_below BW.out row)
      have HY : Aside0 (p ⟨(rd_T29 l0 kk).f0, (rd_T29 l0 kk).f1, (rd_T29 l0 kk).f2, (rd_T29 l0 kk).f3⟩ = p (rd_T29 l0 kk)) := ⟨rfl⟩
      generalize (rd_T29 l0 kk).f0 = y0 at hcall q0 HY
      generalize (rd_T29 l0 kk).f1 = y1 at hcall q1 HY
      generalize (rd_T29 l0 kk).f2 = y2 at hcall q2 HY
      generalize (rd_T29 l0 kk).f3 = y3 at hcall q3 HY
      cases hq : p ⟨y0, y1, y2, y3⟩ with
      | true =>
        rw [hq] at hcall
        have HQ := Aside0.mk hq
        clear hq
        go_wp2_with (go_at_fn g; refine hcall.mono ?_; rintro e w' ⟨rfl, hb'⟩)
        go_ret
        exact ⟨by rw [idxOf_hit hlt (HY.out.symm.trans HQ.out) AN.out]; rfl, below_then BW.out BW.out.size hb'⟩
      | false =>
        rw [hq] at hcall
        have HQ := Aside0.mk hq
        clear hq
        go_wp2_with (go_at_fn g; refine hcall.mono ?_; rintro e w' ⟨rfl, hb'⟩)
        go_roundg (l0.length - (kk + 1))
        case measure => omega
        case rel =>
          refine ⟨kk + 1, by omega, by omega, by go_num, ⟨below_then BW.out BW.out.size hb'⟩, ⟨fun j hj => ?_⟩⟩
          by_cases e : j = kk
          · subst e
            exact HY.out.symm.trans HQ.out
          · exact AN.out j (by omega)
    · have hltz : ¬ (kk : Int) < (l0.length : Int) := by omega
      have : kk = l0.length := by omega
      subst this
      go_wp2
      go_ret
      exact ⟨by rw [idxOf_miss AN.out]; rfl, BW.out⟩
end Go.Proofs.Ytmfbpkjhabdcgaa.F
end
section
namespace Go.Proofs.Ytmfbpkjhabdcgaa.F
open Go.RowKit Go.Proofs.YtmfbpkjhabdcgaaW.PrintWords Go.Proofs.YtmfbpkjhabdcgaaW.PrintLast Go.Proofs.YtmfbpkjhabdcgaaW.PrintMore
set_option linter.unusedVariables false
set_option linter.unusedSimpArgs false
variable {P : Program} {ops : Array Oper} {rest : List Oper} {o : Oper} {a : Act} {Q : Exit → Act → World → Prop}
/-- A store of a whole value into a variable in memory. -/
theorem box_store {W : World} (hgd : o.guard = none) (hN : o.dst = none) (t : TypeId) (p x : Operand) (ho : o.op = .store t p x) {g : Nat} {e : TypeId} {cs : Array Value} (seg : List Value) (u : Value)
    (ha : a.eval p = .pointer (some ⟨g, 0, none⟩)) (hx : a.eval x = u) (hu : u.cells.toList = seg) (ht : (P.info? t).map (·.size) = some seg.length) (h1 : ∀ q ∈ seg, q.oneCell' = true)
    (hh : W.heap[g]? = some (.cells cs e (0, 0))) (hsz : cs.size = seg.length)
    (h : ∀ w1, w1.heap[g]? = some (.cells seg.toArray e (0, 0)) → W.grownBy w1 (some g) → w1.heap.size = W.heap.size → wpList P ops Q rest a w1) : wpList P ops Q (o :: rest) a W := by
  have hrun : (Instr.storeAt t (.pointer (some ⟨g, 0, none⟩)) u).run P W = .ok () (W.setCells g 0 seg) := run_store_run t u seg hh hu ht (by omega) h1
  obtain ⟨cur', h3, h4, h5⟩ := setCells_row seg 0 W cs hh (by omega)
  have h6 := setCells_same g seg 0 W
  refine wpList_plain hgd fun K hK => ?_
  unfold Oper.wp execOp
  simp only [ho, ha, hx, Sem.run_bind, Sem.run_pure, Result.andThen_ok, hrun]
  show K (a.put o.dst undef) _
  rw [hN]
  refine hK a _ (h _ ?_ ⟨h6.1, h6.2.1, h6.2.2.1, by rw [h6.2.2.2]; exact Nat.le_refl _, fun k _ hk => setCells_far seg 0 k (fun e1 => hk (by rw [e1]))⟩ h6.2.2.2)
  rw [h3]
  have h7 : cs.toList.drop (0 + seg.length) = [] := List.drop_eq_nil_of_le (by rw [Array.length_toList]; omega)
  rw [List.take_zero, List.nil_append, h7, List.append_nil] at h5
  rw [← h5]
end Go.Proofs.Ytmfbpkjhabdcgaa.F
end
section
namespace Go.Proofs.Ytmfbpkjhabdcgaa.F
open Go.RowKit Go.Proofs.YtmfbpkjhabdcgaaW.PrintWords Go.Proofs.YtmfbpkjhabdcgaaW.PrintLast Go.Proofs.YtmfbpkjhabdcgaaW.PrintMore
set_option linter.unusedVariables false
set_option linter.unusedSimpArgs false
/-- A variable in memory of one cell, which stands while the world grows. -/
theorem cell_grown {w W : World} {row : Option Nat} {g t : Nat} {v : Value} (hb : w.heap[g]? = some (.cells #[v] t (0, 0))) (hne : some g ≠ row) (hW : w.grownBy W row) : W.heap[g]? = some (.cells #[v] t (0, 0)) :=
  (hW.block g (blk_lt hb) hne).trans hb
end Go.Proofs.Ytmfbpkjhabdcgaa.F
end
section
namespace Go.Proofs.Ytmfbpkjhabdcgaa.F
open Go.RowKit Go.Proofs.YtmfbpkjhabdcgaaW.PrintWords Go.Proofs.YtmfbpkjhabdcgaaW.PrintLast Go.Proofs.YtmfbpkjhabdcgaaW.PrintMore
set_option linter.unusedVariables false
set_option linter.unusedSimpArgs false
theorem eqA142 (d : Nat) (w : World) (x0 y0 : Int) (x1 y1 : Int) (x2 y2 : Int) :
    (Op.equalIn (d + 2) 142 (.agg #[.int .i64 x0, .int .i64 x1, .int .i64 x2]) (.agg #[.int .i64 y0, .int .i64 y1, .int .i64 y2])).run Try.prog w = .ok (x0 == y0 && (x1 == y1 && (x2 == y2))) w := by
  refine eqA_of Try.underlying142 (by kernel_rfl) ?_
  refine eqf_cons (by rfl) (by go_simp; rfl) (by go_simp; rfl) (by go_simp) ?_
  refine eqf_cons (by rfl) (by go_simp; rfl) (by go_simp; rfl) (by go_simp) ?_
  exact eqf_last (by rfl) (by go_simp; rfl) (by go_simp; rfl) (by go_simp)
end Go.Proofs.Ytmfbpkjhabdcgaa.F
end
section
namespace Go.Proofs.Ytmfbpkjhabdcgaa.F
open Go.RowKit Go.Proofs.YtmfbpkjhabdcgaaW.PrintWords Go.Proofs.YtmfbpkjhabdcgaaW.PrintLast Go.Proofs.YtmfbpkjhabdcgaaW.PrintMore
set_option linter.unusedVariables false
set_option linter.unusedSimpArgs false
attribute [local go_sem high] eqA142
def sameKey (a b : S29) : Bool := a.f0 == b.f0 && (a.f1 == b.f1 && a.f2 == b.f2)
end Go.Proofs.Ytmfbpkjhabdcgaa.F
end
section
namespace Go.Proofs.Ytmfbpkjhabdcgaa.F
open Go.RowKit Go.Proofs.YtmfbpkjhabdcgaaW.PrintWords Go.Proofs.YtmfbpkjhabdcgaaW.PrintLast Go.Proofs.YtmfbpkjhabdcgaaW.PrintMore
set_option linter.unusedVariables false
set_option linter.unusedSimpArgs false
attribute [local go_sem high] eqA142
theorem of_calls (a b c d : Int) (w : World) : Calls Try.prog 143 #[.agg #[.int .i64 a, .int .i64 b, .int .i64 c, .int .i64 d]] w fun e w' => e = .returned (.agg #[.int .i64 a, .int .i64 b, .int .i64 c]) ∧ Below w.heap.size w w' :=
  table_of.calls a b c d a b c w rfl
end Go.Proofs.Ytmfbpkjhabdcgaa.F
end
section
namespace Go.Proofs.Ytmfbpkjhabdcgaa.F
open Go.RowKit Go.Proofs.YtmfbpkjhabdcgaaW.PrintWords Go.Proofs.YtmfbpkjhabdcgaaW.PrintLast Go.Proofs.YtmfbpkjhabdcgaaW.PrintMore
set_option linter.unusedVariables false
set_option linter.unusedSimpArgs false
theorem call_wf {a b c d : Int} (h : call_Check.f 3 a b c d = some 0) : Wf3 a b c := by
  have hb : 0 ≤ a ∧ a ≤ 3 ∧ 0 ≤ b ∧ b < 64 ∧ 0 ≤ c ∧ c ≤ 8 := by
    unfold call_Check.f call_Check.j0 call_Check.j1 at h
    by_cases h1 : a < 1
    · simp [h1] at h
    · by_cases h2 : a > 3
      · simp [h1, h2] at h
      · simp [h1, h2] at h
        by_cases h3 : b < 0
        · simp [h3] at h
        · by_cases h4 : b ≥ 64
          · simp [h3, h4] at h
          · by_cases h5 : d < 0
            · simp [h3, h4, h5] at h
            · simp [h3, h4, h5] at h
              refine ⟨by omega, by omega, by omega, by omega, ?_⟩
              by_cases h6 : a = 3
              · simp [h6] at h
                by_cases h7 : c < 1
                · simp [h7] at h
                · by_cases h8 : 8 < c
                  · simp [h8] at h
                  · omega
              · simp [h6] at h
                by_cases h7 : c = 0
                · omega
                · simp [h7] at h
  refine ⟨?_, ?_, ?_⟩ <;> simp [Lit.wf, IntKind.min, IntKind.max, IntKind.signed, IntKind.bits] <;> omega
end Go.Proofs.Ytmfbpkjhabdcgaa.F
end
section
namespace Go.Proofs.Ytmfbpkjhabdcgaa.F
open Go.RowKit Go.Proofs.YtmfbpkjhabdcgaaW.PrintWords Go.Proofs.YtmfbpkjhabdcgaaW.PrintLast Go.Proofs.YtmfbpkjhabdcgaaW.PrintMore
set_option linter.unusedVariables false
set_option linter.unusedSimpArgs false
variable {ops : Array Oper} {rest : List Oper} {o : Oper} {a : Act} {Q : Exit → Act → World → Prop}
/-- 'seen[key] = true' at the operation. -/
theorem wpList_seen_put (w : World) (hg : o.guard = none) (m x v : Operand) (hop : o.op = Op.mapUpdate 179 m x v) (b : Nat) (L : List (Int × Int × Int)) (hs : Seen w b L) (y0 y1 y2 : Int) (hw : Wf3 y0 y1 y2) (hL : L.length < maxLen)
    (hm : a.eval m = .map (some b)) (hx : a.eval x = keyV y0 y1 y2) (hv : a.eval v = .bool true)
    (hK : ∀ w', Seen w' b ((y0, y1, y2) :: L) → w.grownBy w' (some b) → wpList Try.prog ops Q rest (a.put o.dst undef) w') : wpList Try.prog ops Q (o :: rest) a w := by
  refine wpList_plain hg fun K' hK' => ?_
  obtain ⟨w', hrun, r1, r2⟩ := seen_put hs hw hL
  unfold Oper.wp
  simp only [execOp, hop, hm, hx, hv, Sem.run_bind, hrun, Result.andThen]
  exact hK' _ _ (hK w' r1 r2)
end Go.Proofs.Ytmfbpkjhabdcgaa.F
end
section
namespace Go.Proofs.Ytmfbpkjhabdcgaa.F
open Go.RowKit Go.Proofs.YtmfbpkjhabdcgaaW.PrintWords Go.Proofs.YtmfbpkjhabdcgaaW.PrintLast Go.Proofs.YtmfbpkjhabdcgaaW.PrintMore
set_option linter.unusedVariables false
set_option linter.unusedSimpArgs false
theorem seen_lt {w : World} {b : Nat} {L : List (Int × Int × Int)} (h : Seen w b L) : b < w.heap.size := by
  obtain ⟨n, D, h1, h2, h3⟩ := h
  exact h2.lt
end Go.Proofs.Ytmfbpkjhabdcgaa.F
end
section
namespace Go.Proofs.Ytmfbpkjhabdcgaa.F
open Go.RowKit Go.Proofs.YtmfbpkjhabdcgaaW.PrintWords Go.Proofs.YtmfbpkjhabdcgaaW.PrintLast Go.Proofs.YtmfbpkjhabdcgaaW.PrintMore
set_option linter.unusedVariables false
set_option linter.unusedSimpArgs false
theorem Seen.drew {w : World} {b : Nat} {L : List (Int × Int × Int)} (h : Seen w b L) : Seen w.drew b L := by
  obtain ⟨n, D, h1, h2, h3⟩ := h
  exact ⟨n, D, h1, h2.drew, h3⟩
end Go.Proofs.Ytmfbpkjhabdcgaa.F
end
section
namespace Go.Proofs.Ytmfbpkjhabdcgaa.F
open Go.RowKit Go.Proofs.YtmfbpkjhabdcgaaW.PrintWords Go.Proofs.YtmfbpkjhabdcgaaW.PrintLast Go.Proofs.YtmfbpkjhabdcgaaW.PrintMore
set_option linter.unusedVariables false
set_option linter.unusedSimpArgs false
/-- The loop of table.Check: all: the table's calls; what is left of them; the number; the keys seen. -/
def tabRun (all : List S29) : List S29 → Nat → List (Int × Int × Int) → Option (Int × Int)
  | [], _, _ => some (0, 0)
  | x :: r, i, L => (call_Check.f 3 x.f0 x.f1 x.f2 x.f3).bind fun e => if e = 0 then (if i > 0 ∧ x.f3 < (rd_T29 all ((i : Int) - 1)).f3 then some (8, (i : Int)) else if (x.f0, x.f1, x.f2) ∈ L then some (7, (i : Int)) else tabRun all r (i + 1) ((x.f0, x.f1, x.f2) :: L)) else some (e, (i : Int))
end Go.Proofs.Ytmfbpkjhabdcgaa.F
end
section
namespace Go.Proofs.Ytmfbpkjhabdcgaa.F
open Go.RowKit Go.Proofs.YtmfbpkjhabdcgaaW.PrintWords Go.Proofs.YtmfbpkjhabdcgaaW.PrintLast Go.Proofs.YtmfbpkjhabdcgaaW.PrintMore
set_option linter.unusedVariables false
set_option linter.unusedSimpArgs false
def table_Check.f (a0_0 : Int) (l0_1 : List (S29)) : Option (Int × Int) :=
  if a0_0 < 1 then some (2, 0) else if a0_0 > 32 then some (2, 0) else if (l0_1.length : Int) > a0_0 then some (5, 0) else tabRun l0_1 l0_1 0 []
end Go.Proofs.Ytmfbpkjhabdcgaa.F
end
section
namespace Go.Proofs.Ytmfbpkjhabdcgaa.F
open Go.RowKit Go.Proofs.YtmfbpkjhabdcgaaW.PrintWords Go.Proofs.YtmfbpkjhabdcgaaW.PrintLast Go.Proofs.YtmfbpkjhabdcgaaW.PrintMore
set_option linter.unusedVariables false
set_option linter.unusedSimpArgs false
set_option maxHeartbeats 4000000 in
set_option maxRecDepth 100000 in
theorem table_Check.calls (a0_0 : Int) (A0_1 : Option Addr) (c0_1 : Nat) (l0_1 : List (S29)) (r1 : Int) (r2 : Int) (w : World) (hr0_1 : Kd.C k29 w A0_1 l0_1.length l0_1) (hc0_1 : l0_1.length ≤ c0_1) (h : table_Check.f a0_0 l0_1 = some (r1, r2)) :
    Calls Try.prog 128 #[.agg #[.int .i64 a0_0, .slice A0_1 l0_1.length c0_1]] w fun e w' => e = .returned (.tuple #[.int .i64 r1, .int .i64 r2]) ∧ Below w.heap.size w w' := by
  have hu25 := Try.underlying25
  have hu29 := Try.underlying29
  have HC := Aside0.mk hr0_1
  clear hr0_1
  unfold table_Check.f at h
  by_cases c1 : a0_0 < 1
  · rw [if_pos c1] at h
    simp only [Option.some.injEq, Prod.mk.injEq] at h
    obtain ⟨rfl, rfl⟩ := h
    have d1 : decide (a0_0 < 1) = true := decide_eq_true c1
    clear c1
    go_enter Try.func128, Try.ntmps128
    go_wp2_with ((with_reducible refine gate_dst (N := 1) rfl ?_); refine box_event ?hg (N := 1) ?hd (cs := #[.int .i64 a0_0, .slice A0_1 l0_1.length c0_1]) (t := 25) ?hr ?_; (case hd => rfl); (case hg => rfl); (case hr => first | (go_simp; done) | (go_simp; rfl)); intro gt hg_ w1 hx_ hb_; have HB1 := Aside0.mk hb_; have HX1 := Aside0.mk hx_; have HG1 := Aside0.mk (show w.heap.size ≤ gt by rw [hg_]; exact Nat.le_refl _); have r0 := (blk_cell hx_ 0).trans rfl; have r1 := (blk_cell hx_ 1).trans rfl; have rl := blk_lt hx_; clear hg_ hb_ hx_)
    refine bodyPost_ret (results_tmp2 rfl _ _ _) rfl ?_
    exact ⟨rfl, HB1.out⟩
  · rw [if_neg c1] at h
    have d1 : decide (a0_0 < 1) = false := decide_eq_false c1
    clear c1
    by_cases c2 : a0_0 > 32
    · rw [if_pos c2] at h
      simp only [Option.some.injEq, Prod.mk.injEq] at h
      obtain ⟨rfl, rfl⟩ := h
      have d2 : decide (32 < a0_0) = true := decide_eq_true c2
      clear c2
      go_enter Try.func128, Try.ntmps128
      go_wp2_with ((with_reducible refine gate_dst (N := 1) rfl ?_); refine box_event ?hg (N := 1) ?hd (cs := #[.int .i64 a0_0, .slice A0_1 l0_1.length c0_1]) (t := 25) ?hr ?_; (case hd => rfl); (case hg => rfl); (case hr => first | (go_simp; done) | (go_simp; rfl)); intro gt hg_ w1 hx_ hb_; have HB1 := Aside0.mk hb_; have HX1 := Aside0.mk hx_; have HG1 := Aside0.mk (show w.heap.size ≤ gt by rw [hg_]; exact Nat.le_refl _); have r0 := (blk_cell hx_ 0).trans rfl; have r1 := (blk_cell hx_ 1).trans rfl; have rl := blk_lt hx_; clear hg_ hb_ hx_)
      refine bodyPost_ret (results_tmp2 rfl _ _ _) rfl ?_
      exact ⟨rfl, HB1.out⟩
    · rw [if_neg c2] at h
      have d2 : decide (32 < a0_0) = false := decide_eq_false c2
      have hcap : a0_0 ≤ 32 := by omega
      clear c2
      by_cases c3 : (l0_1.length : Int) > a0_0
      · rw [if_pos c3] at h
        simp only [Option.some.injEq, Prod.mk.injEq] at h
        obtain ⟨rfl, rfl⟩ := h
        have d3 : decide (a0_0 < (l0_1.length : Int)) = true := decide_eq_true c3
        clear c3
        go_enter Try.func128, Try.ntmps128
        go_wp2_with ((with_reducible refine gate_dst (N := 1) rfl ?_); refine box_event ?hg (N := 1) ?hd (cs := #[.int .i64 a0_0, .slice A0_1 l0_1.length c0_1]) (t := 25) ?hr ?_; (case hd => rfl); (case hg => rfl); (case hr => first | (go_simp; done) | (go_simp; rfl)); intro gt hg_ w1 hx_ hb_; have HB1 := Aside0.mk hb_; have HX1 := Aside0.mk hx_; have HG1 := Aside0.mk (show w.heap.size ≤ gt by rw [hg_]; exact Nat.le_refl _); have r0 := (blk_cell hx_ 0).trans rfl; have r1 := (blk_cell hx_ 1).trans rfl; have rl := blk_lt hx_; clear hg_ hb_ hx_)
        refine bodyPost_ret (results_tmp2 rfl _ _ _) rfl ?_
        exact ⟨rfl, HB1.out⟩
      · rw [if_neg c3] at h
        have d3 : decide (a0_0 < (l0_1.length : Int)) = false := decide_eq_false c3
        have hlen : l0_1.length ≤ 32 := by omega
        clear c3
        have H' := Aside0.mk h
        have HL := Aside0.mk hlen
        have hmm := @run_makeMap Try.prog
        clear h hlen hcap
        go_enter Try.func128, Try.ntmps128
        go_wp2_with ((with_reducible refine gate_dst (N := 1) rfl ?_); refine box_event ?hg (N := 1) ?hd (cs := #[.int .i64 a0_0, .slice A0_1 l0_1.length c0_1]) (t := 25) ?hr ?_; (case hd => rfl); (case hg => rfl); (case hr => first | (go_simp; done) | (go_simp; rfl)); intro gt hg_ w1 hx_ hb_; have HB1 := Aside0.mk hb_; have HX1 := Aside0.mk hx_; have HG1 := Aside0.mk (show w.heap.size ≤ gt by rw [hg_]; exact Nat.le_refl _); have r0 := (blk_cell hx_ 0).trans rfl; have r1 := (blk_cell hx_ 1).trans rfl; have rl := blk_lt hx_; clear hg_ hb_ hx_)
        have HS0 := Aside0.mk (seen_made w1)
        have HX2 := Aside0.mk (blk_alloc HX1.out (.map #[] 0))
        have HB2 := Aside0.mk (HB1.out.alloc HB1.out.size (.map #[] 0))
        have HM := Aside0.mk (HB1.out.size)
        have HGM := Aside0.mk (show gt ≠ w1.heap.size from Nat.ne_of_lt rl)
        obtain ⟨mb, hmb⟩ : ∃ mb, mb = w1.heap.size := ⟨_, rfl⟩
        rw [← hmb] at HS0 HM HGM ⊢
        generalize w1.alloc (.map #[] 0) = w2 at HS0 HX2 HB2 ⊢
        clear r0 r1 rl HB1 HX1 hmb d1 d2 d3 hmm
        go_loopg [26] l0_1.length (fun gg v26 wr => ∃ (i : Nat) (L : List (Int × Int × Int)), v26 = .int .i64 i ∧ i ≤ l0_1.length ∧ l0_1.length - i ≤ gg ∧ L.length ≤ i ∧ Aside0 (tabRun l0_1 (l0_1.drop i) i L = some (r1, r2)) ∧ Aside0 (Seen wr mb L) ∧ Aside0 (wr.heap[gt]? = some (.cells #[.int .i64 a0_0, .slice A0_1 l0_1.length c0_1] 25 (0, 0))) ∧ Aside0 (Below w.heap.size w wr))
        case atStart => exact ⟨0, [], by go_num, Nat.zero_le _, by omega, Nat.le_refl _, H', HS0, HX2, HB2⟩
        case round =>
          obtain ⟨i, L, rfl, hi, hgg, hLi, HR, HS, HX, HB⟩ := hrel
          have hll := HL.out
          clear H' HS0 HX2 HB2
          by_cases hlt : i < l0_1.length
          · have hltz : (i : Int) < (l0_1.length : Int) := by omega
            obtain ⟨ad, hA, q0, q1, q2, q3⟩ := at_T29 (Kd.C_below HC.out HB.out) i (by omega) hltz
            subst hA
            simp only [Int.toNat_natCast] at q0 q1 q2 q3
            have H := HR.out
            rw [List.drop_eq_getElem_cons hlt, tabRun] at H
            have hel : l0_1[i] = rd_T29 l0_1 (i : Int) := by simp [rd_T29, List.getD_eq_getElem?_getD, List.getElem?_eq_getElem hlt]
            rw [hel] at H
            generalize (rd_T29 l0_1 (i : Int)).f0 = y0 at q0 H
            generalize (rd_T29 l0_1 (i : Int)).f1 = y1 at q1 H
            generalize (rd_T29 l0_1 (i : Int)).f2 = y2 at q2 H
            generalize (rd_T29 l0_1 (i : Int)).f3 = y3 at q3 H
            obtain ⟨e, he, H⟩ := Option.bind_eq_some_iff.mp H
            have HE := Aside0.mk he
            have HH := Aside0.mk H
            clear he H hel HR
            have hltd : decide ((i : Int) < (l0_1.length : Int)) = true := decide_eq_true hltz
            by_cases c0 : e = 0
            · subst c0
              have hw3 : Wf3 y0 y1 y2 := call_wf HE.out
              have H := HH.out
              rw [if_pos rfl] at H
              have HH := Aside0.mk H
              clear H
              go_upto_region 12 with (first | ((with_reducible refine gate_dst (N := 6) rfl ?_); refine box_event ?hg (N := 6) ?hd (cs := #[.int .i64 0, .int .i64 0, .int .i64 0, .int .i64 0]) (t := 29) ?hr ?_; (case hd => rfl); (case hg => rfl); (case hr => first | (go_simp; done) | (go_simp; rfl)); intro g6 hg_ w3 hx_ hb_; have HB3 := Aside0.mk (below_then HB.out HB.out.size hb_); have HK3 := Aside0.mk hx_; have HX3 := Aside0.mk (blk_below HX.out hb_); have HS3 := Aside0.mk (HS.out.kept (grown_of_below hb_ none) (fun e => by cases e)); have HG6 := Aside0.mk (show w.heap.size ≤ g6 by rw [hg_]; exact HB.out.size); have HN6 := Aside0.mk (show gt ≠ g6 by rw [hg_]; exact Nat.ne_of_lt (blk_lt HX.out)); have HM6 := Aside0.mk (show mb ≠ g6 by rw [hg_]; exact Nat.ne_of_lt (seen_lt HS.out)); clear hg_ hb_ hx_) | ((with_reducible refine gate_store (t := 29) (p := 6) (v := .tmp 30) rfl ?_); refine box_store rfl rfl 29 (.tmp 6) (.tmp 30) rfl [.int .i64 y0, .int .i64 y1, .int .i64 y2, .int .i64 y3] _ rfl rfl rfl (by rfl) (by simp [Value.oneCell']) HK3.out rfl ?_; intro w4 hbk hg4 hsz4; have HK4 := Aside0.mk hbk; have HB4 := Aside0.mk (HB3.out.grown hg4 HB3.out.size (fun k hk => by have := HG6.out; have h9 := Option.some.inj hk; omega)); have HX4 := Aside0.mk ((hg4.block gt (blk_lt HX3.out) (fun e => HN6.out (Option.some.inj e))).trans HX3.out); have HS4 := Aside0.mk (HS3.out.kept hg4 (fun e => HM6.out (Option.some.inj e))); have k0 := (blk_cell hbk 0).trans rfl; have k1 := (blk_cell hbk 1).trans rfl; have k2 := (blk_cell hbk 2).trans rfl; have k3 := (blk_cell hbk 3).trans rfl; clear hbk hg4 hsz4) | (go_at_call 139; refine (call_Check.calls 3 _ _ _ _ 0 _ HE.out).mono ?_; rintro e w5 ⟨rfl, hb_⟩; have HB5 := Aside0.mk (below_then HB4.out HB4.out.size hb_); have HK5 := Aside0.mk (blk_below HK4.out hb_); have HX5 := Aside0.mk (blk_below HX4.out hb_); have HS5 := Aside0.mk (HS4.out.kept (grown_of_below hb_ none) (fun e => by cases e)); have ra := (blk_cell HX5.out 0).trans rfl; have rb := (blk_cell HX5.out 1).trans rfl; have j0 := (blk_cell HK5.out 0).trans rfl; have j1 := (blk_cell HK5.out 1).trans rfl; have j2 := (blk_cell HK5.out 2).trans rfl; have j3 := (blk_cell HK5.out 3).trans rfl; clear hb_))
              (try simp only [Act.put, List.setIfInBounds_toArray, List.set_cons_zero, List.set_cons_succ])
              go_cut [38] (fun v38 wc => ∃ b : Bool, v38 = .bool b ∧ Aside0 ((if b = true then some (8, (i : Int)) else if (y0, y1, y2) ∈ L then some (7, (i : Int)) else tabRun l0_1 (l0_1.drop (i + 1)) (i + 1) ((y0, y1, y2) :: L)) = some (r1, r2)) ∧ Aside0 (Seen wc mb L) ∧ Aside0 (wc.heap[gt]? = some (.cells #[.int .i64 a0_0, .slice (some ad) l0_1.length c0_1] 25 (0, 0))) ∧ Aside0 (wc.heap[g6]? = some (.cells #[.int .i64 y0, .int .i64 y1, .int .i64 y2, .int .i64 y3] 29 (0, 0))) ∧ Aside0 (Below w.heap.size w wc))
              case first =>
                have H := HH.out
                by_cases hi0 : 0 < (i : Int)
                · have d0 : decide (0 < i) = true := decide_eq_true (by omega)
                  obtain ⟨jj, hjj⟩ : ∃ jj : Int, (i : Int) - 1 = jj := ⟨_, rfl⟩
                  have hw1 : IntKind.i64.wrap ((i : Int) - 1) = jj := by rw [i64_w, hjj]; unfold wrap64; omega
                  rw [hjj] at H
                  obtain ⟨ad2, hA2, z0, z1, z2, z3⟩ := at_T29 (Kd.C_below HC.out HB5.out) jj (by omega) (by omega)
                  cases hA2
                  generalize (rd_T29 l0_1 jj).f3 = y4 at z3 H
                  have p1 : decide (0 ≤ jj) = true := decide_eq_true (by omega)
                  have p2 : decide (jj < (l0_1.length : Int)) = true := decide_eq_true (by omega)
                  have p3 : 0 ≤ jj := by omega
                  have p4 : jj < (l0_1.length : Int) := by omega
                  replace p3 := eq_true p3
                  replace p4 := eq_true p4
                  have HF := Aside0.mk (show (if decide (y3 < y4) = true then some (8, (i : Int)) else if (y0, y1, y2) ∈ L then some (7, (i : Int)) else tabRun l0_1 (l0_1.drop (i + 1)) (i + 1) ((y0, y1, y2) :: L)) = some (r1, r2) by
                    by_cases hq : y3 < y4
                    · rw [if_pos (decide_eq_true hq)]; rw [if_pos (show i > 0 ∧ y3 < y4 from ⟨by omega, hq⟩)] at H; exact H
                    · rw [if_neg (by simpa using hq)]; rw [if_neg (show ¬ (i > 0 ∧ y3 < y4) from fun h => hq h.2)] at H; exact H)
                  clear H HH hjj hi0
                  have hmx : Try.prog.follows .mixedOrders = true := by kernel_rfl
                  go_region
                  all_goals go_wp2
                  go_meet
                  case rel => exact ⟨_, rfl, HF, ⟨HS5.out.drew⟩, ⟨blk_drew HX5.out⟩, ⟨blk_drew HK5.out⟩, ⟨below_drew1 HB5.out⟩⟩
                · have d0 : decide (0 < i) = false := decide_eq_false (by omega)
                  rw [if_neg (show ¬ (i > 0 ∧ y3 < (rd_T29 l0_1 ((i : Int) - 1)).f3) from fun h => hi0 (by omega))] at H
                  have HF := Aside0.mk (show (if false = true then some (8, (i : Int)) else if (y0, y1, y2) ∈ L then some (7, (i : Int)) else tabRun l0_1 (l0_1.drop (i + 1)) (i + 1) ((y0, y1, y2) :: L)) = some (r1, r2) by
                    rw [if_neg (by decide)]; exact H)
                  clear H HH hi0
                  have hmx : Try.prog.follows .mixedOrders = true := by kernel_rfl
                  go_region
                  all_goals go_wp2
                  go_meet
                  case rel => exact ⟨_, rfl, HF, ⟨HS5.out.drew⟩, ⟨blk_drew HX5.out⟩, ⟨blk_drew HK5.out⟩, ⟨below_drew1 HB5.out⟩⟩
              case rest =>
                obtain ⟨b, rfl, HR, HSc, HXc, HKc, HBc⟩ := hcut
                clear HH HS HX HB HS3 HS4 HS5 HX3 HX4 HX5 HK3 HK4 HK5 HB3 HB4 HB5 k0 k1 k2 k3 j0 j1 j2 j3 ra rb q0 q1 q2 q3
                by_cases hb : b = true
                · subst hb
                  have H := HR.out
                  rw [if_pos rfl] at H
                  simp only [Option.some.injEq, Prod.mk.injEq] at H
                  obtain ⟨rfl, rfl⟩ := H
                  clear HR
                  go_wp2
                  refine bodyPost_ret (results_tmp2 rfl _ _ _) rfl ?_
                  exact ⟨rfl, HBc.out⟩
                · have hb' : b = false := by simpa using hb
                  subst hb'
                  have H := HR.out
                  rw [if_neg (by decide)] at H
                  have k0 := (blk_cell HKc.out 0).trans rfl
                  have k1 := (blk_cell HKc.out 1).trans rfl
                  have k2 := (blk_cell HKc.out 2).trans rfl
                  have k3 := (blk_cell HKc.out 3).trans rfl
                  by_cases hmem : (y0, y1, y2) ∈ L
                  · rw [if_pos hmem] at H
                    have dm : decide ((y0, y1, y2) ∈ L) = true := decide_eq_true hmem
                    simp only [Option.some.injEq, Prod.mk.injEq] at H
                    obtain ⟨rfl, rfl⟩ := H
                    clear HR hb hmem
                    go_wp2_with (go_at_call 143; refine (of_calls _ _ _ _ _).mono ?_; rintro e w6 ⟨rfl, hb6⟩; have HB6 := Aside0.mk (below_then HBc.out HBc.out.size hb6); have hlk := (seen_lookup (HSc.out.kept (grown_of_below hb6 none) (fun e => by cases e)) hw3 (Try.zeroValue4 _)).trans (by rw [dm]); clear hb6)
                    refine bodyPost_ret (results_tmp2 rfl _ _ _) rfl ?_
                    exact ⟨rfl, HB6.out⟩
                  · rw [if_neg hmem] at H
                    have dm : decide ((y0, y1, y2) ∈ L) = false := decide_eq_false hmem
                    have HR2 := Aside0.mk H
                    clear H HR hb hmem
                    have hLm : L.length < maxLen := by unfold maxLen; omega
                    go_wp2_with (first | (go_at_call 143; refine (of_calls _ _ _ _ _).mono ?_; rintro e w6 ⟨rfl, hb6⟩; first | (have HB7 := Aside0.mk (below_then HB6.out HB6.out.size hb6); have HX7 := Aside0.mk (blk_below HX6.out hb6); have HS7 := Aside0.mk (HS6.out.kept (grown_of_below hb6 none) (fun e => by cases e)); clear hb6) | (have HB6 := Aside0.mk (below_then HBc.out HBc.out.size hb6); have HX6 := Aside0.mk (blk_below HXc.out hb6); have HS6 := Aside0.mk (HSc.out.kept (grown_of_below hb6 none) (fun e => by cases e)); have hlk := (seen_lookup HS6.out hw3 (Try.zeroValue4 _)).trans (by rw [dm]); have HK6 := Aside0.mk (blk_below HKc.out hb6); have u0 := (blk_cell HK6.out 0).trans rfl; have u1 := (blk_cell HK6.out 1).trans rfl; have u2 := (blk_cell HK6.out 2).trans rfl; have u3 := (blk_cell HK6.out 3).trans rfl; clear hb6)) | (at_mapUpdate; refine wpList_seen_put _ rfl _ _ _ rfl mb L HS7.out y0 y1 y2 hw3 hLm rfl rfl rfl ?_; intro w8 hs8 hg8; have HS8 := Aside0.mk hs8; have HX8 := Aside0.mk ((hg8.block gt (blk_lt HX7.out) (fun e => HGM.out (Option.some.inj e))).trans HX7.out); have HB8 := Aside0.mk (HB7.out.grown hg8 HB7.out.size (fun k hk => by have := HM.out; have h9 := Option.some.inj hk; omega)); clear hs8 hg8))
                    go_roundg (l0_1.length - (i + 1))
                    · exact ⟨i + 1, (y0, y1, y2) :: L, by go_num, by omega, Nat.le_refl _, by simp; omega, HR2, HS8, HX8, HB8⟩
                    · omega
            · have H := HH.out
              rw [if_neg c0] at H
              simp only [Option.some.injEq, Prod.mk.injEq] at H
              obtain ⟨rfl, rfl⟩ := H
              have d1 : (e != 0) = true := bne_iff_ne.mpr c0
              clear c0
              go_wp2_with (first | ((with_reducible refine gate_dst (N := 6) rfl ?_); refine box_event ?hg (N := 6) ?hd (cs := #[.int .i64 0, .int .i64 0, .int .i64 0, .int .i64 0]) (t := 29) ?hr ?_; (case hd => rfl); (case hg => rfl); (case hr => first | (go_simp; done) | (go_simp; rfl)); intro g6 hg_ w3 hx_ hb_; have HB3 := Aside0.mk (below_then HB.out HB.out.size hb_); have HK3 := Aside0.mk hx_; have HX3 := Aside0.mk (blk_below HX.out hb_); have HS3 := Aside0.mk (HS.out.kept (grown_of_below hb_ none) (fun e => by cases e)); have HG6 := Aside0.mk (show w.heap.size ≤ g6 by rw [hg_]; exact HB.out.size); have HN6 := Aside0.mk (show gt ≠ g6 by rw [hg_]; exact Nat.ne_of_lt (blk_lt HX.out)); clear hg_ hb_ hx_) | ((with_reducible refine gate_store (t := 29) (p := 6) (v := .tmp 30) rfl ?_); refine box_store rfl rfl 29 (.tmp 6) (.tmp 30) rfl [.int .i64 y0, .int .i64 y1, .int .i64 y2, .int .i64 y3] _ rfl rfl rfl (by rfl) (by simp [Value.oneCell']) HK3.out rfl ?_; intro w4 hbk hg4 hsz4; have HK4 := Aside0.mk hbk; have HB4 := Aside0.mk (HB3.out.grown hg4 HB3.out.size (fun k hk => by have := HG6.out; have h9 := Option.some.inj hk; omega)); have HX4 := Aside0.mk ((hg4.block gt (blk_lt HX3.out) (fun e => HN6.out (Option.some.inj e))).trans HX3.out); have k0 := (blk_cell hbk 0).trans rfl; have k1 := (blk_cell hbk 1).trans rfl; have k2 := (blk_cell hbk 2).trans rfl; have k3 := (blk_cell hbk 3).trans rfl; have HG4 := Aside0.mk hg4; clear hbk hg4 hsz4) | (go_at_call 139; refine (call_Check.calls 3 _ _ _ _ e _ HE.out).mono ?_; rintro e w5 ⟨rfl, hb_⟩; have HB5 := Aside0.mk (below_then HB4.out HB4.out.size hb_); have HK5 := Aside0.mk (blk_below HK4.out hb_); have HX5 := Aside0.mk (blk_below HX4.out hb_); have HBB := Aside0.mk hb_; clear hb_))
              refine bodyPost_ret (results_tmp2 rfl _ _ _) rfl ?_
              exact ⟨rfl, HB5.out⟩
          · have hltz : ¬ (i : Int) < (l0_1.length : Int) := by omega
            have hie : i = l0_1.length := by omega
            have H := HR.out
            rw [List.drop_eq_nil_iff.2 (by omega), tabRun] at H
            simp only [Option.some.injEq, Prod.mk.injEq] at H
            obtain ⟨rfl, rfl⟩ := H
            have hltd : decide ((i : Int) < (l0_1.length : Int)) = false := decide_eq_false hltz
            clear hie
            go_wp2
            all_goals refine bodyPost_ret (results_tmp2 rfl _ _ _) rfl ?_
            exact ⟨rfl, HB.out⟩

end Go.Proofs.Ytmfbpkjhabdcgaa.F
end
