/- Part 1 of PickApart: what the functions reckon, step by step, and plain laws. No condition. -/
import Derived.Test.YtmfbpkjhabdcgaaKA28x7
section
-- Written by fork.py (this session's program over the kit's print.py). Not trusted: Lean checks it.
namespace Go.Proofs.Ytmfbpkjhabdcgaa.F
open Go.RowKit Go.Proofs.YtmfbpkjhabdcgaaW.PrintWords Go.Proofs.YtmfbpkjhabdcgaaW.PrintLast Go.Proofs.YtmfbpkjhabdcgaaW.PrintMore
attribute [local go_sem] max2_int min2_int max_two min_two max_three min_three max_four min_four
set_option linter.unusedVariables false
set_option linter.unusedSimpArgs false

attribute [local go_sem high] eqA29
/-! ### L28_in: function 58 -/
def L28_in.l0 : Nat → List (S29) → Int → Int → Int → Int → Int → Option (Bool)
  | 0, _, _, _, _, _, _ => none
  | k + 1, x1, x5, x917000, x917001, x917002, x917003 => if x5 < (x1.length : Int) then (if 0 ≤ x5 then (if (((rd_T29 x1 x5).f0) == x917000 && (((rd_T29 x1 x5).f1) == x917001 && (((rd_T29 x1 x5).f2) == x917002 && (((rd_T29 x1 x5).f3) == x917003)))) = true then (some true) else (L28_in.l0 k x1 (wrap64 (x5 + 1)) x917000 x917001 x917002 x917003)) else (none)) else (some false)
def L28_in.f (k : Nat) (a0_0 : Int) (a0_1 : Int) (a0_2 : Int) (a0_3 : Int) (l1 : List (S29)) : Option (Bool) := L28_in.l0 k l1 0 a0_0 a0_1 a0_2 a0_3
theorem L28_in.mono_l : ∀ k, (∀ y0 y1 y2 y3 y4 y5, LeO (L28_in.l0 k y0 y1 y2 y3 y4 y5) (L28_in.l0 (k + 1) y0 y1 y2 y3 y4 y5))
  | 0 => fun _ _ _ _ _ _ r h => by simp [L28_in.l0] at h
  | k + 1 => by
    have ih0 := L28_in.mono_l k
    · intro y0 y1 y2 y3 y4 y5
      unfold L28_in.l0
      repeat' first
      | (with_reducible exact ih0 _ _ _ _ _ _)
      | (with_reducible exact LeO.refl _)
      | (with_reducible exact LeO.none _)
      | (with_reducible refine LeO.ite ?_ ?_)
      | (with_reducible refine LeO.bind ?_ (fun _ => ?_))
      | exact ih0 _ _ _ _ _ _
      | exact LeO.none _
      | refine LeO.ite ?_ ?_
      | refine LeO.bind ?_ (fun _ => ?_)
theorem L28_in.mono : ∀ a0 a1 a2 a3 a4 k, LeO (L28_in.f k a0 a1 a2 a3 a4) (L28_in.f (k + 1) a0 a1 a2 a3 a4) := by
  intro a0 a1 a2 a3 a4 k
  have ih0 := L28_in.mono_l k
  unfold L28_in.f
  repeat' first
      | (with_reducible exact ih0 _ _ _ _ _ _)
      | (with_reducible exact LeO.refl _)
      | (with_reducible exact LeO.none _)
      | (with_reducible refine LeO.ite ?_ ?_)
      | (with_reducible refine LeO.bind ?_ (fun _ => ?_))
      | exact ih0 _ _ _ _ _ _
      | exact LeO.none _
      | refine LeO.ite ?_ ?_
      | refine LeO.bind ?_ (fun _ => ?_)
set_option maxHeartbeats 8000000 in
set_option maxRecDepth 100000 in
theorem L28_in.calls (k : Nat) (a0_0 : Int) (a0_1 : Int) (a0_2 : Int) (a0_3 : Int) (A1 : Option Addr) (c1 : Nat) (l1 : List (S29)) (r : Bool) (w : World) (hr1 : Kd.C k29 w A1 l1.length l1) (hc1 : l1.length ≤ c1) (h : L28_in.f k a0_0 a0_1 a0_2 a0_3 l1 = some r) :
    Calls Try.prog 58 #[.agg #[.int .i64 a0_0, .int .i64 a0_1, .int .i64 a0_2, .int .i64 a0_3], .slice A1 l1.length c1] w fun e w' => e = .returned (.bool r) ∧ Below w.heap.size w w' := by
  have hu29 := Try.underlying29
  have HR1 := Aside0.mk hr1
  have HC1 := Aside0.mk hc1
  clear hr1 hc1
  have HB := Aside0.mk (Below.refl w.heap.size w)
  have H : (L28_in.l0 k l1 0 a0_0 a0_1 a0_2 a0_3) = some r := h
  clear h
  have H' := Aside0.mk H
  clear H
  go_enter Try.func58, Try.ntmps58
  go_wp2_with (first | ((with_reducible refine gate_dst (N := 2) rfl ?_); refine box_event ?hg (N := 2) ?hd (cs := #[.int .i64 a0_0, .int .i64 a0_1, .int .i64 a0_2, .int .i64 a0_3]) (t := 29) ?hr ?_; (case hd => rfl); (case hg => rfl); (case hr => first | (go_simp; done) | (go_simp; rfl)); intro gb916 hg w3 hbox hb; have n0_ := Aside0.mk (below_step (by repeat (first | (with_reducible first | exact HB.out | apply below_alloc | apply pw_below_drewN | apply below_drew1) | exact HB.out)) hb); have n1_ := Aside0.mk (hbox); have n2_ := Aside0.mk ((by rw [hg]; exact (below_size (by repeat (first | (with_reducible first | exact HB.out | apply below_alloc | apply pw_below_drewN | apply below_drew1) | exact HB.out))) : w.heap.size ≤ gb916)); have n3_ := Aside0.mk ((by rw [hg]; exact (below_size (by repeat (first | (with_reducible first | exact HB.out | apply below_alloc | apply pw_below_drewN | apply below_drew1) | exact HB.out))) : w.heap.size ≤ gb916)); clear HB; have HB := n0_; have BK916 := n1_; have GW916 := n2_; have GE916 := n3_; clear n0_ n1_ n2_ n3_; clear hb hbox hg))
  repeat (go_quiet (first | ((with_reducible refine gate_dst (N := 2) rfl ?_); refine box_event ?hg (N := 2) ?hd (cs := #[.int .i64 a0_0, .int .i64 a0_1, .int .i64 a0_2, .int .i64 a0_3]) (t := 29) ?hr ?_; (case hd => rfl); (case hg => rfl); (case hr => first | (go_simp; done) | (go_simp; rfl)); intro gb916 hg w3 hbox hb; have n0_ := Aside0.mk (below_step (by repeat (first | (with_reducible first | exact HB.out | apply below_alloc | apply pw_below_drewN | apply below_drew1) | exact HB.out)) hb); have n1_ := Aside0.mk (hbox); have n2_ := Aside0.mk ((by rw [hg]; exact (below_size (by repeat (first | (with_reducible first | exact HB.out | apply below_alloc | apply pw_below_drewN | apply below_drew1) | exact HB.out))) : w.heap.size ≤ gb916)); have n3_ := Aside0.mk ((by rw [hg]; exact (below_size (by repeat (first | (with_reducible first | exact HB.out | apply below_alloc | apply pw_below_drewN | apply below_drew1) | exact HB.out))) : w.heap.size ≤ gb916)); clear HB; have HB := n0_; have BK916 := n1_; have GW916 := n2_; have GE916 := n3_; clear n0_ n1_ n2_ n3_; clear hb hbox hg)); try go_wp2_with (first | ((with_reducible refine gate_dst (N := 2) rfl ?_); refine box_event ?hg (N := 2) ?hd (cs := #[.int .i64 a0_0, .int .i64 a0_1, .int .i64 a0_2, .int .i64 a0_3]) (t := 29) ?hr ?_; (case hd => rfl); (case hg => rfl); (case hr => first | (go_simp; done) | (go_simp; rfl)); intro gb916 hg w3 hbox hb; have n0_ := Aside0.mk (below_step (by repeat (first | (with_reducible first | exact HB.out | apply below_alloc | apply pw_below_drewN | apply below_drew1) | exact HB.out)) hb); have n1_ := Aside0.mk (hbox); have n2_ := Aside0.mk ((by rw [hg]; exact (below_size (by repeat (first | (with_reducible first | exact HB.out | apply below_alloc | apply pw_below_drewN | apply below_drew1) | exact HB.out))) : w.heap.size ≤ gb916)); have n3_ := Aside0.mk ((by rw [hg]; exact (below_size (by repeat (first | (with_reducible first | exact HB.out | apply below_alloc | apply pw_below_drewN | apply below_drew1) | exact HB.out))) : w.heap.size ≤ gb916)); clear HB; have HB := n0_; have BK916 := n1_; have GW916 := n2_; have GE916 := n3_; clear n0_ n1_ n2_ n3_; clear hb hbox hg)))
  go_loopg [5] k (fun kq v5 w' => ∃ (x5_1 : Int), v5 = .int .i64 x5_1 ∧ Aside0 (L28_in.l0 kq l1 x5_1 a0_0 a0_1 a0_2 a0_3 = some r) ∧ Aside0 (kq ≤ k) ∧ Aside0 (w'.heap[gb916]? = some (.cells #[.int .i64 a0_0, .int .i64 a0_1, .int .i64 a0_2, .int .i64 a0_3] 29 (0, 0))) ∧ Aside0 (Below w.heap.size w w'))
  case atStart => exact ⟨(0), (by first | rfl | (simp; done) | (simp [*]; done)), H', ⟨Nat.le_refl _⟩, ⟨by (with_reducible repeat (first | refine blk_drewN ?_ _ | refine blk_drew ?_ | refine blk_alloc ?_ _)); exact BK916.out⟩, ⟨by repeat (first | (with_reducible first | exact HB.out | apply below_alloc | apply pw_below_drewN | apply below_drew1 | refine below_set ?_ GE916.out) | exact HB.out)⟩⟩
  case round =>
    clear H'
    try clear c1
    try clear p2
    obtain ⟨x5_1, rfl, HA, HK1, BK916, HB⟩ := hrel
    cases gk with
    | zero => exact absurd HA.out (by simp [L28_in.l0])
    | succ k1 =>
      have H := HA.out
      clear HA
      simp only [L28_in.l0] at H
      by_cases c4 : x5_1 < (l1.length : Int)
      · rw [if_pos c4] at H
        have c4b0 : decide (x5_1 < (l1.length : Int)) = true := decide_eq_true c4
        clear c4
        by_cases c5 : 0 ≤ x5_1
        rotate_left
        · rw [if_neg c5] at H
          exact absurd H (by simp)
        rw [if_pos c5] at H
        have c5b0 : decide (0 ≤ x5_1) = true := decide_eq_true c5
        clear c5
        by_cases c6 : (((rd_T29 l1 x5_1).f0) == a0_0 && (((rd_T29 l1 x5_1).f1) == a0_1 && (((rd_T29 l1 x5_1).f2) == a0_2 && (((rd_T29 l1 x5_1).f3) == a0_3)))) = true
        · rw [if_pos c6] at H
          have c6b0 : (((rd_T29 l1 x5_1).f0) == a0_0 && (((rd_T29 l1 x5_1).f1) == a0_1 && (((rd_T29 l1 x5_1).f2) == a0_2 && (((rd_T29 l1 x5_1).f3) == a0_3)))) = true := c6
          (try (have c6b1 : decide (((rd_T29 l1 x5_1).f0) = a0_0 && (((rd_T29 l1 x5_1).f1) == a0_1 && (((rd_T29 l1 x5_1).f2) == a0_2 && (((rd_T29 l1 x5_1).f3) == a0_3)))) = true := by simpa using c6))
          (try (have c6b2 : (((rd_T29 l1 x5_1).f0) == a0_0 && (((rd_T29 l1 x5_1).f1) == a0_1 && (((rd_T29 l1 x5_1).f2) == a0_2 && (((rd_T29 l1 x5_1).f3) == a0_3)))) = true := by simpa using c6))
          clear c6
          obtain rfl := Option.some.inj H
          have p917 : 0 ≤ (x5_1 : Int) := of_decide_eq_true (by first | (with_reducible assumption) | assumption)
          have q917 : x5_1 < (l1.length : Int) := of_decide_eq_true (by first | (with_reducible assumption) | assumption)
          obtain ⟨ad917, e917, hx917_0, hx917_1, hx917_2, hx917_3⟩ := at_T29 HR1.out x5_1 p917 q917
          cases e917
          replace hx917_0 := (HB.out.cell (World.block_lt_of_cell? w _ hx917_0)).trans hx917_0
          replace hx917_1 := (HB.out.cell (World.block_lt_of_cell? w _ hx917_1)).trans hx917_1
          replace hx917_2 := (HB.out.cell (World.block_lt_of_cell? w _ hx917_2)).trans hx917_2
          replace hx917_3 := (HB.out.cell (World.block_lt_of_cell? w _ hx917_3)).trans hx917_3
          replace p917 := eq_true p917
          replace q917 := eq_true q917
          have hcz7_0 : wr.cell? ⟨gb916, 0, none⟩ = some (.int .i64 a0_0) := (blk_cell BK916.out 0).trans rfl
          have hcz7_1 : wr.cell? ⟨gb916, 1, none⟩ = some (.int .i64 a0_1) := (blk_cell BK916.out 1).trans rfl
          have hcz7_2 : wr.cell? ⟨gb916, 2, none⟩ = some (.int .i64 a0_2) := (blk_cell BK916.out 2).trans rfl
          have hcz7_3 : wr.cell? ⟨gb916, 3, none⟩ = some (.int .i64 a0_3) := (blk_cell BK916.out 3).trans rfl
          have hfz7_0 := blk_frozen BK916.out 0
          have hfz7_1 := blk_frozen BK916.out 1
          have hfz7_2 := blk_frozen BK916.out 2
          have hfz7_3 := blk_frozen BK916.out 3
          go_wp2
          repeat (go_quiet (fail); try go_wp2)
          all_goals go_ret
          all_goals exact ⟨by first | rfl | (simp [errW_none, errW_some] <;> rfl) | (simp [*, errW_none, errW_some] <;> rfl), by repeat (first | (with_reducible first | exact HB.out | apply below_alloc | apply pw_below_drewN | apply below_drew1 | refine below_set ?_ GE916.out) | exact HB.out)⟩
        · rw [if_neg c6] at H
          have c6b0 : (((rd_T29 l1 x5_1).f0) == a0_0 && (((rd_T29 l1 x5_1).f1) == a0_1 && (((rd_T29 l1 x5_1).f2) == a0_2 && (((rd_T29 l1 x5_1).f3) == a0_3)))) = false := by simpa using c6
          (try (have c6b1 : decide (((rd_T29 l1 x5_1).f0) = a0_0 && (((rd_T29 l1 x5_1).f1) == a0_1 && (((rd_T29 l1 x5_1).f2) == a0_2 && (((rd_T29 l1 x5_1).f3) == a0_3)))) = false := by simpa using c6))
          (try (have c6b2 : (((rd_T29 l1 x5_1).f0) == a0_0 && (((rd_T29 l1 x5_1).f1) == a0_1 && (((rd_T29 l1 x5_1).f2) == a0_2 && (((rd_T29 l1 x5_1).f3) == a0_3)))) = false := by simpa using c6))
          (try (have c6b3 : ¬ (((rd_T29 l1 x5_1).f0) = a0_0 && (((rd_T29 l1 x5_1).f1) == a0_1 && (((rd_T29 l1 x5_1).f2) == a0_2 && (((rd_T29 l1 x5_1).f3) == a0_3)))) := by simpa using c6))
          clear c6
          have H' := Aside0.mk H
          clear H
          have p917 : 0 ≤ (x5_1 : Int) := of_decide_eq_true (by first | (with_reducible assumption) | assumption)
          have q917 : x5_1 < (l1.length : Int) := of_decide_eq_true (by first | (with_reducible assumption) | assumption)
          obtain ⟨ad917, e917, hx917_0, hx917_1, hx917_2, hx917_3⟩ := at_T29 HR1.out x5_1 p917 q917
          cases e917
          replace hx917_0 := (HB.out.cell (World.block_lt_of_cell? w _ hx917_0)).trans hx917_0
          replace hx917_1 := (HB.out.cell (World.block_lt_of_cell? w _ hx917_1)).trans hx917_1
          replace hx917_2 := (HB.out.cell (World.block_lt_of_cell? w _ hx917_2)).trans hx917_2
          replace hx917_3 := (HB.out.cell (World.block_lt_of_cell? w _ hx917_3)).trans hx917_3
          replace p917 := eq_true p917
          replace q917 := eq_true q917
          have hcz8_0 : wr.cell? ⟨gb916, 0, none⟩ = some (.int .i64 a0_0) := (blk_cell BK916.out 0).trans rfl
          have hcz8_1 : wr.cell? ⟨gb916, 1, none⟩ = some (.int .i64 a0_1) := (blk_cell BK916.out 1).trans rfl
          have hcz8_2 : wr.cell? ⟨gb916, 2, none⟩ = some (.int .i64 a0_2) := (blk_cell BK916.out 2).trans rfl
          have hcz8_3 : wr.cell? ⟨gb916, 3, none⟩ = some (.int .i64 a0_3) := (blk_cell BK916.out 3).trans rfl
          have hfz8_0 := blk_frozen BK916.out 0
          have hfz8_1 := blk_frozen BK916.out 1
          have hfz8_2 := blk_frozen BK916.out 2
          have hfz8_3 := blk_frozen BK916.out 3
          go_wp2
          repeat (go_quiet (fail); try go_wp2)
          go_roundg k1
          case measure => have := HK1.out; omega
          case rel => exact ⟨(wrap64 (x5_1 + 1)), (by first | rfl | (simp; done) | (simp [*]; done)), H', ⟨by have := HK1.out; omega⟩, ⟨by (with_reducible repeat (first | refine blk_drewN ?_ _ | refine blk_drew ?_ | refine blk_alloc ?_ _)); exact BK916.out⟩, ⟨by repeat (first | (with_reducible first | exact HB.out | apply below_alloc | apply pw_below_drewN | apply below_drew1 | refine below_set ?_ GE916.out) | exact HB.out)⟩⟩
      · rw [if_neg c4] at H
        have c4b0 : decide (x5_1 < (l1.length : Int)) = false := decide_eq_false c4
        clear c4
        obtain rfl := Option.some.inj H
        go_wp2
        repeat (go_quiet (fail); try go_wp2)
        all_goals go_ret
        all_goals exact ⟨by first | rfl | (simp [errW_none, errW_some] <;> rfl) | (simp [*, errW_none, errW_some] <;> rfl), by repeat (first | (with_reducible first | exact HB.out | apply below_alloc | apply pw_below_drewN | apply below_drew1 | refine below_set ?_ GE916.out) | exact HB.out)⟩


end Go.Proofs.Ytmfbpkjhabdcgaa.F
end
section
-- Written by fork.py (this session's program over the kit's print.py). Not trusted: Lean checks it.
namespace Go.Proofs.Ytmfbpkjhabdcgaa.F
open Go.RowKit Go.Proofs.YtmfbpkjhabdcgaaW.PrintWords Go.Proofs.YtmfbpkjhabdcgaaW.PrintLast Go.Proofs.YtmfbpkjhabdcgaaW.PrintMore
attribute [local go_sem] max2_int min2_int max_two min_two max_three min_three max_four min_four
set_option linter.unusedVariables false
set_option linter.unusedSimpArgs false

/-! ### L28_PickApart: function 10 -/
mutual
def L28_PickApart.l0 : Nat → Int → Int → List (S29) → Int → Int → Int → Int → Int → Int → Int → Int → Int → List (S29) → Option (Bool)
  | 0, _, _, _, _, _, _, _, _, _, _, _, _, _ => none
  | k + 1, x9, x935000, x935001, x936000, x936001, x936002, x936003, x936004, x936005, x936006, x936007, x936008, x936009 => if x9 ≤ 8 then ((pick_By.f k x935000 x935001 x9 x936001 x936002 x936003 x936004 x936005 x936006 x936007 x936008 x936009).bind fun bt937 => (if bt937.2.2.2.2.2 = 0 then (if bt937.2.2.2.2.1 = true then ((L28_hall.f bt937.1 bt937.2.1 bt937.2.2.1 bt937.2.2.2.1).bind fun t944 => (L28_PickApart.j1 k x9 (!t944) x935000 x935001 x9 x936001 x936002 x936003 x936004 x936005 x936006 x936007 x936008 x936009 bt937.1 bt937.2.1 bt937.2.2.1 bt937.2.2.2.1)) else (L28_PickApart.j1 k x9 true x935000 x935001 x9 x936001 x936002 x936003 x936004 x936005 x936006 x936007 x936008 x936009 bt937.1 bt937.2.1 bt937.2.2.1 bt937.2.2.2.1)) else (some false))) else ((L28_awake.f k).bind fun t936 => (some t936))
def L28_PickApart.j1 : Nat → Int → Bool → Int → List (S29) → Int → Int → Int → Int → Int → Int → Int → Int → Int → List (S29) → Int → Int → Int → Int → Option (Bool)
  | 0, _, _, _, _, _, _, _, _, _, _, _, _, _, _, _, _, _, _ => none
  | k + 1, x9, x47, x935000, x935001, x936000, x936001, x936002, x936003, x936004, x936005, x936006, x936007, x936008, x936009, x944000, x944001, x944002, x944003 => if x47 = true then (L28_PickApart.l0 k (wrap64 (x9 + 1)) x935000 x935001 x936000 x936001 x936002 x936003 x936004 x936005 x936006 x936007 x936008 x936009) else ((L28_in.f k x944000 x944001 x944002 x944003 x936009).bind fun t945 => (if t945 = true then (L28_PickApart.j2 k x9 (decide ((wrap64 (x936003 - x944003)) < x936004)) x935000 x935001 x936000 x936001 x936002 x936003 x936004 x936005 x936006 x936007 x936008 x936009 x944000 x944001 x944002 x944003) else (L28_PickApart.j2 k x9 false x935000 x935001 x936000 x936001 x936002 x936003 x936004 x936005 x936006 x936007 x936008 x936009 x944000 x944001 x944002 x944003)))
def L28_PickApart.j2 : Nat → Int → Bool → Int → List (S29) → Int → Int → Int → Int → Int → Int → Int → Int → Int → List (S29) → Int → Int → Int → Int → Option (Bool)
  | 0, _, _, _, _, _, _, _, _, _, _, _, _, _, _, _, _, _, _ => none
  | k + 1, x9, x61, x935000, x935001, x936000, x936001, x936002, x936003, x936004, x936005, x936006, x936007, x936008, x936009, x944000, x944001, x944002, x944003 => if x61 = true then (some false) else ((L28_in.f k x944000 x944001 x944002 x944003 x936009).bind fun t946 => (if t946 = true then (L28_PickApart.l0 k (wrap64 (x9 + 1)) x935000 x935001 x936000 x936001 x936002 x936003 x936004 x936005 x936006 x936007 x936008 x936009) else (if x936009.length < 4398046511104 then (L28_PickApart.l0 k (wrap64 (x9 + 1)) x935000 x935001 x936000 x936001 x936002 x936003 x936004 x936005 x936006 x936007 x936008 (x936009 ++ [(⟨x944000, x944001, x944002, x944003⟩ : S29)])) else (none))))
end
def L28_PickApart.f (k : Nat) (l0 : List Int) (a1 : Int) (a2 : Int) : Option (Bool) := (L28_made.f k l0 a1 a2).bind fun bt918 => (L28_PickApart.l0 k 1 bt918.1 bt918.2.1 bt918.2.2.1 0 (wrap64 ((wrap64 (Int.tdiv bt918.2.2.2.2.1 2)) * 2)) bt918.2.2.2.2.2.1 bt918.2.2.2.2.2.2.1 bt918.2.2.2.2.2.2.2.1 bt918.2.2.2.2.2.2.2.2.1 bt918.2.2.2.2.2.2.2.2.2.1 bt918.2.2.2.2.2.2.2.2.2.2.1 bt918.2.2.2.2.2.2.2.2.2.2.2)
theorem L28_PickApart.mono_l : ∀ k, (∀ y0 y1 y2 y3 y4 y5 y6 y7 y8 y9 y10 y11 y12, LeO (L28_PickApart.l0 k y0 y1 y2 y3 y4 y5 y6 y7 y8 y9 y10 y11 y12) (L28_PickApart.l0 (k + 1) y0 y1 y2 y3 y4 y5 y6 y7 y8 y9 y10 y11 y12)) ∧ (∀ y0 y1 y2 y3 y4 y5 y6 y7 y8 y9 y10 y11 y12 y13 y14 y15 y16 y17, LeO (L28_PickApart.j1 k y0 y1 y2 y3 y4 y5 y6 y7 y8 y9 y10 y11 y12 y13 y14 y15 y16 y17) (L28_PickApart.j1 (k + 1) y0 y1 y2 y3 y4 y5 y6 y7 y8 y9 y10 y11 y12 y13 y14 y15 y16 y17)) ∧ (∀ y0 y1 y2 y3 y4 y5 y6 y7 y8 y9 y10 y11 y12 y13 y14 y15 y16 y17, LeO (L28_PickApart.j2 k y0 y1 y2 y3 y4 y5 y6 y7 y8 y9 y10 y11 y12 y13 y14 y15 y16 y17) (L28_PickApart.j2 (k + 1) y0 y1 y2 y3 y4 y5 y6 y7 y8 y9 y10 y11 y12 y13 y14 y15 y16 y17))
  | 0 => ⟨fun _ _ _ _ _ _ _ _ _ _ _ _ _ r h => by simp [L28_PickApart.l0] at h, fun _ _ _ _ _ _ _ _ _ _ _ _ _ _ _ _ _ _ r h => by simp [L28_PickApart.j1] at h, fun _ _ _ _ _ _ _ _ _ _ _ _ _ _ _ _ _ _ r h => by simp [L28_PickApart.j2] at h⟩
  | k + 1 => by
    obtain ⟨ih0, ih1, ih2⟩ := L28_PickApart.mono_l k
    refine ⟨?_, ?_, ?_⟩
    · intro y0 y1 y2 y3 y4 y5 y6 y7 y8 y9 y10 y11 y12
      unfold L28_PickApart.l0
      repeat' first
      | (with_reducible exact ih0 _ _ _ _ _ _ _ _ _ _ _ _ _)
      | (with_reducible exact ih1 _ _ _ _ _ _ _ _ _ _ _ _ _ _ _ _ _ _)
      | (with_reducible exact ih2 _ _ _ _ _ _ _ _ _ _ _ _ _ _ _ _ _ _)
      | (with_reducible exact L28_awake.mono _)
      | (with_reducible exact L28_in.mono _ _ _ _ _ _)
      | (with_reducible exact L28_made.mono _ _ _ _)
      | (with_reducible exact pick_By.mono _ _ _ _ _ _ _ _ _ _ _ _ _)
      | (with_reducible exact LeO.refl _)
      | (with_reducible exact LeO.none _)
      | (with_reducible refine LeO.ite ?_ ?_)
      | (with_reducible refine LeO.bind ?_ (fun _ => ?_))
      | exact ih0 _ _ _ _ _ _ _ _ _ _ _ _ _
      | exact ih1 _ _ _ _ _ _ _ _ _ _ _ _ _ _ _ _ _ _
      | exact ih2 _ _ _ _ _ _ _ _ _ _ _ _ _ _ _ _ _ _
      | exact L28_awake.mono _
      | exact L28_in.mono _ _ _ _ _ _
      | exact L28_made.mono _ _ _ _
      | exact pick_By.mono _ _ _ _ _ _ _ _ _ _ _ _ _
      | exact LeO.none _
      | refine LeO.ite ?_ ?_
      | refine LeO.bind ?_ (fun _ => ?_)
    · intro y0 y1 y2 y3 y4 y5 y6 y7 y8 y9 y10 y11 y12 y13 y14 y15 y16 y17
      unfold L28_PickApart.j1
      repeat' first
      | (with_reducible exact ih0 _ _ _ _ _ _ _ _ _ _ _ _ _)
      | (with_reducible exact ih1 _ _ _ _ _ _ _ _ _ _ _ _ _ _ _ _ _ _)
      | (with_reducible exact ih2 _ _ _ _ _ _ _ _ _ _ _ _ _ _ _ _ _ _)
      | (with_reducible exact L28_awake.mono _)
      | (with_reducible exact L28_in.mono _ _ _ _ _ _)
      | (with_reducible exact L28_made.mono _ _ _ _)
      | (with_reducible exact pick_By.mono _ _ _ _ _ _ _ _ _ _ _ _ _)
      | (with_reducible exact LeO.refl _)
      | (with_reducible exact LeO.none _)
      | (with_reducible refine LeO.ite ?_ ?_)
      | (with_reducible refine LeO.bind ?_ (fun _ => ?_))
      | exact ih0 _ _ _ _ _ _ _ _ _ _ _ _ _
      | exact ih1 _ _ _ _ _ _ _ _ _ _ _ _ _ _ _ _ _ _
      | exact ih2 _ _ _ _ _ _ _ _ _ _ _ _ _ _ _ _ _ _
      | exact L28_awake.mono _
      | exact L28_in.mono _ _ _ _ _ _
      | exact L28_made.mono _ _ _ _
      | exact pick_By.mono _ _ _ _ _ _ _ _ _ _ _ _ _
      | exact LeO.none _
      | refine LeO.ite ?_ ?_
      | refine LeO.bind ?_ (fun _ => ?_)
    · intro y0 y1 y2 y3 y4 y5 y6 y7 y8 y9 y10 y11 y12 y13 y14 y15 y16 y17
      unfold L28_PickApart.j2
      repeat' first
      | (with_reducible exact ih0 _ _ _ _ _ _ _ _ _ _ _ _ _)
      | (with_reducible exact ih1 _ _ _ _ _ _ _ _ _ _ _ _ _ _ _ _ _ _)
      | (with_reducible exact ih2 _ _ _ _ _ _ _ _ _ _ _ _ _ _ _ _ _ _)
      | (with_reducible exact L28_awake.mono _)
      | (with_reducible exact L28_in.mono _ _ _ _ _ _)
      | (with_reducible exact L28_made.mono _ _ _ _)
      | (with_reducible exact pick_By.mono _ _ _ _ _ _ _ _ _ _ _ _ _)
      | (with_reducible exact LeO.refl _)
      | (with_reducible exact LeO.none _)
      | (with_reducible refine LeO.ite ?_ ?_)
      | (with_reducible refine LeO.bind ?_ (fun _ => ?_))
      | exact ih0 _ _ _ _ _ _ _ _ _ _ _ _ _
      | exact ih1 _ _ _ _ _ _ _ _ _ _ _ _ _ _ _ _ _ _
      | exact ih2 _ _ _ _ _ _ _ _ _ _ _ _ _ _ _ _ _ _
      | exact L28_awake.mono _
      | exact L28_in.mono _ _ _ _ _ _
      | exact L28_made.mono _ _ _ _
      | exact pick_By.mono _ _ _ _ _ _ _ _ _ _ _ _ _
      | exact LeO.none _
      | refine LeO.ite ?_ ?_
      | refine LeO.bind ?_ (fun _ => ?_)
theorem L28_PickApart.mono : ∀ a0 a1 a2 k, LeO (L28_PickApart.f k a0 a1 a2) (L28_PickApart.f (k + 1) a0 a1 a2) := by
  intro a0 a1 a2 k
  obtain ⟨ih0, ih1, ih2⟩ := L28_PickApart.mono_l k
  unfold L28_PickApart.f
  repeat' first
      | (with_reducible exact ih0 _ _ _ _ _ _ _ _ _ _ _ _ _)
      | (with_reducible exact ih1 _ _ _ _ _ _ _ _ _ _ _ _ _ _ _ _ _ _)
      | (with_reducible exact ih2 _ _ _ _ _ _ _ _ _ _ _ _ _ _ _ _ _ _)
      | (with_reducible exact L28_awake.mono _)
      | (with_reducible exact L28_in.mono _ _ _ _ _ _)
      | (with_reducible exact L28_made.mono _ _ _ _)
      | (with_reducible exact pick_By.mono _ _ _ _ _ _ _ _ _ _ _ _ _)
      | (with_reducible exact LeO.refl _)
      | (with_reducible exact LeO.none _)
      | (with_reducible refine LeO.ite ?_ ?_)
      | (with_reducible refine LeO.bind ?_ (fun _ => ?_))
      | exact ih0 _ _ _ _ _ _ _ _ _ _ _ _ _
      | exact ih1 _ _ _ _ _ _ _ _ _ _ _ _ _ _ _ _ _ _
      | exact ih2 _ _ _ _ _ _ _ _ _ _ _ _ _ _ _ _ _ _
      | exact L28_awake.mono _
      | exact L28_in.mono _ _ _ _ _ _
      | exact L28_made.mono _ _ _ _
      | exact pick_By.mono _ _ _ _ _ _ _ _ _ _ _ _ _
      | exact LeO.none _
      | refine LeO.ite ?_ ?_
      | refine LeO.bind ?_ (fun _ => ?_)
set_option maxHeartbeats 8000000 in
set_option maxRecDepth 100000 in
theorem L28_PickApart.calls (k : Nat) (A0 : Option Addr) (c0 : Nat) (l0 : List Int) (a1 : Int) (a2 : Int) (r : Bool) (w : World) (hr0 : Kd.C (Kd.int .i64) w A0 l0.length l0) (hc0 : l0.length ≤ c0) (h : L28_PickApart.f k l0 a1 a2 = some r) (ht_ : r = true := by rfl) :
    Calls Try.prog 10 #[.slice A0 l0.length c0, .int .i64 a1, .int .i64 a2] w fun e w' => e = .returned (.bool r) ∧ Below w.heap.size w w' := by
  subst ht_
  have hu25 := Try.underlying25
  have hu60 := Try.underlying60
  have hu29 := Try.underlying29
  have HR0 := Aside0.mk hr0
  have HC0 := Aside0.mk hc0
  clear hr0 hc0
  have HB := Aside0.mk (Below.refl w.heap.size w)
  have H : ((L28_made.f k l0 a1 a2).bind fun bt918 => (L28_PickApart.l0 k 1 bt918.1 bt918.2.1 bt918.2.2.1 0 (wrap64 ((wrap64 (Int.tdiv bt918.2.2.2.2.1 2)) * 2)) bt918.2.2.2.2.2.1 bt918.2.2.2.2.2.2.1 bt918.2.2.2.2.2.2.2.1 bt918.2.2.2.2.2.2.2.2.1 bt918.2.2.2.2.2.2.2.2.2.1 bt918.2.2.2.2.2.2.2.2.2.2.1 bt918.2.2.2.2.2.2.2.2.2.2.2)) = some true := h
  clear h
  replace H := Option.bind_eq_some_iff.mp H
  obtain ⟨⟨t918, t919, t922, t923, t924, t925, t926, t927, t928, t929, t930, t931⟩, A40, H⟩ := H
  replace H : (L28_PickApart.l0 k 1 t918 t919 t922 0 (wrap64 ((wrap64 (Int.tdiv t924 2)) * 2)) t925 t926 t927 t928 t929 t930 t931) = some true := H
  have A4 := Aside0.mk A40
  clear A40
  have H' := Aside0.mk H
  clear H
  go_enter Try.func10, Try.ntmps10
  go_wp2_with (first | ((with_reducible refine gate_callee (f := 54) rfl ?_); refine goesL_ (some 17) rfl rfl Try.func54 (by kernel_rfl) rfl #[.slice A0 l0.length c0, .int .i64 a1, .int .i64 a2] rfl (by (try simp only [List.map_toArray, List.map_cons, List.map_nil]); first | done | rfl | (simp only [List.length_drop, List.length_take]; rfl)) ?_; (with_reducible refine (L28_made.calls k _ _ l0 a1 a2 t918 t919 t922 t923 t924 t925 t926 t927 t928 t929 t930 t931 _ ?side1 ?side2 A4.out).mono ?_); (case side1 => repeat (first | exact HR0.out | (with_reducible refine Kd.C_alloc ?_ _) | (with_reducible refine Kd.C_drewN ?_ _) | (with_reducible refine Kd.C_drew ?_))); (case side2 => exact HC0.out); rintro e w5 ⟨v920, v932, rfl, ho0, ho1, hb⟩; refine ⟨_, rfl, ?_⟩; have n0_ := Aside0.mk (Kd.R_lower ho0 (below_size (by repeat (first | (with_reducible first | exact HB.out | apply below_alloc | apply pw_below_drewN | apply below_drew1) | exact HB.out)))); have n1_ := Aside0.mk (Kd.R_lower ho1 (below_size (by repeat (first | (with_reducible first | exact HB.out | apply below_alloc | apply pw_below_drewN | apply below_drew1) | exact HB.out)))); have n2_ := Aside0.mk (below_step (by repeat (first | (with_reducible first | exact HB.out | apply below_alloc | apply pw_below_drewN | apply below_drew1) | exact HB.out)) hb); clear HB; have HO921 := n0_; have HO933 := n1_; have HB := n2_; clear n0_ n1_ n2_; (try clear hb); (try clear hb2); (try clear hk); (try clear hi); (try clear ho0); (try clear ho1)) | ((with_reducible refine gate_dst (N := 7) rfl ?_); refine box_event ?hg (N := 7) ?hd (cs := #[.int .i64 0, .slice none 0 0]) (t := 25) ?hr ?_; (case hd => rfl); (case hg => rfl); (case hr => first | (go_simp; done) | (go_simp; rfl)); intro gb934 hg w6 hbox hb; have n0_ := Aside0.mk (Kd.R_below (by (with_reducible repeat (first | apply Kd.R_alloc | apply Kd.R_drewN | apply Kd.R_drew)); exact HO921.out) hb); have n1_ := Aside0.mk (Kd.R_below (by (with_reducible repeat (first | apply Kd.R_alloc | apply Kd.R_drewN | apply Kd.R_drew)); exact HO933.out) hb); have n2_ := Aside0.mk (below_step (by repeat (first | (with_reducible first | exact HB.out | apply below_alloc | apply pw_below_drewN | apply below_drew1) | exact HB.out)) hb); have n3_ := Aside0.mk (hbox); have n4_ := Aside0.mk ((by rw [hg]; exact (below_size (by repeat (first | (with_reducible first | exact HB.out | apply below_alloc | apply pw_below_drewN | apply below_drew1) | exact HB.out))) : w.heap.size ≤ gb934)); have n5_ := Aside0.mk ((by rw [hg]; exact (below_size (by repeat (first | (with_reducible first | exact HB.out | apply below_alloc | apply pw_below_drewN | apply below_drew1) | exact HB.out))) : w.heap.size ≤ gb934)); clear HO921; clear HO933; clear HB; have HO921 := n0_; have HO933 := n1_; have HB := n2_; have BK934 := n3_; have GW934 := n4_; have GE934 := n5_; clear n0_ n1_ n2_ n3_ n4_ n5_; clear hb hbox hg) | ((with_reducible refine gate_dst (N := 8) rfl ?_); refine box_event ?hg (N := 8) ?hd (cs := #[.int .i64 0, .int .i64 0, .int .i64 0, .int .i64 0, .int .i64 0, .int .i64 0, .int .i64 0, .int .i64 0, .int .i64 0, .slice none 0 0]) (t := 60) ?hr ?_; (case hd => rfl); (case hg => rfl); (case hr => first | (go_simp; done) | (go_simp; rfl)); intro gb935 hg w7 hbox hb; have n0_ := Aside0.mk (Kd.R_below (by (with_reducible repeat (first | apply Kd.R_alloc | apply Kd.R_drewN | apply Kd.R_drew)); exact HO921.out) hb); have n1_ := Aside0.mk (Kd.R_below (by (with_reducible repeat (first | apply Kd.R_alloc | apply Kd.R_drewN | apply Kd.R_drew)); exact HO933.out) hb); have n2_ := Aside0.mk (blk_below (g := gb934) (o := .cells #[.int .i64 0, .slice none 0 0] 25 (0, 0)) (by (with_reducible repeat (first | refine blk_drewN ?_ _ | refine blk_drew ?_ | refine blk_alloc ?_ _)); exact BK934.out) hb); have n3_ := Aside0.mk (below_step (by repeat (first | (with_reducible first | exact HB.out | apply below_alloc | apply pw_below_drewN | apply below_drew1 | refine below_set ?_ GE934.out) | exact HB.out)) hb); have n4_ := Aside0.mk (hbox); have n5_ := Aside0.mk ((by rw [hg]; exact (below_size (by repeat (first | (with_reducible first | exact HB.out | apply below_alloc | apply pw_below_drewN | apply below_drew1 | refine below_set ?_ GE934.out) | exact HB.out))) : w.heap.size ≤ gb935)); have n6_ := Aside0.mk ((by rw [hg]; exact (below_size (by repeat (first | (with_reducible first | exact HB.out | apply below_alloc | apply pw_below_drewN | apply below_drew1 | refine below_set ?_ GE934.out) | exact HB.out))) : w.heap.size ≤ gb935)); have n7_ := Aside0.mk ((by rw [hg]; exact Nat.ne_of_lt (blk_lt (g := gb934) (o := .cells #[.int .i64 0, .slice none 0 0] 25 (0, 0)) (by (with_reducible repeat (first | refine blk_drewN ?_ _ | refine blk_drew ?_ | refine blk_alloc ?_ _)); exact BK934.out)) : gb934 ≠ gb935)); have n8_ := Aside0.mk ((by rw [hg]; exact Nat.ne_of_gt (blk_lt (g := gb934) (o := .cells #[.int .i64 0, .slice none 0 0] 25 (0, 0)) (by (with_reducible repeat (first | refine blk_drewN ?_ _ | refine blk_drew ?_ | refine blk_alloc ?_ _)); exact BK934.out)) : gb935 ≠ gb934)); clear HO921; clear HO933; clear BK934; clear HB; have HO921 := n0_; have HO933 := n1_; have BK934 := n2_; have HB := n3_; have BK935 := n4_; have GW935 := n5_; have GE935 := n6_; have NB934_935 := n7_; have NB935_934 := n8_; clear n0_ n1_ n2_ n3_ n4_ n5_ n6_ n7_ n8_; clear hb hbox hg; have hnb8 := NB934_935.out; have hnc8 := NB935_934.out; have hcz9_0 : w7.cell? ⟨gb934, 0, none⟩ = some (.int .i64 0) := (blk_cell BK934.out 0).trans rfl; have hcz9_1 : w7.cell? ⟨gb934, 1, none⟩ = some (.slice none 0 0) := (blk_cell BK934.out 1).trans rfl; have hfz9_0 := blk_frozen BK934.out 0; have hfz9_1 := blk_frozen BK934.out 1; obtain ⟨Ao10, co10, eo10⟩ := Kd.R_slice HO921.out; subst eo10; have hcz11_0 : w7.cell? ⟨gb935, 0, none⟩ = some (.int .i64 0) := (blk_cell BK935.out 0).trans rfl; have hcz11_1 : w7.cell? ⟨gb935, 1, none⟩ = some (.int .i64 0) := (blk_cell BK935.out 1).trans rfl; have hcz11_2 : w7.cell? ⟨gb935, 2, none⟩ = some (.int .i64 0) := (blk_cell BK935.out 2).trans rfl; have hcz11_3 : w7.cell? ⟨gb935, 3, none⟩ = some (.int .i64 0) := (blk_cell BK935.out 3).trans rfl; have hcz11_4 : w7.cell? ⟨gb935, 4, none⟩ = some (.int .i64 0) := (blk_cell BK935.out 4).trans rfl; have hcz11_5 : w7.cell? ⟨gb935, 5, none⟩ = some (.int .i64 0) := (blk_cell BK935.out 5).trans rfl; have hcz11_6 : w7.cell? ⟨gb935, 6, none⟩ = some (.int .i64 0) := (blk_cell BK935.out 6).trans rfl; have hcz11_7 : w7.cell? ⟨gb935, 7, none⟩ = some (.int .i64 0) := (blk_cell BK935.out 7).trans rfl; have hcz11_8 : w7.cell? ⟨gb935, 8, none⟩ = some (.int .i64 0) := (blk_cell BK935.out 8).trans rfl; have hcz11_9 : w7.cell? ⟨gb935, 9, none⟩ = some (.slice none 0 0) := (blk_cell BK935.out 9).trans rfl; have hfz11_0 := blk_frozen BK935.out 0; have hfz11_1 := blk_frozen BK935.out 1; have hfz11_2 := blk_frozen BK935.out 2; have hfz11_3 := blk_frozen BK935.out 3; have hfz11_4 := blk_frozen BK935.out 4; have hfz11_5 := blk_frozen BK935.out 5; have hfz11_6 := blk_frozen BK935.out 6; have hfz11_7 := blk_frozen BK935.out 7; have hfz11_8 := blk_frozen BK935.out 8; have hfz11_9 := blk_frozen BK935.out 9; obtain ⟨Ao12, co12, eo12⟩ := Kd.R_slice HO933.out; subst eo12))
  go_loopg [9] k (fun kq v9 w' => ∃ (x9_1 : Int) (x936000_1 : Int) (x936009_1 : List (S29)) (u936009 : Value), v9 = .int .i64 x9_1 ∧ Aside0 (L28_PickApart.l0 kq x9_1 t918 t919 x936000_1 0 (wrap64 ((wrap64 (Int.tdiv t924 2)) * 2)) t925 t926 t927 t928 t929 t930 x936009_1 = some true) ∧ Aside0 (kq ≤ k) ∧ Aside0 (Kd.R k29 29 w' w.heap.size (fun k_ => some k_ ≠ (u936009 : Value).ownBlock) (.slice Ao10 t919.length co10) t919) ∧ Aside0 (Kd.R k29 29 w' w.heap.size (fun k_ => some k_ ≠ ((.slice Ao10 t919.length co10) : Value).ownBlock) u936009 x936009_1) ∧ Aside0 (w'.heap[gb934]? = some (.cells #[.int .i64 t918, (.slice Ao10 t919.length co10)] 25 (0, 0))) ∧ Aside0 (w'.heap[gb935]? = some (.cells #[.int .i64 x936000_1, .int .i64 0, .int .i64 (wrap64 ((wrap64 (Int.tdiv t924 2)) * 2)), .int .i64 t925, .int .i64 t926, .int .i64 t927, .int .i64 t928, .int .i64 t929, .int .i64 t930, u936009] 60 (0, 0))) ∧ Aside0 (Below w.heap.size w w'))
  case atStart => exact ⟨(1), (t922), (t931), (.slice Ao12 t931.length co12), (by first | rfl | (simp; done) | (simp [*]; done)), H', ⟨Nat.le_refl _⟩, ⟨by (with_reducible repeat (first | apply Kd.R_alloc | apply Kd.R_drewN | apply Kd.R_drew)); exact Kd.R_mono (Kd.R_far (p := ⟨gb935, 2, none⟩) (Kd.R_far (p := ⟨gb935, 1, none⟩) (Kd.R_far (p := ⟨gb935, 9, none⟩) (Kd.R_far (p := ⟨gb935, 8, none⟩) (Kd.R_far (p := ⟨gb935, 7, none⟩) (Kd.R_far (p := ⟨gb935, 6, none⟩) (Kd.R_far (p := ⟨gb935, 5, none⟩) (Kd.R_far (p := ⟨gb935, 4, none⟩) (Kd.R_far (p := ⟨gb935, 3, none⟩) (Kd.R_far (p := ⟨gb935, 2, none⟩) (Kd.R_far (p := ⟨gb935, 1, none⟩) (Kd.R_far (p := ⟨gb935, 0, none⟩) (Kd.R_far (p := ⟨gb934, 1, none⟩) (Kd.R_far (p := ⟨gb934, 0, none⟩) (Kd.R_types (Kd.R_types HO921.out BK934.out (by decide)) BK935.out (by decide)) (fun _ hk => hk.1.2) (.int .i64 t918)) (fun _ hk => hk.1.2) (.slice Ao10 t919.length co10)) (fun _ hk => hk.2) (.int .i64 t922)) (fun _ hk => hk.2) (.int .i64 t923)) (fun _ hk => hk.2) (.int .i64 t924)) (fun _ hk => hk.2) (.int .i64 t925)) (fun _ hk => hk.2) (.int .i64 t926)) (fun _ hk => hk.2) (.int .i64 t927)) (fun _ hk => hk.2) (.int .i64 t928)) (fun _ hk => hk.2) (.int .i64 t929)) (fun _ hk => hk.2) (.int .i64 t930)) (fun _ hk => hk.2) (.slice Ao12 t931.length co12)) (fun _ hk => hk.2) (.int .i64 0)) (fun _ hk => hk.2) (.int .i64 (wrap64 ((wrap64 (Int.tdiv t924 2)) * 2)))) (fun _ hk => hk.1.1)⟩, ⟨by (with_reducible repeat (first | apply Kd.R_alloc | apply Kd.R_drewN | apply Kd.R_drew)); exact Kd.R_mono (Kd.R_far (p := ⟨gb935, 2, none⟩) (Kd.R_far (p := ⟨gb935, 1, none⟩) (Kd.R_far (p := ⟨gb935, 9, none⟩) (Kd.R_far (p := ⟨gb935, 8, none⟩) (Kd.R_far (p := ⟨gb935, 7, none⟩) (Kd.R_far (p := ⟨gb935, 6, none⟩) (Kd.R_far (p := ⟨gb935, 5, none⟩) (Kd.R_far (p := ⟨gb935, 4, none⟩) (Kd.R_far (p := ⟨gb935, 3, none⟩) (Kd.R_far (p := ⟨gb935, 2, none⟩) (Kd.R_far (p := ⟨gb935, 1, none⟩) (Kd.R_far (p := ⟨gb935, 0, none⟩) (Kd.R_far (p := ⟨gb934, 1, none⟩) (Kd.R_far (p := ⟨gb934, 0, none⟩) (Kd.R_types (Kd.R_types HO933.out BK934.out (by decide)) BK935.out (by decide)) (fun _ hk => hk.1.2) (.int .i64 t918)) (fun _ hk => hk.1.2) (.slice Ao10 t919.length co10)) (fun _ hk => hk.2) (.int .i64 t922)) (fun _ hk => hk.2) (.int .i64 t923)) (fun _ hk => hk.2) (.int .i64 t924)) (fun _ hk => hk.2) (.int .i64 t925)) (fun _ hk => hk.2) (.int .i64 t926)) (fun _ hk => hk.2) (.int .i64 t927)) (fun _ hk => hk.2) (.int .i64 t928)) (fun _ hk => hk.2) (.int .i64 t929)) (fun _ hk => hk.2) (.int .i64 t930)) (fun _ hk => hk.2) (.slice Ao12 t931.length co12)) (fun _ hk => hk.2) (.int .i64 0)) (fun _ hk => hk.2) (.int .i64 (wrap64 ((wrap64 (Int.tdiv t924 2)) * 2)))) (fun _ hk => hk.1.1)⟩, ⟨by (with_reducible repeat (first | refine blk_drewN ?_ _ | refine blk_drew ?_ | refine blk_alloc ?_ _)); refine blk_far ?_ NB934_935.out _; (with_reducible repeat (first | refine blk_drewN ?_ _ | refine blk_drew ?_ | refine blk_alloc ?_ _)); refine blk_far ?_ NB934_935.out _; (with_reducible repeat (first | refine blk_drewN ?_ _ | refine blk_drew ?_ | refine blk_alloc ?_ _)); refine blk_far ?_ NB934_935.out _; (with_reducible repeat (first | refine blk_drewN ?_ _ | refine blk_drew ?_ | refine blk_alloc ?_ _)); refine blk_far ?_ NB934_935.out _; (with_reducible repeat (first | refine blk_drewN ?_ _ | refine blk_drew ?_ | refine blk_alloc ?_ _)); refine blk_far ?_ NB934_935.out _; (with_reducible repeat (first | refine blk_drewN ?_ _ | refine blk_drew ?_ | refine blk_alloc ?_ _)); refine blk_far ?_ NB934_935.out _; (with_reducible repeat (first | refine blk_drewN ?_ _ | refine blk_drew ?_ | refine blk_alloc ?_ _)); refine blk_far ?_ NB934_935.out _; (with_reducible repeat (first | refine blk_drewN ?_ _ | refine blk_drew ?_ | refine blk_alloc ?_ _)); refine blk_far ?_ NB934_935.out _; (with_reducible repeat (first | refine blk_drewN ?_ _ | refine blk_drew ?_ | refine blk_alloc ?_ _)); refine blk_far ?_ NB934_935.out _; (with_reducible repeat (first | refine blk_drewN ?_ _ | refine blk_drew ?_ | refine blk_alloc ?_ _)); refine blk_far ?_ NB934_935.out _; (with_reducible repeat (first | refine blk_drewN ?_ _ | refine blk_drew ?_ | refine blk_alloc ?_ _)); refine blk_far ?_ NB934_935.out _; (with_reducible repeat (first | refine blk_drewN ?_ _ | refine blk_drew ?_ | refine blk_alloc ?_ _)); refine blk_far ?_ NB934_935.out _; (with_reducible repeat (first | refine blk_drewN ?_ _ | refine blk_drew ?_ | refine blk_alloc ?_ _)); refine blk_put (cs := #[.int .i64 t918, .slice none 0 0]) ?_ 1 _ rfl; (with_reducible repeat (first | refine blk_drewN ?_ _ | refine blk_drew ?_ | refine blk_alloc ?_ _)); refine blk_put (cs := #[.int .i64 0, .slice none 0 0]) ?_ 0 _ rfl; (with_reducible repeat (first | refine blk_drewN ?_ _ | refine blk_drew ?_ | refine blk_alloc ?_ _)); exact BK934.out⟩, ⟨by (with_reducible repeat (first | refine blk_drewN ?_ _ | refine blk_drew ?_ | refine blk_alloc ?_ _)); refine blk_put (cs := #[.int .i64 t922, .int .i64 0, .int .i64 t924, .int .i64 t925, .int .i64 t926, .int .i64 t927, .int .i64 t928, .int .i64 t929, .int .i64 t930, .slice Ao12 t931.length co12]) ?_ 2 _ rfl; (with_reducible repeat (first | refine blk_drewN ?_ _ | refine blk_drew ?_ | refine blk_alloc ?_ _)); refine blk_put (cs := #[.int .i64 t922, .int .i64 t923, .int .i64 t924, .int .i64 t925, .int .i64 t926, .int .i64 t927, .int .i64 t928, .int .i64 t929, .int .i64 t930, .slice Ao12 t931.length co12]) ?_ 1 _ rfl; (with_reducible repeat (first | refine blk_drewN ?_ _ | refine blk_drew ?_ | refine blk_alloc ?_ _)); refine blk_put (cs := #[.int .i64 t922, .int .i64 t923, .int .i64 t924, .int .i64 t925, .int .i64 t926, .int .i64 t927, .int .i64 t928, .int .i64 t929, .int .i64 t930, .slice none 0 0]) ?_ 9 _ rfl; (with_reducible repeat (first | refine blk_drewN ?_ _ | refine blk_drew ?_ | refine blk_alloc ?_ _)); refine blk_put (cs := #[.int .i64 t922, .int .i64 t923, .int .i64 t924, .int .i64 t925, .int .i64 t926, .int .i64 t927, .int .i64 t928, .int .i64 t929, .int .i64 0, .slice none 0 0]) ?_ 8 _ rfl; (with_reducible repeat (first | refine blk_drewN ?_ _ | refine blk_drew ?_ | refine blk_alloc ?_ _)); refine blk_put (cs := #[.int .i64 t922, .int .i64 t923, .int .i64 t924, .int .i64 t925, .int .i64 t926, .int .i64 t927, .int .i64 t928, .int .i64 0, .int .i64 0, .slice none 0 0]) ?_ 7 _ rfl; (with_reducible repeat (first | refine blk_drewN ?_ _ | refine blk_drew ?_ | refine blk_alloc ?_ _)); refine blk_put (cs := #[.int .i64 t922, .int .i64 t923, .int .i64 t924, .int .i64 t925, .int .i64 t926, .int .i64 t927, .int .i64 0, .int .i64 0, .int .i64 0, .slice none 0 0]) ?_ 6 _ rfl; (with_reducible repeat (first | refine blk_drewN ?_ _ | refine blk_drew ?_ | refine blk_alloc ?_ _)); refine blk_put (cs := #[.int .i64 t922, .int .i64 t923, .int .i64 t924, .int .i64 t925, .int .i64 t926, .int .i64 0, .int .i64 0, .int .i64 0, .int .i64 0, .slice none 0 0]) ?_ 5 _ rfl; (with_reducible repeat (first | refine blk_drewN ?_ _ | refine blk_drew ?_ | refine blk_alloc ?_ _)); refine blk_put (cs := #[.int .i64 t922, .int .i64 t923, .int .i64 t924, .int .i64 t925, .int .i64 0, .int .i64 0, .int .i64 0, .int .i64 0, .int .i64 0, .slice none 0 0]) ?_ 4 _ rfl; (with_reducible repeat (first | refine blk_drewN ?_ _ | refine blk_drew ?_ | refine blk_alloc ?_ _)); refine blk_put (cs := #[.int .i64 t922, .int .i64 t923, .int .i64 t924, .int .i64 0, .int .i64 0, .int .i64 0, .int .i64 0, .int .i64 0, .int .i64 0, .slice none 0 0]) ?_ 3 _ rfl; (with_reducible repeat (first | refine blk_drewN ?_ _ | refine blk_drew ?_ | refine blk_alloc ?_ _)); refine blk_put (cs := #[.int .i64 t922, .int .i64 t923, .int .i64 0, .int .i64 0, .int .i64 0, .int .i64 0, .int .i64 0, .int .i64 0, .int .i64 0, .slice none 0 0]) ?_ 2 _ rfl; (with_reducible repeat (first | refine blk_drewN ?_ _ | refine blk_drew ?_ | refine blk_alloc ?_ _)); refine blk_put (cs := #[.int .i64 t922, .int .i64 0, .int .i64 0, .int .i64 0, .int .i64 0, .int .i64 0, .int .i64 0, .int .i64 0, .int .i64 0, .slice none 0 0]) ?_ 1 _ rfl; (with_reducible repeat (first | refine blk_drewN ?_ _ | refine blk_drew ?_ | refine blk_alloc ?_ _)); refine blk_put (cs := #[.int .i64 0, .int .i64 0, .int .i64 0, .int .i64 0, .int .i64 0, .int .i64 0, .int .i64 0, .int .i64 0, .int .i64 0, .slice none 0 0]) ?_ 0 _ rfl; (with_reducible repeat (first | refine blk_drewN ?_ _ | refine blk_drew ?_ | refine blk_alloc ?_ _)); refine blk_far ?_ NB935_934.out _; (with_reducible repeat (first | refine blk_drewN ?_ _ | refine blk_drew ?_ | refine blk_alloc ?_ _)); refine blk_far ?_ NB935_934.out _; (with_reducible repeat (first | refine blk_drewN ?_ _ | refine blk_drew ?_ | refine blk_alloc ?_ _)); exact BK935.out⟩, ⟨by repeat (first | (with_reducible first | exact HB.out | apply below_alloc | apply pw_below_drewN | apply below_drew1 | refine below_set ?_ GE934.out | refine below_set ?_ GE935.out) | exact HB.out)⟩⟩
  case round =>
    clear H'
    try clear c1
    try clear p2
    try clear c5
    try clear p6
    try clear c8
    try clear c10
    try clear hcz11_0
    try clear hcz11_1
    try clear hcz11_2
    try clear hcz11_3
    try clear hcz11_4
    try clear hcz11_5
    try clear hcz11_6
    try clear hcz11_7
    try clear hcz11_8
    try clear hcz11_9
    try clear hcz9_0
    try clear hcz9_1
    try clear hfz11_0
    try clear hfz11_1
    try clear hfz11_2
    try clear hfz11_3
    try clear hfz11_4
    try clear hfz11_5
    try clear hfz11_6
    try clear hfz11_7
    try clear hfz11_8
    try clear hfz11_9
    try clear hfz9_0
    try clear hfz9_1
    obtain ⟨x9_1, x936000_1, x936009_1, u936009, rfl, HA, HK1, HO_935001, HO_936009, BK934, BK935, HB⟩ := hrel
    cases gk with
    | zero => exact absurd HA.out (by simp [L28_PickApart.l0])
    | succ k1 =>
      have H := HA.out
      clear HA
      simp only [L28_PickApart.l0] at H
      by_cases c13 : x9_1 ≤ 8
      · rw [if_pos c13] at H
        have c13b0 : decide (x9_1 ≤ 8) = true := decide_eq_true c13
        clear c13
        replace H := Option.bind_eq_some_iff.mp H
        obtain ⟨⟨t937, t938, t939, t940, t941, t942⟩, A140, H⟩ := H
        replace H : (if t942 = 0 then (if t941 = true then ((L28_hall.f t937 t938 t939 t940).bind fun t944 => (L28_PickApart.j1 k1 x9_1 (!t944) t918 t919 x9_1 0 (wrap64 ((wrap64 (Int.tdiv t924 2)) * 2)) t925 t926 t927 t928 t929 t930 x936009_1 t937 t938 t939 t940)) else (L28_PickApart.j1 k1 x9_1 true t918 t919 x9_1 0 (wrap64 ((wrap64 (Int.tdiv t924 2)) * 2)) t925 t926 t927 t928 t929 t930 x936009_1 t937 t938 t939 t940)) else (some false)) = some true := H
        have A14 := Aside0.mk A140
        clear A140
        by_cases c15 : t942 = 0
        rotate_left
        · rw [if_neg c15] at H
          exact absurd H (by repeat (first | exact never_none | exact never_false | refine never_ite ?_ ?_ | refine never_bind (fun _ => ?_)))
        rw [if_pos c15] at H
        have c15b0 : (t942 == 0) = true := beq_iff_eq.mpr c15
        have c15b1 : (t942 != 0) = false := bne_eq_false_iff_eq.mpr c15
        clear c15
        have HC16 := Aside0.mk H
        clear H
        have hnb17 := NB935_934.out
        have hnc17 := NB934_935.out
        have hcz18_0 : wr.cell? ⟨gb935, 0, none⟩ = some (.int .i64 x936000_1) := (blk_cell BK935.out 0).trans rfl
        have hcz18_1 : wr.cell? ⟨gb935, 1, none⟩ = some (.int .i64 0) := (blk_cell BK935.out 1).trans rfl
        have hcz18_2 : wr.cell? ⟨gb935, 2, none⟩ = some (.int .i64 (wrap64 ((wrap64 (Int.tdiv t924 2)) * 2))) := (blk_cell BK935.out 2).trans rfl
        have hcz18_3 : wr.cell? ⟨gb935, 3, none⟩ = some (.int .i64 t925) := (blk_cell BK935.out 3).trans rfl
        have hcz18_4 : wr.cell? ⟨gb935, 4, none⟩ = some (.int .i64 t926) := (blk_cell BK935.out 4).trans rfl
        have hcz18_5 : wr.cell? ⟨gb935, 5, none⟩ = some (.int .i64 t927) := (blk_cell BK935.out 5).trans rfl
        have hcz18_6 : wr.cell? ⟨gb935, 6, none⟩ = some (.int .i64 t928) := (blk_cell BK935.out 6).trans rfl
        have hcz18_7 : wr.cell? ⟨gb935, 7, none⟩ = some (.int .i64 t929) := (blk_cell BK935.out 7).trans rfl
        have hcz18_8 : wr.cell? ⟨gb935, 8, none⟩ = some (.int .i64 t930) := (blk_cell BK935.out 8).trans rfl
        have hcz18_9 : wr.cell? ⟨gb935, 9, none⟩ = some (u936009) := (blk_cell BK935.out 9).trans rfl
        have hfz18_0 := blk_frozen BK935.out 0
        have hfz18_1 := blk_frozen BK935.out 1
        have hfz18_2 := blk_frozen BK935.out 2
        have hfz18_3 := blk_frozen BK935.out 3
        have hfz18_4 := blk_frozen BK935.out 4
        have hfz18_5 := blk_frozen BK935.out 5
        have hfz18_6 := blk_frozen BK935.out 6
        have hfz18_7 := blk_frozen BK935.out 7
        have hfz18_8 := blk_frozen BK935.out 8
        have hfz18_9 := blk_frozen BK935.out 9
        have hcz19_0 : wr.cell? ⟨gb934, 0, none⟩ = some (.int .i64 t918) := (blk_cell BK934.out 0).trans rfl
        have hcz19_1 : wr.cell? ⟨gb934, 1, none⟩ = some (.slice Ao10 t919.length co10) := (blk_cell BK934.out 1).trans rfl
        have hfz19_0 := blk_frozen BK934.out 0
        have hfz19_1 := blk_frozen BK934.out 1
        obtain ⟨Ao20, co20, eo20⟩ := Kd.R_slice HO_936009.out
        subst eo20
        go_upto_region 10 with (first | ((with_reducible refine gate_callee (f := 56) rfl ?_); refine goesL_ (some 35) rfl rfl Try.func56 (by kernel_rfl) rfl #[.agg #[.int .i64 t918, .slice Ao10 t919.length co10], .agg #[.int .i64 x9_1, .int .i64 0, .int .i64 (wrap64 ((wrap64 (Int.tdiv t924 2)) * 2)), .int .i64 t925, .int .i64 t926, .int .i64 t927, .int .i64 t928, .int .i64 t929, .int .i64 t930, .slice Ao20 x936009_1.length co20]] rfl (by (try simp only [List.map_toArray, List.map_cons, List.map_nil]); first | done | rfl | (simp only [List.length_drop, List.length_take]; rfl)) ?_; (with_reducible refine (pick_By.calls k1 t918 _ _ t919 x9_1 0 (wrap64 ((wrap64 (Int.tdiv t924 2)) * 2)) t925 t926 t927 t928 t929 t930 _ _ x936009_1 t937 t938 t939 t940 t941 t942 _ ?side1 ?side2 ?side3 ?side4 A14.out).mono ?_); (case side1 => refine (Kd.R_reads' (e := 29) (base := w.heap.size) (ok := fun k_ => some k_ ≠ (.slice Ao20 x936009_1.length co20 : Value).ownBlock) (n := t919.length) (c := co10) ?_).2.2; exact (by (with_reducible repeat (first | apply Kd.R_alloc | apply Kd.R_drewN | apply Kd.R_drew)); exact (Kd.R_mono (Kd.R_far (p := ⟨gb935, 0, none⟩) (Kd.R_types HO_935001.out BK935.out (by decide)) (fun _ hk => hk.2) (.int .i64 x9_1)) (fun _ h_ => h_.1)))); (case side2 => exact (Kd.R_reads' HO_935001.out).2.1); (case side3 => refine (Kd.R_reads' (e := 29) (base := w.heap.size) (ok := fun k_ => some k_ ≠ (.slice Ao10 t919.length co10 : Value).ownBlock) (n := x936009_1.length) (c := co20) ?_).2.2; exact (by (with_reducible repeat (first | apply Kd.R_alloc | apply Kd.R_drewN | apply Kd.R_drew)); exact (Kd.R_mono (Kd.R_far (p := ⟨gb935, 0, none⟩) (Kd.R_types HO_936009.out BK935.out (by decide)) (fun _ hk => hk.2) (.int .i64 x9_1)) (fun _ h_ => h_.1)))); (case side4 => exact (Kd.R_reads' HO_936009.out).2.1); rintro e w21 ⟨rfl, hb⟩; refine ⟨_, rfl, ?_⟩; have n0_ := Aside0.mk (Kd.R_below (by (with_reducible repeat (first | apply Kd.R_alloc | apply Kd.R_drewN | apply Kd.R_drew)); exact (Kd.R_mono (Kd.R_far (p := ⟨gb935, 0, none⟩) (Kd.R_types HO_935001.out BK935.out (by decide)) (fun _ hk => hk.2) (.int .i64 x9_1)) (fun _ h_ => h_.1))) hb); have n1_ := Aside0.mk (Kd.R_below (by (with_reducible repeat (first | apply Kd.R_alloc | apply Kd.R_drewN | apply Kd.R_drew)); exact (Kd.R_mono (Kd.R_far (p := ⟨gb935, 0, none⟩) (Kd.R_types HO_936009.out BK935.out (by decide)) (fun _ hk => hk.2) (.int .i64 x9_1)) (fun _ h_ => h_.1))) hb); have n2_ := Aside0.mk (blk_below (g := gb934) (o := .cells #[.int .i64 t918, .slice Ao10 t919.length co10] 25 (0, 0)) (by (with_reducible repeat (first | refine blk_drewN ?_ _ | refine blk_drew ?_ | refine blk_alloc ?_ _)); refine blk_far ?_ NB934_935.out _; (with_reducible repeat (first | refine blk_drewN ?_ _ | refine blk_drew ?_ | refine blk_alloc ?_ _)); exact BK934.out) hb); have n3_ := Aside0.mk (blk_below (g := gb935) (o := .cells #[.int .i64 x9_1, .int .i64 0, .int .i64 (wrap64 ((wrap64 (Int.tdiv t924 2)) * 2)), .int .i64 t925, .int .i64 t926, .int .i64 t927, .int .i64 t928, .int .i64 t929, .int .i64 t930, .slice Ao20 x936009_1.length co20] 60 (0, 0)) (by (with_reducible repeat (first | refine blk_drewN ?_ _ | refine blk_drew ?_ | refine blk_alloc ?_ _)); refine blk_put (cs := #[.int .i64 x936000_1, .int .i64 0, .int .i64 (wrap64 ((wrap64 (Int.tdiv t924 2)) * 2)), .int .i64 t925, .int .i64 t926, .int .i64 t927, .int .i64 t928, .int .i64 t929, .int .i64 t930, .slice Ao20 x936009_1.length co20]) ?_ 0 _ rfl; (with_reducible repeat (first | refine blk_drewN ?_ _ | refine blk_drew ?_ | refine blk_alloc ?_ _)); exact BK935.out) hb); have n4_ := Aside0.mk (below_step (by repeat (first | (with_reducible first | exact HB.out | apply below_alloc | apply pw_below_drewN | apply below_drew1 | refine below_set ?_ GE934.out | refine below_set ?_ GE935.out) | exact HB.out)) hb); clear HO_935001; clear HO_936009; clear BK934; clear BK935; clear HB; have HO_935001 := n0_; have HO_936009 := n1_; have BK934 := n2_; have BK935 := n3_; have HB := n4_; clear n0_ n1_ n2_ n3_ n4_; (try clear hb); (try clear hb2); (try clear hk); (try clear hi)) | ((with_reducible refine gate_dst (N := 10) rfl ?_); refine box_event ?hg (N := 10) ?hd (cs := #[.int .i64 0, .int .i64 0, .int .i64 0, .int .i64 0]) (t := 29) ?hr ?_; (case hd => rfl); (case hg => rfl); (case hr => first | (go_simp; done) | (go_simp; rfl)); intro gb943 hg w22 hbox hb; have n0_ := Aside0.mk (Kd.R_below (Kd.R_elderB (by (with_reducible repeat (first | apply Kd.R_alloc | apply Kd.R_drewN | apply Kd.R_drew)); exact HO_935001.out) gb943 (Nat.le_of_eq hg.symm)) hb); have n1_ := Aside0.mk (Kd.R_below (Kd.R_elderB (by (with_reducible repeat (first | apply Kd.R_alloc | apply Kd.R_drewN | apply Kd.R_drew)); exact HO_936009.out) gb943 (Nat.le_of_eq hg.symm)) hb); have n2_ := Aside0.mk (blk_below (g := gb934) (o := .cells #[.int .i64 t918, .slice Ao10 t919.length co10] 25 (0, 0)) (by (with_reducible repeat (first | refine blk_drewN ?_ _ | refine blk_drew ?_ | refine blk_alloc ?_ _)); exact BK934.out) hb); have n3_ := Aside0.mk (blk_below (g := gb935) (o := .cells #[.int .i64 x9_1, .int .i64 0, .int .i64 (wrap64 ((wrap64 (Int.tdiv t924 2)) * 2)), .int .i64 t925, .int .i64 t926, .int .i64 t927, .int .i64 t928, .int .i64 t929, .int .i64 t930, .slice Ao20 x936009_1.length co20] 60 (0, 0)) (by (with_reducible repeat (first | refine blk_drewN ?_ _ | refine blk_drew ?_ | refine blk_alloc ?_ _)); exact BK935.out) hb); have n4_ := Aside0.mk (below_step (by repeat (first | (with_reducible first | exact HB.out | apply below_alloc | apply pw_below_drewN | apply below_drew1 | refine below_set ?_ GE934.out | refine below_set ?_ GE935.out) | exact HB.out)) hb); have n5_ := Aside0.mk (hbox); have n6_ := Aside0.mk ((by rw [hg]; exact (below_size (by repeat (first | (with_reducible first | exact HB.out | apply below_alloc | apply pw_below_drewN | apply below_drew1 | refine below_set ?_ GE934.out | refine below_set ?_ GE935.out) | exact HB.out))) : w.heap.size ≤ gb943)); have n7_ := Aside0.mk ((by rw [hg]; exact (below_size (by repeat (first | (with_reducible first | exact HB.out | apply below_alloc | apply pw_below_drewN | apply below_drew1 | refine below_set ?_ GE934.out | refine below_set ?_ GE935.out) | exact HB.out))) : w.heap.size ≤ gb943)); have n8_ := Aside0.mk ((by rw [hg]; exact Nat.ne_of_lt (blk_lt (g := gb934) (o := .cells #[.int .i64 t918, .slice Ao10 t919.length co10] 25 (0, 0)) (by (with_reducible repeat (first | refine blk_drewN ?_ _ | refine blk_drew ?_ | refine blk_alloc ?_ _)); exact BK934.out)) : gb934 ≠ gb943)); have n9_ := Aside0.mk ((by rw [hg]; exact Nat.ne_of_gt (blk_lt (g := gb934) (o := .cells #[.int .i64 t918, .slice Ao10 t919.length co10] 25 (0, 0)) (by (with_reducible repeat (first | refine blk_drewN ?_ _ | refine blk_drew ?_ | refine blk_alloc ?_ _)); exact BK934.out)) : gb943 ≠ gb934)); have n10_ := Aside0.mk ((by rw [hg]; exact Nat.ne_of_lt (blk_lt (g := gb935) (o := .cells #[.int .i64 x9_1, .int .i64 0, .int .i64 (wrap64 ((wrap64 (Int.tdiv t924 2)) * 2)), .int .i64 t925, .int .i64 t926, .int .i64 t927, .int .i64 t928, .int .i64 t929, .int .i64 t930, .slice Ao20 x936009_1.length co20] 60 (0, 0)) (by (with_reducible repeat (first | refine blk_drewN ?_ _ | refine blk_drew ?_ | refine blk_alloc ?_ _)); exact BK935.out)) : gb935 ≠ gb943)); have n11_ := Aside0.mk ((by rw [hg]; exact Nat.ne_of_gt (blk_lt (g := gb935) (o := .cells #[.int .i64 x9_1, .int .i64 0, .int .i64 (wrap64 ((wrap64 (Int.tdiv t924 2)) * 2)), .int .i64 t925, .int .i64 t926, .int .i64 t927, .int .i64 t928, .int .i64 t929, .int .i64 t930, .slice Ao20 x936009_1.length co20] 60 (0, 0)) (by (with_reducible repeat (first | refine blk_drewN ?_ _ | refine blk_drew ?_ | refine blk_alloc ?_ _)); exact BK935.out)) : gb943 ≠ gb935)); clear HO_935001; clear HO_936009; clear BK934; clear BK935; clear HB; have HO_935001 := n0_; have HO_936009 := n1_; have BK934 := n2_; have BK935 := n3_; have HB := n4_; have BK943 := n5_; have GW943 := n6_; have GE943 := n7_; have NB934_943 := n8_; have NB943_934 := n9_; have NB935_943 := n10_; have NB943_935 := n11_; clear n0_ n1_ n2_ n3_ n4_ n5_ n6_ n7_ n8_ n9_ n10_ n11_; clear hb hbox hg; have hnb23 := NB943_934.out; have hnc23 := NB934_943.out; have hnb24 := NB943_935.out; have hnc24 := NB935_943.out; have hcz25_0 : w22.cell? ⟨gb943, 0, none⟩ = some (.int .i64 0) := (blk_cell BK943.out 0).trans rfl; have hcz25_1 : w22.cell? ⟨gb943, 1, none⟩ = some (.int .i64 0) := (blk_cell BK943.out 1).trans rfl; have hcz25_2 : w22.cell? ⟨gb943, 2, none⟩ = some (.int .i64 0) := (blk_cell BK943.out 2).trans rfl; have hcz25_3 : w22.cell? ⟨gb943, 3, none⟩ = some (.int .i64 0) := (blk_cell BK943.out 3).trans rfl; have hfz25_0 := blk_frozen BK943.out 0; have hfz25_1 := blk_frozen BK943.out 1; have hfz25_2 := blk_frozen BK943.out 2; have hfz25_3 := blk_frozen BK943.out 3))
        (try simp only [Act.put, List.setIfInBounds_toArray, List.set_cons_zero, List.set_cons_succ])
        go_cut [47] (fun v47 wc => ∃ (kq : Nat) (x47_15 : Bool), v47 = .bool x47_15 ∧ Aside0 (L28_PickApart.j1 kq x9_1 x47_15 t918 t919 x9_1 0 (wrap64 ((wrap64 (Int.tdiv t924 2)) * 2)) t925 t926 t927 t928 t929 t930 x936009_1 t937 t938 t939 t940 = some true) ∧ Aside0 (kq ≤ k1) ∧ Aside0 (Kd.R k29 29 wc w.heap.size (fun k_ => some k_ ≠ ((.slice Ao20 x936009_1.length co20) : Value).ownBlock ∧ k_ ≠ gb943) (.slice Ao10 t919.length co10) t919) ∧ Aside0 (Kd.R k29 29 wc w.heap.size (fun k_ => some k_ ≠ ((.slice Ao10 t919.length co10) : Value).ownBlock ∧ k_ ≠ gb943) (.slice Ao20 x936009_1.length co20) x936009_1) ∧ Aside0 (wc.heap[gb934]? = some (.cells #[.int .i64 t918, (.slice Ao10 t919.length co10)] 25 (0, 0))) ∧ Aside0 (wc.heap[gb935]? = some (.cells #[.int .i64 x9_1, .int .i64 0, .int .i64 (wrap64 ((wrap64 (Int.tdiv t924 2)) * 2)), .int .i64 t925, .int .i64 t926, .int .i64 t927, .int .i64 t928, .int .i64 t929, .int .i64 t930, (.slice Ao20 x936009_1.length co20)] 60 (0, 0))) ∧ Aside0 (wc.heap[gb943]? = some (.cells #[.int .i64 t937, .int .i64 t938, .int .i64 t939, .int .i64 t940] 29 (0, 0))) ∧ Aside0 (Below w.heap.size w wc))
        case first =>
          have H := HC16.out
          clear HC16
          by_cases c26 : t941 = true
          · subst c26
            have H1 : ((L28_hall.f t937 t938 t939 t940).bind fun t944 => (L28_PickApart.j1 k1 x9_1 (!t944) t918 t919 x9_1 0 (wrap64 ((wrap64 (Int.tdiv t924 2)) * 2)) t925 t926 t927 t928 t929 t930 x936009_1 t937 t938 t939 t940)) = some true := by rw [if_pos rfl] at H; exact H
            clear H
            have H := H1
            clear H1
            replace H := Option.bind_eq_some_iff.mp H
            obtain ⟨t944, A270, H⟩ := H
            replace H : (L28_PickApart.j1 k1 x9_1 (!t944) t918 t919 x9_1 0 (wrap64 ((wrap64 (Int.tdiv t924 2)) * 2)) t925 t926 t927 t928 t929 t930 x936009_1 t937 t938 t939 t940) = some true := H
            have A27 := Aside0.mk A270
            clear A270
            have H' := Aside0.mk H
            clear H
            have hnb28 := NB943_934.out
            have hnc28 := NB934_943.out
            have hnb29 := NB943_935.out
            have hnc29 := NB935_943.out
            have hcz30_0 : w22.cell? ⟨gb943, 0, none⟩ = some (.int .i64 0) := (blk_cell BK943.out 0).trans rfl
            have hcz30_1 : w22.cell? ⟨gb943, 1, none⟩ = some (.int .i64 0) := (blk_cell BK943.out 1).trans rfl
            have hcz30_2 : w22.cell? ⟨gb943, 2, none⟩ = some (.int .i64 0) := (blk_cell BK943.out 2).trans rfl
            have hcz30_3 : w22.cell? ⟨gb943, 3, none⟩ = some (.int .i64 0) := (blk_cell BK943.out 3).trans rfl
            have hfz30_0 := blk_frozen BK943.out 0
            have hfz30_1 := blk_frozen BK943.out 1
            have hfz30_2 := blk_frozen BK943.out 2
            have hfz30_3 := blk_frozen BK943.out 3
            go_wp2_with (first | ((with_reducible refine gate_callee (f := 55) rfl ?_); (with_reducible refine gate_dst (N := 45) rfl ?_); refine gate_guard (by rfl) ?_; dsimp only; refine goesL_ (some 45) rfl rfl Try.func55 (by kernel_rfl) rfl #[.agg #[.int .i64 t937, .int .i64 t938, .int .i64 t939, .int .i64 t940]] rfl (by (try simp only [List.map_toArray, List.map_cons, List.map_nil]); first | done | rfl | (simp only [List.length_drop, List.length_take]; rfl)) ?_; (with_reducible refine (L28_hall.calls t937 t938 t939 t940 t944 _ A27.out).mono ?_); rintro e w31 ⟨rfl, hb⟩; refine ⟨_, rfl, ?_⟩; have n0_ := Aside0.mk (Kd.R_below (by (with_reducible repeat (first | apply Kd.R_alloc | apply Kd.R_drewN | apply Kd.R_drew)); exact (Kd.R_mono (Kd.R_far (p := ⟨gb943, 3, none⟩) (Kd.R_far (p := ⟨gb943, 2, none⟩) (Kd.R_far (p := ⟨gb943, 1, none⟩) (Kd.R_far (p := ⟨gb943, 0, none⟩) (Kd.R_mono HO_935001.out (fun k_ hk => (⟨hk, hk.2⟩ : _ ∧ k_ ≠ gb943))) (fun _ hk => hk.2) (.int .i64 t937)) (fun _ hk => hk.2) (.int .i64 t938)) (fun _ hk => hk.2) (.int .i64 t939)) (fun _ hk => hk.2) (.int .i64 t940)) (fun _ h_ => h_.1))) hb); have n1_ := Aside0.mk (Kd.R_below (by (with_reducible repeat (first | apply Kd.R_alloc | apply Kd.R_drewN | apply Kd.R_drew)); exact (Kd.R_mono (Kd.R_far (p := ⟨gb943, 3, none⟩) (Kd.R_far (p := ⟨gb943, 2, none⟩) (Kd.R_far (p := ⟨gb943, 1, none⟩) (Kd.R_far (p := ⟨gb943, 0, none⟩) (Kd.R_mono HO_936009.out (fun k_ hk => (⟨hk, hk.2⟩ : _ ∧ k_ ≠ gb943))) (fun _ hk => hk.2) (.int .i64 t937)) (fun _ hk => hk.2) (.int .i64 t938)) (fun _ hk => hk.2) (.int .i64 t939)) (fun _ hk => hk.2) (.int .i64 t940)) (fun _ h_ => h_.1))) hb); have n2_ := Aside0.mk (blk_below (g := gb934) (o := .cells #[.int .i64 t918, .slice Ao10 t919.length co10] 25 (0, 0)) (by (with_reducible repeat (first | refine blk_drewN ?_ _ | refine blk_drew ?_ | refine blk_alloc ?_ _)); refine blk_far ?_ NB934_943.out _; (with_reducible repeat (first | refine blk_drewN ?_ _ | refine blk_drew ?_ | refine blk_alloc ?_ _)); refine blk_far ?_ NB934_943.out _; (with_reducible repeat (first | refine blk_drewN ?_ _ | refine blk_drew ?_ | refine blk_alloc ?_ _)); refine blk_far ?_ NB934_943.out _; (with_reducible repeat (first | refine blk_drewN ?_ _ | refine blk_drew ?_ | refine blk_alloc ?_ _)); refine blk_far ?_ NB934_943.out _; (with_reducible repeat (first | refine blk_drewN ?_ _ | refine blk_drew ?_ | refine blk_alloc ?_ _)); exact BK934.out) hb); have n3_ := Aside0.mk (blk_below (g := gb935) (o := .cells #[.int .i64 x9_1, .int .i64 0, .int .i64 (wrap64 ((wrap64 (Int.tdiv t924 2)) * 2)), .int .i64 t925, .int .i64 t926, .int .i64 t927, .int .i64 t928, .int .i64 t929, .int .i64 t930, .slice Ao20 x936009_1.length co20] 60 (0, 0)) (by (with_reducible repeat (first | refine blk_drewN ?_ _ | refine blk_drew ?_ | refine blk_alloc ?_ _)); refine blk_far ?_ NB935_943.out _; (with_reducible repeat (first | refine blk_drewN ?_ _ | refine blk_drew ?_ | refine blk_alloc ?_ _)); refine blk_far ?_ NB935_943.out _; (with_reducible repeat (first | refine blk_drewN ?_ _ | refine blk_drew ?_ | refine blk_alloc ?_ _)); refine blk_far ?_ NB935_943.out _; (with_reducible repeat (first | refine blk_drewN ?_ _ | refine blk_drew ?_ | refine blk_alloc ?_ _)); refine blk_far ?_ NB935_943.out _; (with_reducible repeat (first | refine blk_drewN ?_ _ | refine blk_drew ?_ | refine blk_alloc ?_ _)); exact BK935.out) hb); have n4_ := Aside0.mk (blk_below (g := gb943) (o := .cells #[.int .i64 t937, .int .i64 t938, .int .i64 t939, .int .i64 t940] 29 (0, 0)) (by (with_reducible repeat (first | refine blk_drewN ?_ _ | refine blk_drew ?_ | refine blk_alloc ?_ _)); refine blk_put (cs := #[.int .i64 t937, .int .i64 t938, .int .i64 t939, .int .i64 0]) ?_ 3 _ rfl; (with_reducible repeat (first | refine blk_drewN ?_ _ | refine blk_drew ?_ | refine blk_alloc ?_ _)); refine blk_put (cs := #[.int .i64 t937, .int .i64 t938, .int .i64 0, .int .i64 0]) ?_ 2 _ rfl; (with_reducible repeat (first | refine blk_drewN ?_ _ | refine blk_drew ?_ | refine blk_alloc ?_ _)); refine blk_put (cs := #[.int .i64 t937, .int .i64 0, .int .i64 0, .int .i64 0]) ?_ 1 _ rfl; (with_reducible repeat (first | refine blk_drewN ?_ _ | refine blk_drew ?_ | refine blk_alloc ?_ _)); refine blk_put (cs := #[.int .i64 0, .int .i64 0, .int .i64 0, .int .i64 0]) ?_ 0 _ rfl; (with_reducible repeat (first | refine blk_drewN ?_ _ | refine blk_drew ?_ | refine blk_alloc ?_ _)); exact BK943.out) hb); have n5_ := Aside0.mk (below_step (by repeat (first | (with_reducible first | exact HB.out | apply below_alloc | apply pw_below_drewN | apply below_drew1 | refine below_set ?_ GE934.out | refine below_set ?_ GE935.out | refine below_set ?_ GE943.out) | exact HB.out)) hb); clear HO_935001; clear HO_936009; clear BK934; clear BK935; clear BK943; clear HB; have HO_935001 := n0_; have HO_936009 := n1_; have BK934 := n2_; have BK935 := n3_; have BK943 := n4_; have HB := n5_; clear n0_ n1_ n2_ n3_ n4_ n5_; (try clear hb); (try clear hb2); (try clear hk); (try clear hi)))
            go_meet
            case rel => exact ⟨_, (!t944), (by first | rfl | (simp; done) | (simp [*]; done)), H', ⟨by have := HK1.out; first | omega | exact Nat.le_refl _⟩, ⟨by (with_reducible repeat (first | apply Kd.R_alloc | apply Kd.R_drewN | apply Kd.R_drew)); exact HO_935001.out⟩, ⟨by (with_reducible repeat (first | apply Kd.R_alloc | apply Kd.R_drewN | apply Kd.R_drew)); exact HO_936009.out⟩, ⟨by (with_reducible repeat (first | refine blk_drewN ?_ _ | refine blk_drew ?_ | refine blk_alloc ?_ _)); exact BK934.out⟩, ⟨by (with_reducible repeat (first | refine blk_drewN ?_ _ | refine blk_drew ?_ | refine blk_alloc ?_ _)); exact BK935.out⟩, ⟨by (with_reducible repeat (first | refine blk_drewN ?_ _ | refine blk_drew ?_ | refine blk_alloc ?_ _)); exact BK943.out⟩, ⟨by repeat (first | (with_reducible first | exact HB.out | apply below_alloc | apply pw_below_drewN | apply below_drew1 | refine below_set ?_ GE934.out | refine below_set ?_ GE935.out | refine below_set ?_ GE943.out) | exact HB.out)⟩⟩
          · replace c26 := Bool.eq_false_iff.mpr c26
            subst c26
            have H1 : (L28_PickApart.j1 k1 x9_1 true t918 t919 x9_1 0 (wrap64 ((wrap64 (Int.tdiv t924 2)) * 2)) t925 t926 t927 t928 t929 t930 x936009_1 t937 t938 t939 t940) = some true := by rw [if_neg (show ¬ (false = true) by decide)] at H; exact H
            clear H
            have H := H1
            clear H1
            have H' := Aside0.mk H
            clear H
            go_wp2
            go_meet
            case rel => exact ⟨_, (true), (by first | rfl | (simp; done) | (simp [*]; done)), H', ⟨by have := HK1.out; first | omega | exact Nat.le_refl _⟩, ⟨by (with_reducible repeat (first | apply Kd.R_alloc | apply Kd.R_drewN | apply Kd.R_drew)); exact Kd.R_mono (Kd.R_far (p := ⟨gb943, 3, none⟩) (Kd.R_far (p := ⟨gb943, 2, none⟩) (Kd.R_far (p := ⟨gb943, 1, none⟩) (Kd.R_far (p := ⟨gb943, 0, none⟩) (Kd.R_mono HO_935001.out (fun k_ hk => (⟨hk, hk.2⟩ : _ ∧ k_ ≠ gb943))) (fun _ hk => hk.2) (.int .i64 t937)) (fun _ hk => hk.2) (.int .i64 t938)) (fun _ hk => hk.2) (.int .i64 t939)) (fun _ hk => hk.2) (.int .i64 t940)) (fun _ hk => ⟨hk.1.1, hk.1.2⟩)⟩, ⟨by (with_reducible repeat (first | apply Kd.R_alloc | apply Kd.R_drewN | apply Kd.R_drew)); exact Kd.R_mono (Kd.R_far (p := ⟨gb943, 3, none⟩) (Kd.R_far (p := ⟨gb943, 2, none⟩) (Kd.R_far (p := ⟨gb943, 1, none⟩) (Kd.R_far (p := ⟨gb943, 0, none⟩) (Kd.R_mono HO_936009.out (fun k_ hk => (⟨hk, hk.2⟩ : _ ∧ k_ ≠ gb943))) (fun _ hk => hk.2) (.int .i64 t937)) (fun _ hk => hk.2) (.int .i64 t938)) (fun _ hk => hk.2) (.int .i64 t939)) (fun _ hk => hk.2) (.int .i64 t940)) (fun _ hk => ⟨hk.1.1, hk.1.2⟩)⟩, ⟨by (with_reducible repeat (first | refine blk_drewN ?_ _ | refine blk_drew ?_ | refine blk_alloc ?_ _)); refine blk_far ?_ NB934_943.out _; (with_reducible repeat (first | refine blk_drewN ?_ _ | refine blk_drew ?_ | refine blk_alloc ?_ _)); refine blk_far ?_ NB934_943.out _; (with_reducible repeat (first | refine blk_drewN ?_ _ | refine blk_drew ?_ | refine blk_alloc ?_ _)); refine blk_far ?_ NB934_943.out _; (with_reducible repeat (first | refine blk_drewN ?_ _ | refine blk_drew ?_ | refine blk_alloc ?_ _)); refine blk_far ?_ NB934_943.out _; (with_reducible repeat (first | refine blk_drewN ?_ _ | refine blk_drew ?_ | refine blk_alloc ?_ _)); exact BK934.out⟩, ⟨by (with_reducible repeat (first | refine blk_drewN ?_ _ | refine blk_drew ?_ | refine blk_alloc ?_ _)); refine blk_far ?_ NB935_943.out _; (with_reducible repeat (first | refine blk_drewN ?_ _ | refine blk_drew ?_ | refine blk_alloc ?_ _)); refine blk_far ?_ NB935_943.out _; (with_reducible repeat (first | refine blk_drewN ?_ _ | refine blk_drew ?_ | refine blk_alloc ?_ _)); refine blk_far ?_ NB935_943.out _; (with_reducible repeat (first | refine blk_drewN ?_ _ | refine blk_drew ?_ | refine blk_alloc ?_ _)); refine blk_far ?_ NB935_943.out _; (with_reducible repeat (first | refine blk_drewN ?_ _ | refine blk_drew ?_ | refine blk_alloc ?_ _)); exact BK935.out⟩, ⟨by (with_reducible repeat (first | refine blk_drewN ?_ _ | refine blk_drew ?_ | refine blk_alloc ?_ _)); refine blk_put (cs := #[.int .i64 t937, .int .i64 t938, .int .i64 t939, .int .i64 0]) ?_ 3 _ rfl; (with_reducible repeat (first | refine blk_drewN ?_ _ | refine blk_drew ?_ | refine blk_alloc ?_ _)); refine blk_put (cs := #[.int .i64 t937, .int .i64 t938, .int .i64 0, .int .i64 0]) ?_ 2 _ rfl; (with_reducible repeat (first | refine blk_drewN ?_ _ | refine blk_drew ?_ | refine blk_alloc ?_ _)); refine blk_put (cs := #[.int .i64 t937, .int .i64 0, .int .i64 0, .int .i64 0]) ?_ 1 _ rfl; (with_reducible repeat (first | refine blk_drewN ?_ _ | refine blk_drew ?_ | refine blk_alloc ?_ _)); refine blk_put (cs := #[.int .i64 0, .int .i64 0, .int .i64 0, .int .i64 0]) ?_ 0 _ rfl; (with_reducible repeat (first | refine blk_drewN ?_ _ | refine blk_drew ?_ | refine blk_alloc ?_ _)); exact BK943.out⟩, ⟨by repeat (first | (with_reducible first | exact HB.out | apply below_alloc | apply pw_below_drewN | apply below_drew1 | refine below_set ?_ GE934.out | refine below_set ?_ GE935.out | refine below_set ?_ GE943.out) | exact HB.out)⟩⟩
        case rest =>
          clear HC16
          try clear c1
          try clear c2
          try clear p2
          try clear c5
          try clear p6
          try clear c8
          try clear c10
          try clear c13
          try clear c13b0
          try clear c15
          try clear c15b0
          try clear c15b1
          try clear c17
          try clear c23
          try clear c24
          try clear c26
          try clear c28
          try clear c29
          try clear hcz11_0
          try clear hcz11_1
          try clear hcz11_2
          try clear hcz11_3
          try clear hcz11_4
          try clear hcz11_5
          try clear hcz11_6
          try clear hcz11_7
          try clear hcz11_8
          try clear hcz11_9
          try clear hcz18_0
          try clear hcz18_1
          try clear hcz18_2
          try clear hcz18_3
          try clear hcz18_4
          try clear hcz18_5
          try clear hcz18_6
          try clear hcz18_7
          try clear hcz18_8
          try clear hcz18_9
          try clear hcz19_0
          try clear hcz19_1
          try clear hcz25_0
          try clear hcz25_1
          try clear hcz25_2
          try clear hcz25_3
          try clear hcz30_0
          try clear hcz30_1
          try clear hcz30_2
          try clear hcz30_3
          try clear hcz9_0
          try clear hcz9_1
          try clear hfz11_0
          try clear hfz11_1
          try clear hfz11_2
          try clear hfz11_3
          try clear hfz11_4
          try clear hfz11_5
          try clear hfz11_6
          try clear hfz11_7
          try clear hfz11_8
          try clear hfz11_9
          try clear hfz18_0
          try clear hfz18_1
          try clear hfz18_2
          try clear hfz18_3
          try clear hfz18_4
          try clear hfz18_5
          try clear hfz18_6
          try clear hfz18_7
          try clear hfz18_8
          try clear hfz18_9
          try clear hfz19_0
          try clear hfz19_1
          try clear hfz25_0
          try clear hfz25_1
          try clear hfz25_2
          try clear hfz25_3
          try clear hfz30_0
          try clear hfz30_1
          try clear hfz30_2
          try clear hfz30_3
          try clear hfz9_0
          try clear hfz9_1
          try clear p2
          try clear p6
          obtain ⟨kq, x47_15, rfl, HA, HJ15, HO_935001, HO_936009, BK934, BK935, BK943, HB⟩ := hcut
          cases kq with
          | zero => exact absurd HA.out (by simp [L28_PickApart.j1])
          | succ kj15 =>
            have H := HA.out
            clear HA
            simp only [L28_PickApart.j1] at H
            by_cases c32 : x47_15 = true
            · subst c32
              have H1 : (L28_PickApart.l0 kj15 (wrap64 (x9_1 + 1)) t918 t919 x9_1 0 (wrap64 ((wrap64 (Int.tdiv t924 2)) * 2)) t925 t926 t927 t928 t929 t930 x936009_1) = some true := by rw [if_pos rfl] at H; exact H
              clear H
              have H := H1
              clear H1
              have H' := Aside0.mk H
              clear H
              go_wp2
              go_roundg kj15
              case measure => have := HK1.out; have := HJ15.out; omega
              case rel => exact ⟨(wrap64 (x9_1 + 1)), (x9_1), (x936009_1), (.slice Ao20 x936009_1.length co20), (by first | rfl | (simp; done) | (simp [*]; done)), H', ⟨by have := HK1.out; have := HJ15.out; omega⟩, ⟨by (with_reducible repeat (first | apply Kd.R_alloc | apply Kd.R_drewN | apply Kd.R_drew)); exact Kd.R_mono HO_935001.out (fun _ hk => hk.1)⟩, ⟨by (with_reducible repeat (first | apply Kd.R_alloc | apply Kd.R_drewN | apply Kd.R_drew)); exact Kd.R_mono HO_936009.out (fun _ hk => hk.1)⟩, ⟨by (with_reducible repeat (first | refine blk_drewN ?_ _ | refine blk_drew ?_ | refine blk_alloc ?_ _)); exact BK934.out⟩, ⟨by (with_reducible repeat (first | refine blk_drewN ?_ _ | refine blk_drew ?_ | refine blk_alloc ?_ _)); exact BK935.out⟩, ⟨by repeat (first | (with_reducible first | exact HB.out | apply below_alloc | apply pw_below_drewN | apply below_drew1 | refine below_set ?_ GE934.out | refine below_set ?_ GE935.out | refine below_set ?_ GE943.out) | exact HB.out)⟩⟩
            · replace c32 := Bool.eq_false_iff.mpr c32
              subst c32
              have H1 : ((L28_in.f kj15 t937 t938 t939 t940 x936009_1).bind fun t945 => (if t945 = true then (L28_PickApart.j2 kj15 x9_1 (decide ((wrap64 (t925 - t940)) < t926)) t918 t919 x9_1 0 (wrap64 ((wrap64 (Int.tdiv t924 2)) * 2)) t925 t926 t927 t928 t929 t930 x936009_1 t937 t938 t939 t940) else (L28_PickApart.j2 kj15 x9_1 false t918 t919 x9_1 0 (wrap64 ((wrap64 (Int.tdiv t924 2)) * 2)) t925 t926 t927 t928 t929 t930 x936009_1 t937 t938 t939 t940))) = some true := by rw [if_neg (show ¬ (false = true) by decide)] at H; exact H
              clear H
              have H := H1
              clear H1
              have HC33 := Aside0.mk H
              clear H
              go_upto_region 11 with (fail)
              go_cut [61] (fun v61 wc => ∃ (kq : Nat) (x61_32 : Bool), v61 = .bool x61_32 ∧ Aside0 (L28_PickApart.j2 kq x9_1 x61_32 t918 t919 x9_1 0 (wrap64 ((wrap64 (Int.tdiv t924 2)) * 2)) t925 t926 t927 t928 t929 t930 x936009_1 t937 t938 t939 t940 = some true) ∧ Aside0 (kq ≤ kj15) ∧ Aside0 (Kd.R k29 29 wc w.heap.size (fun k_ => some k_ ≠ ((.slice Ao20 x936009_1.length co20) : Value).ownBlock ∧ k_ ≠ gb943) (.slice Ao10 t919.length co10) t919) ∧ Aside0 (Kd.R k29 29 wc w.heap.size (fun k_ => some k_ ≠ ((.slice Ao10 t919.length co10) : Value).ownBlock ∧ k_ ≠ gb943) (.slice Ao20 x936009_1.length co20) x936009_1) ∧ Aside0 (wc.heap[gb934]? = some (.cells #[.int .i64 t918, (.slice Ao10 t919.length co10)] 25 (0, 0))) ∧ Aside0 (wc.heap[gb935]? = some (.cells #[.int .i64 x9_1, .int .i64 0, .int .i64 (wrap64 ((wrap64 (Int.tdiv t924 2)) * 2)), .int .i64 t925, .int .i64 t926, .int .i64 t927, .int .i64 t928, .int .i64 t929, .int .i64 t930, (.slice Ao20 x936009_1.length co20)] 60 (0, 0))) ∧ Aside0 (wc.heap[gb943]? = some (.cells #[.int .i64 t937, .int .i64 t938, .int .i64 t939, .int .i64 t940] 29 (0, 0))) ∧ Aside0 (Below w.heap.size w wc))
              case first =>
                have H := HC33.out
                clear HC33
                replace H := Option.bind_eq_some_iff.mp H
                obtain ⟨t945, A340, H⟩ := H
                replace H : (if t945 = true then (L28_PickApart.j2 kj15 x9_1 (decide ((wrap64 (t925 - t940)) < t926)) t918 t919 x9_1 0 (wrap64 ((wrap64 (Int.tdiv t924 2)) * 2)) t925 t926 t927 t928 t929 t930 x936009_1 t937 t938 t939 t940) else (L28_PickApart.j2 kj15 x9_1 false t918 t919 x9_1 0 (wrap64 ((wrap64 (Int.tdiv t924 2)) * 2)) t925 t926 t927 t928 t929 t930 x936009_1 t937 t938 t939 t940)) = some true := H
                have A34 := Aside0.mk A340
                clear A340
                by_cases c35 : t945 = true
                · subst c35
                  have H1 : (L28_PickApart.j2 kj15 x9_1 (decide ((wrap64 (t925 - t940)) < t926)) t918 t919 x9_1 0 (wrap64 ((wrap64 (Int.tdiv t924 2)) * 2)) t925 t926 t927 t928 t929 t930 x936009_1 t937 t938 t939 t940) = some true := by rw [if_pos rfl] at H; exact H
                  clear H
                  have H := H1
                  clear H1
                  have H' := Aside0.mk H
                  clear H
                  have hnb36 := NB943_934.out
                  have hnc36 := NB934_943.out
                  have hnb37 := NB943_935.out
                  have hnc37 := NB935_943.out
                  have hcz38_0 : wc.cell? ⟨gb943, 0, none⟩ = some (.int .i64 t937) := (blk_cell BK943.out 0).trans rfl
                  have hcz38_1 : wc.cell? ⟨gb943, 1, none⟩ = some (.int .i64 t938) := (blk_cell BK943.out 1).trans rfl
                  have hcz38_2 : wc.cell? ⟨gb943, 2, none⟩ = some (.int .i64 t939) := (blk_cell BK943.out 2).trans rfl
                  have hcz38_3 : wc.cell? ⟨gb943, 3, none⟩ = some (.int .i64 t940) := (blk_cell BK943.out 3).trans rfl
                  have hfz38_0 := blk_frozen BK943.out 0
                  have hfz38_1 := blk_frozen BK943.out 1
                  have hfz38_2 := blk_frozen BK943.out 2
                  have hfz38_3 := blk_frozen BK943.out 3
                  have hnb39 := NB935_934.out
                  have hnc39 := NB934_935.out
                  have hcz40_0 : wc.cell? ⟨gb935, 0, none⟩ = some (.int .i64 x9_1) := (blk_cell BK935.out 0).trans rfl
                  have hcz40_1 : wc.cell? ⟨gb935, 1, none⟩ = some (.int .i64 0) := (blk_cell BK935.out 1).trans rfl
                  have hcz40_2 : wc.cell? ⟨gb935, 2, none⟩ = some (.int .i64 (wrap64 ((wrap64 (Int.tdiv t924 2)) * 2))) := (blk_cell BK935.out 2).trans rfl
                  have hcz40_3 : wc.cell? ⟨gb935, 3, none⟩ = some (.int .i64 t925) := (blk_cell BK935.out 3).trans rfl
                  have hcz40_4 : wc.cell? ⟨gb935, 4, none⟩ = some (.int .i64 t926) := (blk_cell BK935.out 4).trans rfl
                  have hcz40_5 : wc.cell? ⟨gb935, 5, none⟩ = some (.int .i64 t927) := (blk_cell BK935.out 5).trans rfl
                  have hcz40_6 : wc.cell? ⟨gb935, 6, none⟩ = some (.int .i64 t928) := (blk_cell BK935.out 6).trans rfl
                  have hcz40_7 : wc.cell? ⟨gb935, 7, none⟩ = some (.int .i64 t929) := (blk_cell BK935.out 7).trans rfl
                  have hcz40_8 : wc.cell? ⟨gb935, 8, none⟩ = some (.int .i64 t930) := (blk_cell BK935.out 8).trans rfl
                  have hcz40_9 : wc.cell? ⟨gb935, 9, none⟩ = some (.slice Ao20 x936009_1.length co20) := (blk_cell BK935.out 9).trans rfl
                  have hfz40_0 := blk_frozen BK935.out 0
                  have hfz40_1 := blk_frozen BK935.out 1
                  have hfz40_2 := blk_frozen BK935.out 2
                  have hfz40_3 := blk_frozen BK935.out 3
                  have hfz40_4 := blk_frozen BK935.out 4
                  have hfz40_5 := blk_frozen BK935.out 5
                  have hfz40_6 := blk_frozen BK935.out 6
                  have hfz40_7 := blk_frozen BK935.out 7
                  have hfz40_8 := blk_frozen BK935.out 8
                  have hfz40_9 := blk_frozen BK935.out 9
                  go_wp2_with (first | ((with_reducible refine gate_callee (f := 58) rfl ?_); refine goesL_ (some 51) rfl rfl Try.func58 (by kernel_rfl) rfl #[.agg #[.int .i64 t937, .int .i64 t938, .int .i64 t939, .int .i64 t940], .slice Ao20 x936009_1.length co20] rfl (by (try simp only [List.map_toArray, List.map_cons, List.map_nil]); first | done | rfl | (simp only [List.length_drop, List.length_take]; rfl)) ?_; (with_reducible refine (L28_in.calls kj15 t937 t938 t939 t940 _ _ x936009_1 true _ ?side1 ?side2 A34.out).mono ?_); (case side1 => repeat (first | exact (Kd.R_reads' HO_936009.out).2.2 | (with_reducible refine Kd.C_alloc ?_ _) | (with_reducible refine Kd.C_drewN ?_ _) | (with_reducible refine Kd.C_drew ?_))); (case side2 => exact (Kd.R_reads' HO_936009.out).2.1); rintro e w41 ⟨rfl, hb⟩; refine ⟨_, rfl, ?_⟩; have n0_ := Aside0.mk (Kd.R_below (by (with_reducible repeat (first | apply Kd.R_alloc | apply Kd.R_drewN | apply Kd.R_drew)); exact HO_935001.out) hb); have n1_ := Aside0.mk (Kd.R_below (by (with_reducible repeat (first | apply Kd.R_alloc | apply Kd.R_drewN | apply Kd.R_drew)); exact HO_936009.out) hb); have n2_ := Aside0.mk (blk_below (g := gb934) (o := .cells #[.int .i64 t918, .slice Ao10 t919.length co10] 25 (0, 0)) (by (with_reducible repeat (first | refine blk_drewN ?_ _ | refine blk_drew ?_ | refine blk_alloc ?_ _)); exact BK934.out) hb); have n3_ := Aside0.mk (blk_below (g := gb935) (o := .cells #[.int .i64 x9_1, .int .i64 0, .int .i64 (wrap64 ((wrap64 (Int.tdiv t924 2)) * 2)), .int .i64 t925, .int .i64 t926, .int .i64 t927, .int .i64 t928, .int .i64 t929, .int .i64 t930, .slice Ao20 x936009_1.length co20] 60 (0, 0)) (by (with_reducible repeat (first | refine blk_drewN ?_ _ | refine blk_drew ?_ | refine blk_alloc ?_ _)); exact BK935.out) hb); have n4_ := Aside0.mk (blk_below (g := gb943) (o := .cells #[.int .i64 t937, .int .i64 t938, .int .i64 t939, .int .i64 t940] 29 (0, 0)) (by (with_reducible repeat (first | refine blk_drewN ?_ _ | refine blk_drew ?_ | refine blk_alloc ?_ _)); exact BK943.out) hb); have n5_ := Aside0.mk (below_step (by repeat (first | (with_reducible first | exact HB.out | apply below_alloc | apply pw_below_drewN | apply below_drew1 | refine below_set ?_ GE934.out | refine below_set ?_ GE935.out | refine below_set ?_ GE943.out) | exact HB.out)) hb); clear HO_935001; clear HO_936009; clear BK934; clear BK935; clear BK943; clear HB; have HO_935001 := n0_; have HO_936009 := n1_; have BK934 := n2_; have BK935 := n3_; have BK943 := n4_; have HB := n5_; clear n0_ n1_ n2_ n3_ n4_ n5_; (try clear hb); (try clear hb2); (try clear hk); (try clear hi); have hcz42_0 : w41.cell? ⟨gb935, 0, none⟩ = some (.int .i64 x9_1) := (blk_cell BK935.out 0).trans rfl; have hcz42_1 : w41.cell? ⟨gb935, 1, none⟩ = some (.int .i64 0) := (blk_cell BK935.out 1).trans rfl; have hcz42_2 : w41.cell? ⟨gb935, 2, none⟩ = some (.int .i64 (wrap64 ((wrap64 (Int.tdiv t924 2)) * 2))) := (blk_cell BK935.out 2).trans rfl; have hcz42_3 : w41.cell? ⟨gb935, 3, none⟩ = some (.int .i64 t925) := (blk_cell BK935.out 3).trans rfl; have hcz42_4 : w41.cell? ⟨gb935, 4, none⟩ = some (.int .i64 t926) := (blk_cell BK935.out 4).trans rfl; have hcz42_5 : w41.cell? ⟨gb935, 5, none⟩ = some (.int .i64 t927) := (blk_cell BK935.out 5).trans rfl; have hcz42_6 : w41.cell? ⟨gb935, 6, none⟩ = some (.int .i64 t928) := (blk_cell BK935.out 6).trans rfl; have hcz42_7 : w41.cell? ⟨gb935, 7, none⟩ = some (.int .i64 t929) := (blk_cell BK935.out 7).trans rfl; have hcz42_8 : w41.cell? ⟨gb935, 8, none⟩ = some (.int .i64 t930) := (blk_cell BK935.out 8).trans rfl; have hcz42_9 : w41.cell? ⟨gb935, 9, none⟩ = some (.slice Ao20 x936009_1.length co20) := (blk_cell BK935.out 9).trans rfl; have hfz42_0 := blk_frozen BK935.out 0; have hfz42_1 := blk_frozen BK935.out 1; have hfz42_2 := blk_frozen BK935.out 2; have hfz42_3 := blk_frozen BK935.out 3; have hfz42_4 := blk_frozen BK935.out 4; have hfz42_5 := blk_frozen BK935.out 5; have hfz42_6 := blk_frozen BK935.out 6; have hfz42_7 := blk_frozen BK935.out 7; have hfz42_8 := blk_frozen BK935.out 8; have hfz42_9 := blk_frozen BK935.out 9; have hcz43_0 : w41.cell? ⟨gb943, 0, none⟩ = some (.int .i64 t937) := (blk_cell BK943.out 0).trans rfl; have hcz43_1 : w41.cell? ⟨gb943, 1, none⟩ = some (.int .i64 t938) := (blk_cell BK943.out 1).trans rfl; have hcz43_2 : w41.cell? ⟨gb943, 2, none⟩ = some (.int .i64 t939) := (blk_cell BK943.out 2).trans rfl; have hcz43_3 : w41.cell? ⟨gb943, 3, none⟩ = some (.int .i64 t940) := (blk_cell BK943.out 3).trans rfl; have hfz43_0 := blk_frozen BK943.out 0; have hfz43_1 := blk_frozen BK943.out 1; have hfz43_2 := blk_frozen BK943.out 2; have hfz43_3 := blk_frozen BK943.out 3))
                  go_meet
                  case rel => exact ⟨_, (decide ((wrap64 (t925 - t940)) < t926)), (by first | rfl | (simp; done) | (simp [*]; done)), H', ⟨by have := HK1.out; have := HJ15.out; first | omega | exact Nat.le_refl _⟩, ⟨by (with_reducible repeat (first | apply Kd.R_alloc | apply Kd.R_drewN | apply Kd.R_drew)); exact HO_935001.out⟩, ⟨by (with_reducible repeat (first | apply Kd.R_alloc | apply Kd.R_drewN | apply Kd.R_drew)); exact HO_936009.out⟩, ⟨by (with_reducible repeat (first | refine blk_drewN ?_ _ | refine blk_drew ?_ | refine blk_alloc ?_ _)); exact BK934.out⟩, ⟨by (with_reducible repeat (first | refine blk_drewN ?_ _ | refine blk_drew ?_ | refine blk_alloc ?_ _)); exact BK935.out⟩, ⟨by (with_reducible repeat (first | refine blk_drewN ?_ _ | refine blk_drew ?_ | refine blk_alloc ?_ _)); exact BK943.out⟩, ⟨by repeat (first | (with_reducible first | exact HB.out | apply below_alloc | apply pw_below_drewN | apply below_drew1 | refine below_set ?_ GE934.out | refine below_set ?_ GE935.out | refine below_set ?_ GE943.out) | exact HB.out)⟩⟩
                · replace c35 := Bool.eq_false_iff.mpr c35
                  subst c35
                  have H1 : (L28_PickApart.j2 kj15 x9_1 false t918 t919 x9_1 0 (wrap64 ((wrap64 (Int.tdiv t924 2)) * 2)) t925 t926 t927 t928 t929 t930 x936009_1 t937 t938 t939 t940) = some true := by rw [if_neg (show ¬ (false = true) by decide)] at H; exact H
                  clear H
                  have H := H1
                  clear H1
                  have H' := Aside0.mk H
                  clear H
                  have hnb44 := NB943_934.out
                  have hnc44 := NB934_943.out
                  have hnb45 := NB943_935.out
                  have hnc45 := NB935_943.out
                  have hcz46_0 : wc.cell? ⟨gb943, 0, none⟩ = some (.int .i64 t937) := (blk_cell BK943.out 0).trans rfl
                  have hcz46_1 : wc.cell? ⟨gb943, 1, none⟩ = some (.int .i64 t938) := (blk_cell BK943.out 1).trans rfl
                  have hcz46_2 : wc.cell? ⟨gb943, 2, none⟩ = some (.int .i64 t939) := (blk_cell BK943.out 2).trans rfl
                  have hcz46_3 : wc.cell? ⟨gb943, 3, none⟩ = some (.int .i64 t940) := (blk_cell BK943.out 3).trans rfl
                  have hfz46_0 := blk_frozen BK943.out 0
                  have hfz46_1 := blk_frozen BK943.out 1
                  have hfz46_2 := blk_frozen BK943.out 2
                  have hfz46_3 := blk_frozen BK943.out 3
                  have hnb47 := NB935_934.out
                  have hnc47 := NB934_935.out
                  have hcz48_0 : wc.cell? ⟨gb935, 0, none⟩ = some (.int .i64 x9_1) := (blk_cell BK935.out 0).trans rfl
                  have hcz48_1 : wc.cell? ⟨gb935, 1, none⟩ = some (.int .i64 0) := (blk_cell BK935.out 1).trans rfl
                  have hcz48_2 : wc.cell? ⟨gb935, 2, none⟩ = some (.int .i64 (wrap64 ((wrap64 (Int.tdiv t924 2)) * 2))) := (blk_cell BK935.out 2).trans rfl
                  have hcz48_3 : wc.cell? ⟨gb935, 3, none⟩ = some (.int .i64 t925) := (blk_cell BK935.out 3).trans rfl
                  have hcz48_4 : wc.cell? ⟨gb935, 4, none⟩ = some (.int .i64 t926) := (blk_cell BK935.out 4).trans rfl
                  have hcz48_5 : wc.cell? ⟨gb935, 5, none⟩ = some (.int .i64 t927) := (blk_cell BK935.out 5).trans rfl
                  have hcz48_6 : wc.cell? ⟨gb935, 6, none⟩ = some (.int .i64 t928) := (blk_cell BK935.out 6).trans rfl
                  have hcz48_7 : wc.cell? ⟨gb935, 7, none⟩ = some (.int .i64 t929) := (blk_cell BK935.out 7).trans rfl
                  have hcz48_8 : wc.cell? ⟨gb935, 8, none⟩ = some (.int .i64 t930) := (blk_cell BK935.out 8).trans rfl
                  have hcz48_9 : wc.cell? ⟨gb935, 9, none⟩ = some (.slice Ao20 x936009_1.length co20) := (blk_cell BK935.out 9).trans rfl
                  have hfz48_0 := blk_frozen BK935.out 0
                  have hfz48_1 := blk_frozen BK935.out 1
                  have hfz48_2 := blk_frozen BK935.out 2
                  have hfz48_3 := blk_frozen BK935.out 3
                  have hfz48_4 := blk_frozen BK935.out 4
                  have hfz48_5 := blk_frozen BK935.out 5
                  have hfz48_6 := blk_frozen BK935.out 6
                  have hfz48_7 := blk_frozen BK935.out 7
                  have hfz48_8 := blk_frozen BK935.out 8
                  have hfz48_9 := blk_frozen BK935.out 9
                  go_wp2_with (first | ((with_reducible refine gate_callee (f := 58) rfl ?_); refine goesL_ (some 51) rfl rfl Try.func58 (by kernel_rfl) rfl #[.agg #[.int .i64 t937, .int .i64 t938, .int .i64 t939, .int .i64 t940], .slice Ao20 x936009_1.length co20] rfl (by (try simp only [List.map_toArray, List.map_cons, List.map_nil]); first | done | rfl | (simp only [List.length_drop, List.length_take]; rfl)) ?_; (with_reducible refine (L28_in.calls kj15 t937 t938 t939 t940 _ _ x936009_1 false _ ?side1 ?side2 A34.out).mono ?_); (case side1 => repeat (first | exact (Kd.R_reads' HO_936009.out).2.2 | (with_reducible refine Kd.C_alloc ?_ _) | (with_reducible refine Kd.C_drewN ?_ _) | (with_reducible refine Kd.C_drew ?_))); (case side2 => exact (Kd.R_reads' HO_936009.out).2.1); rintro e w49 ⟨rfl, hb⟩; refine ⟨_, rfl, ?_⟩; have n0_ := Aside0.mk (Kd.R_below (by (with_reducible repeat (first | apply Kd.R_alloc | apply Kd.R_drewN | apply Kd.R_drew)); exact HO_935001.out) hb); have n1_ := Aside0.mk (Kd.R_below (by (with_reducible repeat (first | apply Kd.R_alloc | apply Kd.R_drewN | apply Kd.R_drew)); exact HO_936009.out) hb); have n2_ := Aside0.mk (blk_below (g := gb934) (o := .cells #[.int .i64 t918, .slice Ao10 t919.length co10] 25 (0, 0)) (by (with_reducible repeat (first | refine blk_drewN ?_ _ | refine blk_drew ?_ | refine blk_alloc ?_ _)); exact BK934.out) hb); have n3_ := Aside0.mk (blk_below (g := gb935) (o := .cells #[.int .i64 x9_1, .int .i64 0, .int .i64 (wrap64 ((wrap64 (Int.tdiv t924 2)) * 2)), .int .i64 t925, .int .i64 t926, .int .i64 t927, .int .i64 t928, .int .i64 t929, .int .i64 t930, .slice Ao20 x936009_1.length co20] 60 (0, 0)) (by (with_reducible repeat (first | refine blk_drewN ?_ _ | refine blk_drew ?_ | refine blk_alloc ?_ _)); exact BK935.out) hb); have n4_ := Aside0.mk (blk_below (g := gb943) (o := .cells #[.int .i64 t937, .int .i64 t938, .int .i64 t939, .int .i64 t940] 29 (0, 0)) (by (with_reducible repeat (first | refine blk_drewN ?_ _ | refine blk_drew ?_ | refine blk_alloc ?_ _)); exact BK943.out) hb); have n5_ := Aside0.mk (below_step (by repeat (first | (with_reducible first | exact HB.out | apply below_alloc | apply pw_below_drewN | apply below_drew1 | refine below_set ?_ GE934.out | refine below_set ?_ GE935.out | refine below_set ?_ GE943.out) | exact HB.out)) hb); clear HO_935001; clear HO_936009; clear BK934; clear BK935; clear BK943; clear HB; have HO_935001 := n0_; have HO_936009 := n1_; have BK934 := n2_; have BK935 := n3_; have BK943 := n4_; have HB := n5_; clear n0_ n1_ n2_ n3_ n4_ n5_; (try clear hb); (try clear hb2); (try clear hk); (try clear hi)))
                  go_meet
                  case rel => exact ⟨_, (false), (by first | rfl | (simp; done) | (simp [*]; done)), H', ⟨by have := HK1.out; have := HJ15.out; first | omega | exact Nat.le_refl _⟩, ⟨by (with_reducible repeat (first | apply Kd.R_alloc | apply Kd.R_drewN | apply Kd.R_drew)); exact HO_935001.out⟩, ⟨by (with_reducible repeat (first | apply Kd.R_alloc | apply Kd.R_drewN | apply Kd.R_drew)); exact HO_936009.out⟩, ⟨by (with_reducible repeat (first | refine blk_drewN ?_ _ | refine blk_drew ?_ | refine blk_alloc ?_ _)); exact BK934.out⟩, ⟨by (with_reducible repeat (first | refine blk_drewN ?_ _ | refine blk_drew ?_ | refine blk_alloc ?_ _)); exact BK935.out⟩, ⟨by (with_reducible repeat (first | refine blk_drewN ?_ _ | refine blk_drew ?_ | refine blk_alloc ?_ _)); exact BK943.out⟩, ⟨by repeat (first | (with_reducible first | exact HB.out | apply below_alloc | apply pw_below_drewN | apply below_drew1 | refine below_set ?_ GE934.out | refine below_set ?_ GE935.out | refine below_set ?_ GE943.out) | exact HB.out)⟩⟩
              case rest =>
                clear HC33
                try clear c1
                try clear c2
                try clear p2
                try clear c3
                try clear c4
                try clear c5
                try clear p6
                try clear c8
                try clear c10
                try clear c13
                try clear c13b0
                try clear c15
                try clear c15b0
                try clear c15b1
                try clear c17
                try clear c23
                try clear c24
                try clear c26
                try clear c28
                try clear c29
                try clear c32
                try clear c35
                try clear c36
                try clear c37
                try clear c39
                try clear c44
                try clear c45
                try clear c47
                try clear hcz11_0
                try clear hcz11_1
                try clear hcz11_2
                try clear hcz11_3
                try clear hcz11_4
                try clear hcz11_5
                try clear hcz11_6
                try clear hcz11_7
                try clear hcz11_8
                try clear hcz11_9
                try clear hcz18_0
                try clear hcz18_1
                try clear hcz18_2
                try clear hcz18_3
                try clear hcz18_4
                try clear hcz18_5
                try clear hcz18_6
                try clear hcz18_7
                try clear hcz18_8
                try clear hcz18_9
                try clear hcz19_0
                try clear hcz19_1
                try clear hcz25_0
                try clear hcz25_1
                try clear hcz25_2
                try clear hcz25_3
                try clear hcz30_0
                try clear hcz30_1
                try clear hcz30_2
                try clear hcz30_3
                try clear hcz38_0
                try clear hcz38_1
                try clear hcz38_2
                try clear hcz38_3
                try clear hcz40_0
                try clear hcz40_1
                try clear hcz40_2
                try clear hcz40_3
                try clear hcz40_4
                try clear hcz40_5
                try clear hcz40_6
                try clear hcz40_7
                try clear hcz40_8
                try clear hcz40_9
                try clear hcz42_0
                try clear hcz42_1
                try clear hcz42_2
                try clear hcz42_3
                try clear hcz42_4
                try clear hcz42_5
                try clear hcz42_6
                try clear hcz42_7
                try clear hcz42_8
                try clear hcz42_9
                try clear hcz43_0
                try clear hcz43_1
                try clear hcz43_2
                try clear hcz43_3
                try clear hcz46_0
                try clear hcz46_1
                try clear hcz46_2
                try clear hcz46_3
                try clear hcz48_0
                try clear hcz48_1
                try clear hcz48_2
                try clear hcz48_3
                try clear hcz48_4
                try clear hcz48_5
                try clear hcz48_6
                try clear hcz48_7
                try clear hcz48_8
                try clear hcz48_9
                try clear hcz9_0
                try clear hcz9_1
                try clear hfz11_0
                try clear hfz11_1
                try clear hfz11_2
                try clear hfz11_3
                try clear hfz11_4
                try clear hfz11_5
                try clear hfz11_6
                try clear hfz11_7
                try clear hfz11_8
                try clear hfz11_9
                try clear hfz18_0
                try clear hfz18_1
                try clear hfz18_2
                try clear hfz18_3
                try clear hfz18_4
                try clear hfz18_5
                try clear hfz18_6
                try clear hfz18_7
                try clear hfz18_8
                try clear hfz18_9
                try clear hfz19_0
                try clear hfz19_1
                try clear hfz25_0
                try clear hfz25_1
                try clear hfz25_2
                try clear hfz25_3
                try clear hfz30_0
                try clear hfz30_1
                try clear hfz30_2
                try clear hfz30_3
                try clear hfz38_0
                try clear hfz38_1
                try clear hfz38_2
                try clear hfz38_3
                try clear hfz40_0
                try clear hfz40_1
                try clear hfz40_2
                try clear hfz40_3
                try clear hfz40_4
                try clear hfz40_5
                try clear hfz40_6
                try clear hfz40_7
                try clear hfz40_8
                try clear hfz40_9
                try clear hfz42_0
                try clear hfz42_1
                try clear hfz42_2
                try clear hfz42_3
                try clear hfz42_4
                try clear hfz42_5
                try clear hfz42_6
                try clear hfz42_7
                try clear hfz42_8
                try clear hfz42_9
                try clear hfz43_0
                try clear hfz43_1
                try clear hfz43_2
                try clear hfz43_3
                try clear hfz46_0
                try clear hfz46_1
                try clear hfz46_2
                try clear hfz46_3
                try clear hfz48_0
                try clear hfz48_1
                try clear hfz48_2
                try clear hfz48_3
                try clear hfz48_4
                try clear hfz48_5
                try clear hfz48_6
                try clear hfz48_7
                try clear hfz48_8
                try clear hfz48_9
                try clear hfz9_0
                try clear hfz9_1
                try clear p2
                try clear p6
                obtain ⟨kq, x61_32, rfl, HA, HJ32, HO_935001, HO_936009, BK934, BK935, BK943, HB⟩ := hcut
                cases kq with
                | zero => exact absurd HA.out (by simp [L28_PickApart.j2])
                | succ kj32 =>
                  have H := HA.out
                  clear HA
                  simp only [L28_PickApart.j2] at H
                  by_cases c50 : x61_32 = true
                  · subst c50
                    have H1 : (some false) = some true := by rw [if_pos rfl] at H; exact H
                    clear H
                    have H := H1
                    clear H1
                    exact absurd H (by repeat (first | exact never_none | exact never_false | refine never_ite ?_ ?_ | refine never_bind (fun _ => ?_)))
                  replace c50 := Bool.eq_false_iff.mpr c50
                  subst c50
                  have H1 : ((L28_in.f kj32 t937 t938 t939 t940 x936009_1).bind fun t946 => (if t946 = true then (L28_PickApart.l0 kj32 (wrap64 (x9_1 + 1)) t918 t919 x9_1 0 (wrap64 ((wrap64 (Int.tdiv t924 2)) * 2)) t925 t926 t927 t928 t929 t930 x936009_1) else (if x936009_1.length < 4398046511104 then (L28_PickApart.l0 kj32 (wrap64 (x9_1 + 1)) t918 t919 x9_1 0 (wrap64 ((wrap64 (Int.tdiv t924 2)) * 2)) t925 t926 t927 t928 t929 t930 (x936009_1 ++ [(⟨t937, t938, t939, t940⟩ : S29)])) else (none)))) = some true := by rw [if_neg (show ¬ (false = true) by decide)] at H; exact H
                  clear H
                  have H := H1
                  clear H1
                  replace H := Option.bind_eq_some_iff.mp H
                  obtain ⟨t946, A510, H⟩ := H
                  replace H : (if t946 = true then (L28_PickApart.l0 kj32 (wrap64 (x9_1 + 1)) t918 t919 x9_1 0 (wrap64 ((wrap64 (Int.tdiv t924 2)) * 2)) t925 t926 t927 t928 t929 t930 x936009_1) else (if x936009_1.length < 4398046511104 then (L28_PickApart.l0 kj32 (wrap64 (x9_1 + 1)) t918 t919 x9_1 0 (wrap64 ((wrap64 (Int.tdiv t924 2)) * 2)) t925 t926 t927 t928 t929 t930 (x936009_1 ++ [(⟨t937, t938, t939, t940⟩ : S29)])) else (none))) = some true := H
                  have A51 := Aside0.mk A510
                  clear A510
                  by_cases c52 : t946 = true
                  · subst c52
                    have H1 : (L28_PickApart.l0 kj32 (wrap64 (x9_1 + 1)) t918 t919 x9_1 0 (wrap64 ((wrap64 (Int.tdiv t924 2)) * 2)) t925 t926 t927 t928 t929 t930 x936009_1) = some true := by rw [if_pos rfl] at H; exact H
                    clear H
                    have H := H1
                    clear H1
                    have H' := Aside0.mk H
                    clear H
                    have hnb53 := NB943_934.out
                    have hnc53 := NB934_943.out
                    have hnb54 := NB943_935.out
                    have hnc54 := NB935_943.out
                    have hcz55_0 : wc.cell? ⟨gb943, 0, none⟩ = some (.int .i64 t937) := (blk_cell BK943.out 0).trans rfl
                    have hcz55_1 : wc.cell? ⟨gb943, 1, none⟩ = some (.int .i64 t938) := (blk_cell BK943.out 1).trans rfl
                    have hcz55_2 : wc.cell? ⟨gb943, 2, none⟩ = some (.int .i64 t939) := (blk_cell BK943.out 2).trans rfl
                    have hcz55_3 : wc.cell? ⟨gb943, 3, none⟩ = some (.int .i64 t940) := (blk_cell BK943.out 3).trans rfl
                    have hfz55_0 := blk_frozen BK943.out 0
                    have hfz55_1 := blk_frozen BK943.out 1
                    have hfz55_2 := blk_frozen BK943.out 2
                    have hfz55_3 := blk_frozen BK943.out 3
                    have hnb56 := NB935_934.out
                    have hnc56 := NB934_935.out
                    have hcz57_0 : wc.cell? ⟨gb935, 0, none⟩ = some (.int .i64 x9_1) := (blk_cell BK935.out 0).trans rfl
                    have hcz57_1 : wc.cell? ⟨gb935, 1, none⟩ = some (.int .i64 0) := (blk_cell BK935.out 1).trans rfl
                    have hcz57_2 : wc.cell? ⟨gb935, 2, none⟩ = some (.int .i64 (wrap64 ((wrap64 (Int.tdiv t924 2)) * 2))) := (blk_cell BK935.out 2).trans rfl
                    have hcz57_3 : wc.cell? ⟨gb935, 3, none⟩ = some (.int .i64 t925) := (blk_cell BK935.out 3).trans rfl
                    have hcz57_4 : wc.cell? ⟨gb935, 4, none⟩ = some (.int .i64 t926) := (blk_cell BK935.out 4).trans rfl
                    have hcz57_5 : wc.cell? ⟨gb935, 5, none⟩ = some (.int .i64 t927) := (blk_cell BK935.out 5).trans rfl
                    have hcz57_6 : wc.cell? ⟨gb935, 6, none⟩ = some (.int .i64 t928) := (blk_cell BK935.out 6).trans rfl
                    have hcz57_7 : wc.cell? ⟨gb935, 7, none⟩ = some (.int .i64 t929) := (blk_cell BK935.out 7).trans rfl
                    have hcz57_8 : wc.cell? ⟨gb935, 8, none⟩ = some (.int .i64 t930) := (blk_cell BK935.out 8).trans rfl
                    have hcz57_9 : wc.cell? ⟨gb935, 9, none⟩ = some (.slice Ao20 x936009_1.length co20) := (blk_cell BK935.out 9).trans rfl
                    have hfz57_0 := blk_frozen BK935.out 0
                    have hfz57_1 := blk_frozen BK935.out 1
                    have hfz57_2 := blk_frozen BK935.out 2
                    have hfz57_3 := blk_frozen BK935.out 3
                    have hfz57_4 := blk_frozen BK935.out 4
                    have hfz57_5 := blk_frozen BK935.out 5
                    have hfz57_6 := blk_frozen BK935.out 6
                    have hfz57_7 := blk_frozen BK935.out 7
                    have hfz57_8 := blk_frozen BK935.out 8
                    have hfz57_9 := blk_frozen BK935.out 9
                    go_wp2_with (first | ((with_reducible refine gate_callee (f := 58) rfl ?_); refine goesL_ (some 65) rfl rfl Try.func58 (by kernel_rfl) rfl #[.agg #[.int .i64 t937, .int .i64 t938, .int .i64 t939, .int .i64 t940], .slice Ao20 x936009_1.length co20] rfl (by (try simp only [List.map_toArray, List.map_cons, List.map_nil]); first | done | rfl | (simp only [List.length_drop, List.length_take]; rfl)) ?_; (with_reducible refine (L28_in.calls kj32 t937 t938 t939 t940 _ _ x936009_1 true _ ?side1 ?side2 A51.out).mono ?_); (case side1 => repeat (first | exact (Kd.R_reads' HO_936009.out).2.2 | (with_reducible refine Kd.C_alloc ?_ _) | (with_reducible refine Kd.C_drewN ?_ _) | (with_reducible refine Kd.C_drew ?_))); (case side2 => exact (Kd.R_reads' HO_936009.out).2.1); rintro e w58 ⟨rfl, hb⟩; refine ⟨_, rfl, ?_⟩; have n0_ := Aside0.mk (Kd.R_below (by (with_reducible repeat (first | apply Kd.R_alloc | apply Kd.R_drewN | apply Kd.R_drew)); exact HO_935001.out) hb); have n1_ := Aside0.mk (Kd.R_below (by (with_reducible repeat (first | apply Kd.R_alloc | apply Kd.R_drewN | apply Kd.R_drew)); exact HO_936009.out) hb); have n2_ := Aside0.mk (blk_below (g := gb934) (o := .cells #[.int .i64 t918, .slice Ao10 t919.length co10] 25 (0, 0)) (by (with_reducible repeat (first | refine blk_drewN ?_ _ | refine blk_drew ?_ | refine blk_alloc ?_ _)); exact BK934.out) hb); have n3_ := Aside0.mk (blk_below (g := gb935) (o := .cells #[.int .i64 x9_1, .int .i64 0, .int .i64 (wrap64 ((wrap64 (Int.tdiv t924 2)) * 2)), .int .i64 t925, .int .i64 t926, .int .i64 t927, .int .i64 t928, .int .i64 t929, .int .i64 t930, .slice Ao20 x936009_1.length co20] 60 (0, 0)) (by (with_reducible repeat (first | refine blk_drewN ?_ _ | refine blk_drew ?_ | refine blk_alloc ?_ _)); exact BK935.out) hb); have n4_ := Aside0.mk (blk_below (g := gb943) (o := .cells #[.int .i64 t937, .int .i64 t938, .int .i64 t939, .int .i64 t940] 29 (0, 0)) (by (with_reducible repeat (first | refine blk_drewN ?_ _ | refine blk_drew ?_ | refine blk_alloc ?_ _)); exact BK943.out) hb); have n5_ := Aside0.mk (below_step (by repeat (first | (with_reducible first | exact HB.out | apply below_alloc | apply pw_below_drewN | apply below_drew1 | refine below_set ?_ GE934.out | refine below_set ?_ GE935.out | refine below_set ?_ GE943.out) | exact HB.out)) hb); clear HO_935001; clear HO_936009; clear BK934; clear BK935; clear BK943; clear HB; have HO_935001 := n0_; have HO_936009 := n1_; have BK934 := n2_; have BK935 := n3_; have BK943 := n4_; have HB := n5_; clear n0_ n1_ n2_ n3_ n4_ n5_; (try clear hb); (try clear hb2); (try clear hk); (try clear hi)))
                    go_roundg kj32
                    case measure => have := HK1.out; have := HJ15.out; have := HJ32.out; omega
                    case rel => exact ⟨(wrap64 (x9_1 + 1)), (x9_1), (x936009_1), (.slice Ao20 x936009_1.length co20), (by first | rfl | (simp; done) | (simp [*]; done)), H', ⟨by have := HK1.out; have := HJ15.out; have := HJ32.out; omega⟩, ⟨by (with_reducible repeat (first | apply Kd.R_alloc | apply Kd.R_drewN | apply Kd.R_drew)); exact Kd.R_mono HO_935001.out (fun _ hk => hk.1)⟩, ⟨by (with_reducible repeat (first | apply Kd.R_alloc | apply Kd.R_drewN | apply Kd.R_drew)); exact Kd.R_mono HO_936009.out (fun _ hk => hk.1)⟩, ⟨by (with_reducible repeat (first | refine blk_drewN ?_ _ | refine blk_drew ?_ | refine blk_alloc ?_ _)); exact BK934.out⟩, ⟨by (with_reducible repeat (first | refine blk_drewN ?_ _ | refine blk_drew ?_ | refine blk_alloc ?_ _)); exact BK935.out⟩, ⟨by repeat (first | (with_reducible first | exact HB.out | apply below_alloc | apply pw_below_drewN | apply below_drew1 | refine below_set ?_ GE934.out | refine below_set ?_ GE935.out | refine below_set ?_ GE943.out) | exact HB.out)⟩⟩
                  · replace c52 := Bool.eq_false_iff.mpr c52
                    subst c52
                    have H1 : (if x936009_1.length < 4398046511104 then (L28_PickApart.l0 kj32 (wrap64 (x9_1 + 1)) t918 t919 x9_1 0 (wrap64 ((wrap64 (Int.tdiv t924 2)) * 2)) t925 t926 t927 t928 t929 t930 (x936009_1 ++ [(⟨t937, t938, t939, t940⟩ : S29)])) else (none)) = some true := by rw [if_neg (show ¬ (false = true) by decide)] at H; exact H
                    clear H
                    have H := H1
                    clear H1
                    by_cases c59 : x936009_1.length < 4398046511104
                    rotate_left
                    · rw [if_neg c59] at H
                      exact absurd H (by repeat (first | exact never_none | exact never_false | refine never_ite ?_ ?_ | refine never_bind (fun _ => ?_)))
                    rw [if_pos c59] at H
                    have LMc59 := Aside0.mk c59
                    clear c59
                    obtain ⟨y947, hy947⟩ : ∃ y_ : List (S29), y_ = (x936009_1 ++ [(⟨t937, t938, t939, t940⟩ : S29)]) := ⟨_, rfl⟩
                    replace H : (L28_PickApart.l0 kj32 (wrap64 (x9_1 + 1)) t918 t919 x9_1 0 (wrap64 ((wrap64 (Int.tdiv t924 2)) * 2)) t925 t926 t927 t928 t929 t930 y947) = some true := by first | (rw [hy947]; with_reducible exact H) | (have H2_ := (Option.bind_some _ _).symm.trans H; rw [hy947]; with_reducible exact H2_) | (have H2_ := (Option.bind_some _ _).symm.trans H; with_reducible exact H2_) | with_reducible exact H | (rw [hy947]; exact H) | exact H
                    have Ny947 := Aside0.mk hy947
                    clear hy947
                    have H' := Aside0.mk H
                    clear H
                    have hnb60 := NB943_934.out
                    have hnc60 := NB934_943.out
                    have hnb61 := NB943_935.out
                    have hnc61 := NB935_943.out
                    have hcz62_0 : wc.cell? ⟨gb943, 0, none⟩ = some (.int .i64 t937) := (blk_cell BK943.out 0).trans rfl
                    have hcz62_1 : wc.cell? ⟨gb943, 1, none⟩ = some (.int .i64 t938) := (blk_cell BK943.out 1).trans rfl
                    have hcz62_2 : wc.cell? ⟨gb943, 2, none⟩ = some (.int .i64 t939) := (blk_cell BK943.out 2).trans rfl
                    have hcz62_3 : wc.cell? ⟨gb943, 3, none⟩ = some (.int .i64 t940) := (blk_cell BK943.out 3).trans rfl
                    have hfz62_0 := blk_frozen BK943.out 0
                    have hfz62_1 := blk_frozen BK943.out 1
                    have hfz62_2 := blk_frozen BK943.out 2
                    have hfz62_3 := blk_frozen BK943.out 3
                    have hnb63 := NB935_934.out
                    have hnc63 := NB934_935.out
                    have hcz64_0 : wc.cell? ⟨gb935, 0, none⟩ = some (.int .i64 x9_1) := (blk_cell BK935.out 0).trans rfl
                    have hcz64_1 : wc.cell? ⟨gb935, 1, none⟩ = some (.int .i64 0) := (blk_cell BK935.out 1).trans rfl
                    have hcz64_2 : wc.cell? ⟨gb935, 2, none⟩ = some (.int .i64 (wrap64 ((wrap64 (Int.tdiv t924 2)) * 2))) := (blk_cell BK935.out 2).trans rfl
                    have hcz64_3 : wc.cell? ⟨gb935, 3, none⟩ = some (.int .i64 t925) := (blk_cell BK935.out 3).trans rfl
                    have hcz64_4 : wc.cell? ⟨gb935, 4, none⟩ = some (.int .i64 t926) := (blk_cell BK935.out 4).trans rfl
                    have hcz64_5 : wc.cell? ⟨gb935, 5, none⟩ = some (.int .i64 t927) := (blk_cell BK935.out 5).trans rfl
                    have hcz64_6 : wc.cell? ⟨gb935, 6, none⟩ = some (.int .i64 t928) := (blk_cell BK935.out 6).trans rfl
                    have hcz64_7 : wc.cell? ⟨gb935, 7, none⟩ = some (.int .i64 t929) := (blk_cell BK935.out 7).trans rfl
                    have hcz64_8 : wc.cell? ⟨gb935, 8, none⟩ = some (.int .i64 t930) := (blk_cell BK935.out 8).trans rfl
                    have hcz64_9 : wc.cell? ⟨gb935, 9, none⟩ = some (.slice Ao20 x936009_1.length co20) := (blk_cell BK935.out 9).trans rfl
                    have hfz64_0 := blk_frozen BK935.out 0
                    have hfz64_1 := blk_frozen BK935.out 1
                    have hfz64_2 := blk_frozen BK935.out 2
                    have hfz64_3 := blk_frozen BK935.out 3
                    have hfz64_4 := blk_frozen BK935.out 4
                    have hfz64_5 := blk_frozen BK935.out 5
                    have hfz64_6 := blk_frozen BK935.out 6
                    have hfz64_7 := blk_frozen BK935.out 7
                    have hfz64_8 := blk_frozen BK935.out 8
                    have hfz64_9 := blk_frozen BK935.out 9
                    go_wp2_with (first | ((with_reducible refine gate_callee (f := 58) rfl ?_); refine goesL_ (some 65) rfl rfl Try.func58 (by kernel_rfl) rfl #[.agg #[.int .i64 t937, .int .i64 t938, .int .i64 t939, .int .i64 t940], .slice Ao20 x936009_1.length co20] rfl (by (try simp only [List.map_toArray, List.map_cons, List.map_nil]); first | done | rfl | (simp only [List.length_drop, List.length_take]; rfl)) ?_; (with_reducible refine (L28_in.calls kj32 t937 t938 t939 t940 _ _ x936009_1 false _ ?side1 ?side2 A51.out).mono ?_); (case side1 => repeat (first | exact (Kd.R_reads' HO_936009.out).2.2 | (with_reducible refine Kd.C_alloc ?_ _) | (with_reducible refine Kd.C_drewN ?_ _) | (with_reducible refine Kd.C_drew ?_))); (case side2 => exact (Kd.R_reads' HO_936009.out).2.1); rintro e w65 ⟨rfl, hb⟩; refine ⟨_, rfl, ?_⟩; have n0_ := Aside0.mk (Kd.R_below (by (with_reducible repeat (first | apply Kd.R_alloc | apply Kd.R_drewN | apply Kd.R_drew)); exact HO_935001.out) hb); have n1_ := Aside0.mk (Kd.R_below (by (with_reducible repeat (first | apply Kd.R_alloc | apply Kd.R_drewN | apply Kd.R_drew)); exact HO_936009.out) hb); have n2_ := Aside0.mk (blk_below (g := gb934) (o := .cells #[.int .i64 t918, .slice Ao10 t919.length co10] 25 (0, 0)) (by (with_reducible repeat (first | refine blk_drewN ?_ _ | refine blk_drew ?_ | refine blk_alloc ?_ _)); exact BK934.out) hb); have n3_ := Aside0.mk (blk_below (g := gb935) (o := .cells #[.int .i64 x9_1, .int .i64 0, .int .i64 (wrap64 ((wrap64 (Int.tdiv t924 2)) * 2)), .int .i64 t925, .int .i64 t926, .int .i64 t927, .int .i64 t928, .int .i64 t929, .int .i64 t930, .slice Ao20 x936009_1.length co20] 60 (0, 0)) (by (with_reducible repeat (first | refine blk_drewN ?_ _ | refine blk_drew ?_ | refine blk_alloc ?_ _)); exact BK935.out) hb); have n4_ := Aside0.mk (blk_below (g := gb943) (o := .cells #[.int .i64 t937, .int .i64 t938, .int .i64 t939, .int .i64 t940] 29 (0, 0)) (by (with_reducible repeat (first | refine blk_drewN ?_ _ | refine blk_drew ?_ | refine blk_alloc ?_ _)); exact BK943.out) hb); have n5_ := Aside0.mk (below_step (by repeat (first | (with_reducible first | exact HB.out | apply below_alloc | apply pw_below_drewN | apply below_drew1 | refine below_set ?_ GE934.out | refine below_set ?_ GE935.out | refine below_set ?_ GE943.out) | exact HB.out)) hb); clear HO_935001; clear HO_936009; clear BK934; clear BK935; clear BK943; clear HB; have HO_935001 := n0_; have HO_936009 := n1_; have BK934 := n2_; have BK935 := n3_; have BK943 := n4_; have HB := n5_; clear n0_ n1_ n2_ n3_ n4_ n5_; (try clear hb); (try clear hb2); (try clear hk); (try clear hi); have hcz66_0 : w65.cell? ⟨gb935, 0, none⟩ = some (.int .i64 x9_1) := (blk_cell BK935.out 0).trans rfl; have hcz66_1 : w65.cell? ⟨gb935, 1, none⟩ = some (.int .i64 0) := (blk_cell BK935.out 1).trans rfl; have hcz66_2 : w65.cell? ⟨gb935, 2, none⟩ = some (.int .i64 (wrap64 ((wrap64 (Int.tdiv t924 2)) * 2))) := (blk_cell BK935.out 2).trans rfl; have hcz66_3 : w65.cell? ⟨gb935, 3, none⟩ = some (.int .i64 t925) := (blk_cell BK935.out 3).trans rfl; have hcz66_4 : w65.cell? ⟨gb935, 4, none⟩ = some (.int .i64 t926) := (blk_cell BK935.out 4).trans rfl; have hcz66_5 : w65.cell? ⟨gb935, 5, none⟩ = some (.int .i64 t927) := (blk_cell BK935.out 5).trans rfl; have hcz66_6 : w65.cell? ⟨gb935, 6, none⟩ = some (.int .i64 t928) := (blk_cell BK935.out 6).trans rfl; have hcz66_7 : w65.cell? ⟨gb935, 7, none⟩ = some (.int .i64 t929) := (blk_cell BK935.out 7).trans rfl; have hcz66_8 : w65.cell? ⟨gb935, 8, none⟩ = some (.int .i64 t930) := (blk_cell BK935.out 8).trans rfl; have hcz66_9 : w65.cell? ⟨gb935, 9, none⟩ = some (.slice Ao20 x936009_1.length co20) := (blk_cell BK935.out 9).trans rfl; have hfz66_0 := blk_frozen BK935.out 0; have hfz66_1 := blk_frozen BK935.out 1; have hfz66_2 := blk_frozen BK935.out 2; have hfz66_3 := blk_frozen BK935.out 3; have hfz66_4 := blk_frozen BK935.out 4; have hfz66_5 := blk_frozen BK935.out 5; have hfz66_6 := blk_frozen BK935.out 6; have hfz66_7 := blk_frozen BK935.out 7; have hfz66_8 := blk_frozen BK935.out 8; have hfz66_9 := blk_frozen BK935.out 9; have hcz67_0 : w65.cell? ⟨gb943, 0, none⟩ = some (.int .i64 t937) := (blk_cell BK943.out 0).trans rfl; have hcz67_1 : w65.cell? ⟨gb943, 1, none⟩ = some (.int .i64 t938) := (blk_cell BK943.out 1).trans rfl; have hcz67_2 : w65.cell? ⟨gb943, 2, none⟩ = some (.int .i64 t939) := (blk_cell BK943.out 2).trans rfl; have hcz67_3 : w65.cell? ⟨gb943, 3, none⟩ = some (.int .i64 t940) := (blk_cell BK943.out 3).trans rfl; have hfz67_0 := blk_frozen BK943.out 0; have hfz67_1 := blk_frozen BK943.out 1; have hfz67_2 := blk_frozen BK943.out 2; have hfz67_3 := blk_frozen BK943.out 3) | ((with_reducible refine gate_builtin (b := .append) (xs := #[.tmp 68, .tmp 70]) rfl ?_); at_builtin; refine Kd.R_append k29 (w0 := w) w.heap.size rfl (.tmp 68) (.tmp 70) 23 29 (.agg #[(.int .i64 0), (.int .i64 0), (.int .i64 0), (.int .i64 0)]) 32 rfl Try.underlying23 info29 rfl (by decide) (by omega) (.slice Ao20 x936009_1.length co20) x936009_1 (⟨t937, t938, t939, t940⟩ : S29) [.int .i64 t937, .int .i64 t938, .int .i64 t939, .int .i64 t940] (fun k_ => some k_ ≠ (.slice Ao10 t919.length co10 : Value).ownBlock ∧ k_ ≠ gb943) (fun _ => False) rfl rfl ?aP (fun _ hk => hk.elim) ?aF ?aO ?aB ?aS ?aL ?_; (case aP => exact k29_mkM _ _ _ (⟨t937, t938, t939, t940⟩ : S29)); (case aB => exact (by repeat (first | (with_reducible first | exact HB.out | apply below_alloc | apply pw_below_drewN | apply below_drew1 | refine below_set ?_ GE934.out | refine below_set ?_ GE935.out | refine below_set ?_ GE943.out) | exact HB.out))); (case aF => exact (fun k_ hk => ⟨Kd.fresh' (Kd.R_lt (by (with_reducible repeat (first | apply Kd.R_alloc | apply Kd.R_drewN | apply Kd.R_drew)); exact HO_935001.out)) k_ hk, Kd.freshB (g := gb943) (o := .cells #[.int .i64 t937, .int .i64 t938, .int .i64 t939, .int .i64 t940] 29 (0, 0)) (by (with_reducible repeat (first | refine blk_drewN ?_ _ | refine blk_drew ?_ | refine blk_alloc ?_ _)); exact BK943.out) k_ hk⟩)); (case aO => exact (by (with_reducible repeat (first | apply Kd.R_alloc | apply Kd.R_drewN | apply Kd.R_drew)); exact HO_936009.out)); (case aS => exact (below_size (by repeat (first | (with_reducible first | exact HB.out | apply below_alloc | apply pw_below_drewN | apply below_drew1 | refine below_set ?_ GE934.out | refine below_set ?_ GE935.out | refine below_set ?_ GE943.out) | exact HB.out)))); (case aL => have := LMc59.out; omega); intro v948 w68 ho hb hg hat; rw [← Ny947.out] at ho; have n0_ := Aside0.mk (Kd.R_after (ok := (fun k_ => k_ ≠ gb943)) (by (with_reducible repeat (first | apply Kd.R_alloc | apply Kd.R_drewN | apply Kd.R_drew)); exact Kd.R_mono HO_935001.out (fun _ hk => ⟨hk.2, hk.1⟩)) hg hat); have n1_ := Aside0.mk (blk_grown (g := gb934) (o := .cells #[.int .i64 t918, .slice Ao10 t919.length co10] 25 (0, 0)) (by (with_reducible repeat (first | refine blk_drewN ?_ _ | refine blk_drew ?_ | refine blk_alloc ?_ _)); exact BK934.out) hg (Kd.R_ne HO_936009.out BK934.out (by decide))); have n2_ := Aside0.mk (blk_grown (g := gb935) (o := .cells #[.int .i64 x9_1, .int .i64 0, .int .i64 (wrap64 ((wrap64 (Int.tdiv t924 2)) * 2)), .int .i64 t925, .int .i64 t926, .int .i64 t927, .int .i64 t928, .int .i64 t929, .int .i64 t930, .slice Ao20 x936009_1.length co20] 60 (0, 0)) (by (with_reducible repeat (first | refine blk_drewN ?_ _ | refine blk_drew ?_ | refine blk_alloc ?_ _)); exact BK935.out) hg (Kd.R_ne HO_936009.out BK935.out (by decide))); have n3_ := Aside0.mk (blk_grown (g := gb943) (o := .cells #[.int .i64 t937, .int .i64 t938, .int .i64 t939, .int .i64 t940] 29 (0, 0)) (by (with_reducible repeat (first | refine blk_drewN ?_ _ | refine blk_drew ?_ | refine blk_alloc ?_ _)); exact BK943.out) hg (Kd.R_away HO_936009.out (fun _ hk => hk.2))); have n4_ := Aside0.mk (hb); have n5_ := Aside0.mk (ho); clear HO_935001; clear BK934; clear BK935; clear BK943; clear HB; clear HO_936009; have HO_935001 := n0_; have BK934 := n1_; have BK935 := n2_; have BK943 := n3_; have HB := n4_; have HO949 := n5_; clear n0_ n1_ n2_ n3_ n4_ n5_; clear ho hb hg hat; obtain ⟨Ao69, co69, eo69⟩ := Kd.R_slice HO949.out; subst eo69; have hcz70_0 : w68.cell? ⟨gb935, 0, none⟩ = some (.int .i64 x9_1) := (blk_cell BK935.out 0).trans rfl; have hcz70_1 : w68.cell? ⟨gb935, 1, none⟩ = some (.int .i64 0) := (blk_cell BK935.out 1).trans rfl; have hcz70_2 : w68.cell? ⟨gb935, 2, none⟩ = some (.int .i64 (wrap64 ((wrap64 (Int.tdiv t924 2)) * 2))) := (blk_cell BK935.out 2).trans rfl; have hcz70_3 : w68.cell? ⟨gb935, 3, none⟩ = some (.int .i64 t925) := (blk_cell BK935.out 3).trans rfl; have hcz70_4 : w68.cell? ⟨gb935, 4, none⟩ = some (.int .i64 t926) := (blk_cell BK935.out 4).trans rfl; have hcz70_5 : w68.cell? ⟨gb935, 5, none⟩ = some (.int .i64 t927) := (blk_cell BK935.out 5).trans rfl; have hcz70_6 : w68.cell? ⟨gb935, 6, none⟩ = some (.int .i64 t928) := (blk_cell BK935.out 6).trans rfl; have hcz70_7 : w68.cell? ⟨gb935, 7, none⟩ = some (.int .i64 t929) := (blk_cell BK935.out 7).trans rfl; have hcz70_8 : w68.cell? ⟨gb935, 8, none⟩ = some (.int .i64 t930) := (blk_cell BK935.out 8).trans rfl; have hcz70_9 : w68.cell? ⟨gb935, 9, none⟩ = some (.slice Ao20 x936009_1.length co20) := (blk_cell BK935.out 9).trans rfl; have hfz70_0 := blk_frozen BK935.out 0; have hfz70_1 := blk_frozen BK935.out 1; have hfz70_2 := blk_frozen BK935.out 2; have hfz70_3 := blk_frozen BK935.out 3; have hfz70_4 := blk_frozen BK935.out 4; have hfz70_5 := blk_frozen BK935.out 5; have hfz70_6 := blk_frozen BK935.out 6; have hfz70_7 := blk_frozen BK935.out 7; have hfz70_8 := blk_frozen BK935.out 8; have hfz70_9 := blk_frozen BK935.out 9))
                    go_roundg kj32
                    case measure => have := HK1.out; have := HJ15.out; have := HJ32.out; omega
                    case rel => exact ⟨(wrap64 (x9_1 + 1)), (x9_1), (y947), (.slice Ao69 y947.length co69), (by first | rfl | (simp; done) | (simp [*]; done)), H', ⟨by have := HK1.out; have := HJ15.out; have := HJ32.out; omega⟩, ⟨by (with_reducible repeat (first | apply Kd.R_alloc | apply Kd.R_drewN | apply Kd.R_drew)); exact Kd.R_mono (Kd.R_far (p := ⟨gb935, 9, none⟩) (Kd.R_types HO_935001.out BK935.out (by decide)) (fun _ hk => hk.2) (.slice Ao69 y947.length co69)) (fun _ hk => hk.1.2)⟩, ⟨by (with_reducible repeat (first | apply Kd.R_alloc | apply Kd.R_drewN | apply Kd.R_drew)); exact Kd.R_mono (Kd.R_far (p := ⟨gb935, 9, none⟩) (Kd.R_types HO949.out BK935.out (by decide)) (fun _ hk => hk.2) (.slice Ao69 y947.length co69)) (fun _ hk => hk.1.1)⟩, ⟨by (with_reducible repeat (first | refine blk_drewN ?_ _ | refine blk_drew ?_ | refine blk_alloc ?_ _)); refine blk_far ?_ NB934_935.out _; (with_reducible repeat (first | refine blk_drewN ?_ _ | refine blk_drew ?_ | refine blk_alloc ?_ _)); exact BK934.out⟩, ⟨by (with_reducible repeat (first | refine blk_drewN ?_ _ | refine blk_drew ?_ | refine blk_alloc ?_ _)); refine blk_put (cs := #[.int .i64 x9_1, .int .i64 0, .int .i64 (wrap64 ((wrap64 (Int.tdiv t924 2)) * 2)), .int .i64 t925, .int .i64 t926, .int .i64 t927, .int .i64 t928, .int .i64 t929, .int .i64 t930, .slice Ao20 x936009_1.length co20]) ?_ 9 _ rfl; (with_reducible repeat (first | refine blk_drewN ?_ _ | refine blk_drew ?_ | refine blk_alloc ?_ _)); exact BK935.out⟩, ⟨by repeat (first | (with_reducible first | exact HB.out | apply below_alloc | apply pw_below_drewN | apply below_drew1 | refine below_set ?_ GE934.out | refine below_set ?_ GE935.out | refine below_set ?_ GE943.out) | exact HB.out)⟩⟩
      · rw [if_neg c13] at H
        have c13b0 : decide (x9_1 ≤ 8) = false := decide_eq_false c13
        clear c13
        replace H := Option.bind_eq_some_iff.mp H
        obtain ⟨t936, A710, H⟩ := H
        replace H : (some t936) = some true := H
        have A71 := Aside0.mk A710
        clear A710
        have Ht_ := Option.some.inj H
        clear H
        subst Ht_
        have H : (some true : Option Bool) = some true := rfl
        clear H
        go_wp2_with (first | ((with_reducible refine gate_callee (f := 57) rfl ?_); refine goesL_ (some 73) rfl rfl Try.func57 (by kernel_rfl) rfl #[] rfl (by (try simp only [List.map_toArray, List.map_cons, List.map_nil]); first | done | rfl | (simp only [List.length_drop, List.length_take]; rfl)) ?_; (with_reducible refine (L28_awake.calls k1  true _ A71.out).mono ?_); rintro e w72 ⟨rfl, hb⟩; refine ⟨_, rfl, ?_⟩; have n4_ := Aside0.mk (below_step (by repeat (first | (with_reducible first | exact HB.out | apply below_alloc | apply pw_below_drewN | apply below_drew1 | refine below_set ?_ GE934.out | refine below_set ?_ GE935.out) | exact HB.out)) hb); clear HO_935001; clear HO_936009; clear BK934; clear BK935; clear HB; have HB := n4_; clear n4_; (try clear hb); (try clear hb2); (try clear hk); (try clear hi)))
        all_goals go_ret
        all_goals exact ⟨by first | rfl | (simp [errW_none, errW_some] <;> rfl) | (simp [*, errW_none, errW_some] <;> rfl), by repeat (first | (with_reducible first | exact HB.out | apply below_alloc | apply pw_below_drewN | apply below_drew1 | refine below_set ?_ GE934.out | refine below_set ?_ GE935.out) | exact HB.out)⟩

/-- THE ONE PURE STATEMENT of L28_PickApart: yours. -/
def L28_PickApart.Pure : Prop := ∀ (l0 : List Int) (a1 : Int) (a2 : Int), l0.length ≤ maxLen → l0.length * 8 ≤ 140737488351232 → (∀ x ∈ l0, (Lit.int .i64 x).wf = true) → (Lit.int .i64 a1).wf = true → (Lit.int .i64 a2).wf = true → ∃ k, L28_PickApart.f k l0 a1 a2 = some true
theorem L28_PickApart.walk (P : L28_PickApart.Pure) (a0 : Option Addr) (len0 cap0 : Nat) (z0 : List Int) (a1 : Int) (a2 : Int) (w : World) (w0 : (a0 = none ∧ len0 = 0 ∧ cap0 = 0 ∧ z0 = []) ∨ ∃ x, a0 = some x ∧ len0 ≤ cap0 ∧ cap0 ≤ maxLen ∧ z0.length = cap0 ∧ (∀ i, i < z0.length → w.cell? (x.add i) = some (.int .i64 (z0.getD i 0))) ∧ ∀ n ∈ z0, (Lit.int .i64 n).wf = true) (y0 : len0 * 8 ≤ 140737488351232) (w1 : (Lit.int .i64 a1).wf = true) (w2 : (Lit.int .i64 a2).wf = true) :
    Calls Try.prog 10 #[.slice a0 len0 cap0, .int .i64 a1, .int .i64 a2] w fun e w' => e = .returned (.bool true) ∧ Below w.heap.size w w' := by
  obtain ⟨l0, rfl, hr0, hm0, hw0, hc0⟩ := ReadsInt.ofRowC w0
  obtain ⟨k, h⟩ := P l0 a1 a2 hm0 y0 hw0 w1 w2
  refine (L28_PickApart.calls k _ _ l0 a1 a2 true w (Kd.C_of_reads (d := (0 : Int)) (h1 := fun _ => rfl) hr0) hc0 h).mono ?_
  rintro e w' ⟨rfl, hd⟩
  exact ⟨rfl, hd⟩

end Go.Proofs.Ytmfbpkjhabdcgaa.F
end
section
namespace Go.Proofs.Ytmfbpkjhabdcgaa.Pure
open Go.RowKit Go.Proofs.Ytmfbpkjhabdcgaa.F Go.Proofs.YtmfbpkjhabdcgaaW.PrintWords Go.Proofs.YtmfbpkjhabdcgaaW.PrintLast
set_option linter.unusedVariables false
set_option linter.unusedSimpArgs false
theorem awakePA {k : Nat} (hk : 150 ≤ k) : L28_awake.f k = some true := le_fuel L28_awake.mono hk (by kernel_rfl)
end Go.Proofs.Ytmfbpkjhabdcgaa.Pure
end
section
namespace Go.Proofs.Ytmfbpkjhabdcgaa.Pure
open Go.RowKit Go.Proofs.Ytmfbpkjhabdcgaa.F Go.Proofs.YtmfbpkjhabdcgaaW.PrintWords Go.Proofs.YtmfbpkjhabdcgaaW.PrintLast
set_option linter.unusedVariables false
set_option linter.unusedSimpArgs false
def sameAll (x : S29) (c : S29) : Bool := x.f0 == c.f0 && (x.f1 == c.f1 && (x.f2 == c.f2 && (x.f3 == c.f3)))
end Go.Proofs.Ytmfbpkjhabdcgaa.Pure
end
section
namespace Go.Proofs.Ytmfbpkjhabdcgaa.Pure
open Go.RowKit Go.Proofs.Ytmfbpkjhabdcgaa.F Go.Proofs.YtmfbpkjhabdcgaaW.PrintWords Go.Proofs.YtmfbpkjhabdcgaaW.PrintLast
set_option linter.unusedVariables false
set_option linter.unusedSimpArgs false
theorem same_all {x c : S29} (h : sameAll x c = true) : x = c := by
  unfold sameAll at h
  simp only [Bool.and_eq_true, beq_iff_eq] at h
  cases x; cases c
  simp only at h
  obtain ⟨rfl, rfl, rfl, rfl⟩ := h
  rfl
end Go.Proofs.Ytmfbpkjhabdcgaa.Pure
end
section
namespace Go.Proofs.Ytmfbpkjhabdcgaa.Pure
open Go.RowKit Go.Proofs.Ytmfbpkjhabdcgaa.F Go.Proofs.YtmfbpkjhabdcgaaW.PrintWords Go.Proofs.YtmfbpkjhabdcgaaW.PrintLast
set_option linter.unusedVariables false
set_option linter.unusedSimpArgs false
theorem in_lawA (l : List S29) (hl : l.length ≤ 64) (c : S29) : ∀ (d j k : Nat), j + d = l.length → d + 1 ≤ k → L28_in.l0 k l j c.f0 c.f1 c.f2 c.f3 = some ((l.drop j).any (fun x => sameAll x c))
  | 0, j, k, h, hk => by
    obtain ⟨k, rfl⟩ : ∃ z, k = z + 1 := ⟨k - 1, by omega⟩
    rw [L28_in.l0, if_neg (by omega), List.drop_eq_nil_of_le (by omega)]
    rfl
  | d + 1, j, k, h, hk => by
    obtain ⟨k, rfl⟩ : ∃ z, k = z + 1 := ⟨k - 1, by omega⟩
    have hj : j < l.length := by omega
    have hlt : (j : Int) < (l.length : Int) := by omega
    have h0 : (0 : Int) ≤ (j : Int) := by omega
    have ih := in_lawA l hl c d (j + 1) k (by omega) (by omega)
    have hwi : wrap64 ((j : Int) + 1) = ((j + 1 : Nat) : Int) := by rw [wrap_id (by omega) (by omega)]; omega
    rw [L28_in.l0, if_pos hlt, if_pos h0, rd_p l j hj, hwi, List.drop_eq_getElem_cons hj, List.any_cons]
    rw [show (l[j].f0 == c.f0 && (l[j].f1 == c.f1 && (l[j].f2 == c.f2 && (l[j].f3 == c.f3)))) = sameAll l[j] c from rfl]
    by_cases hb : sameAll l[j] c = true
    · rw [if_pos hb, hb]; rfl
    · rw [if_neg hb, show sameAll l[j] c = false by simpa using hb]
      exact ih
end Go.Proofs.Ytmfbpkjhabdcgaa.Pure
end
section
namespace Go.Proofs.Ytmfbpkjhabdcgaa.Pure
open Go.RowKit Go.Proofs.Ytmfbpkjhabdcgaa.F Go.Proofs.YtmfbpkjhabdcgaaW.PrintWords Go.Proofs.YtmfbpkjhabdcgaaW.PrintLast
set_option linter.unusedVariables false
set_option linter.unusedSimpArgs false
theorem apart_loop {trip now cycle floor : Int} (ht : 0 ≤ trip ∧ trip ≤ 15) (he : trip % 2 = 0) (hn : 0 ≤ now ∧ now ≤ 100) (hy : 1 ≤ cycle ∧ cycle ≤ 40) (hf : 0 ≤ floor ∧ floor ≤ 7) (l : List S29) (hV : ValidT 20 l) :
    ∀ (d : Nat) (car car0 : Int) (k : Nat) (Tk : List S29), car + d = 9 → 1 ≤ car → 3 * d + 160 ≤ k → Taken Tk → (Tk.length : Int) + 1 ≤ car →
      L28_PickApart.l0 k car 20 l car0 0 trip now cycle 0 500 floor 2 Tk = some true := by
  intro d
  induction d with
  | zero =>
    intro car car0 k Tk hc hc1 hk hT hTl
    obtain ⟨k, rfl⟩ : ∃ z, k = z + 1 := ⟨k - 1, by omega⟩
    rw [L28_PickApart.l0, if_neg (by omega), awakePA (by omega)]
    rfl
  | succ d ih =>
    intro car car0 k Tk hc hc1 hk hT hTl
    obtain ⟨k, rfl⟩ : ∃ z, k = z + 3 := ⟨k - 3, by omega⟩
    obtain ⟨K, hK, h, hb, r, b, h1, h2, h3⟩ := by_even (k := k + 2) (by omega) hV (car := car) ⟨hc1, by omega⟩ ht he hn hy hf hT
    have hlaw := hallRun_law now cycle K l ⟨0, 0, 0, 0⟩ false hV.ok
    have h8 := hT.1
    have hbig : Tk.length < 4398046511104 := by omega
    have hin := in_lawA Tk (by omega) r Tk.length 0 (k + 1) (by omega) (by omega)
    have hin2 := in_lawA Tk (by omega) r Tk.length 0 k (by omega) (by omega)
    rw [List.drop_zero] at hin hin2
    have n1 := ih (car + 1) car (k + 1) Tk (by omega) (by omega) (by omega) hT (by omega)
    have n2 := ih (car + 1) car k Tk (by omega) (by omega) (by omega) hT (by omega)
    have n3 := fun h => ih (car + 1) car k (Tk ++ [r]) (by omega) (by omega) (by omega) h (by simp; omega)
    have hlen1 : (Tk ++ [r]).length ≤ 8 := by simp; omega
    have hcar : car ≤ 8 := by omega
    have hwc : wrap64 (car + 1) = car + 1 := wrap_id (by omega) (by omega)
    have hj1 : L28_PickApart.j1 (k + 2) car true 20 l car 0 trip now cycle 0 500 floor 2 Tk r.f0 r.f1 r.f2 r.f3 = some true := by
      rw [L28_PickApart.j1, if_pos rfl, hwc]
      exact n1
    rw [L28_PickApart.l0, if_pos hcar, h2]
    simp only [Option.bind_some, if_true]
    by_cases hbt : b = true
    case neg => rw [if_neg hbt]; exact hj1
    case pos =>
    rw [if_pos hbt]
    unfold L28_hall.f
    simp only [Option.bind_some]
    by_cases h30 : r.f0 = 3
    · rw [show (!(r.f0 != 3)) = true by simp [h30]]
      exact hj1
    · rw [show (!(r.f0 != 3)) = false by simpa using h30, L28_PickApart.j1, if_neg (by decide)]
      unfold L28_in.f
      rw [show (0 : Int) = ((0 : Nat) : Int) from rfl, hin]
      simp only [Option.bind_some]
      -- it is HALL
      have hr : r ∈ l ∧ (cycle ≤ wrap64 (now - r.f3) ∨ keyOf3 r ∉ K) := by
        rcases h3 with ⟨rfl, rfl, _⟩ | ⟨rfl, h3⟩
        · obtain ⟨r', b', g1, g2⟩ := hlaw
          rw [h1] at g1
          simp only [Option.some.injEq, Prod.mk.injEq] at g1
          obtain ⟨rfl, rfl⟩ := g1
          rcases g2 with g2 | ⟨_, g3, _, g4⟩
          · cases (Prod.mk.inj g2).2
          · exact ⟨g3, g4⟩
        · rcases h3 with h3 | ⟨_, _, h3, _⟩
          · rw [h3] at hbt; cases hbt
          · exact absurd h3 h30
      have hj2 : ∀ u : Bool, u = false → L28_PickApart.j2 (k + 1) car u 20 l car 0 trip now cycle 0 500 floor 2 Tk r.f0 r.f1 r.f2 r.f3 = some true := by
        intro u hu
        subst hu
        rw [L28_PickApart.j2, if_neg (by decide)]
        unfold L28_in.f
        rw [show (0 : Int) = ((0 : Nat) : Int) from rfl, hin2]
        simp only [Option.bind_some]
        rw [hwc]
        by_cases ha : Tk.any (fun x => sameAll x r) = true
        · rw [if_pos ha]; exact n2
        · rw [if_neg ha, if_pos hbig]
          refine n3 ⟨hlen1, fun x hx => ?_⟩
          rcases List.mem_append.1 hx with hx | hx
          · exact hT.2 x hx
          · rw [List.mem_singleton] at hx; subst hx; exact ⟨hV.ok _ hr.1, h30⟩
      by_cases ha : Tk.any (fun x => sameAll x r) = true
      · rw [if_pos ha]
        refine hj2 _ ?_
        obtain ⟨x, hx, e⟩ := List.any_eq_true.1 ha
        have e' := same_all e
        subst e'
        have hk' : keyOf3 x ∈ K := (hK _).2 ⟨x, hx, rfl⟩
        rcases hr.2 with hu | hu
        · exact decide_eq_false (Int.not_lt.2 hu)
        · exact absurd hk' hu
      · rw [if_neg ha]
        exact hj2 _ rfl
end Go.Proofs.Ytmfbpkjhabdcgaa.Pure
end
section
namespace Go.Proofs.Ytmfbpkjhabdcgaa.Pure
open Go.RowKit Go.Proofs.Ytmfbpkjhabdcgaa.F Go.Proofs.YtmfbpkjhabdcgaaW.PrintWords Go.Proofs.YtmfbpkjhabdcgaaW.PrintLast
set_option linter.unusedVariables false
set_option linter.unusedSimpArgs false
theorem PickApart : L28_PickApart.Pure := by
  intro x0 x1 x2 _ _ _ _ _
  obtain ⟨K, hK⟩ : ∃ K : Nat, 1000 ≤ K := ⟨1000, Nat.le_refl _⟩
  refine ⟨K, ?_⟩
  obtain ⟨l, T, car, mode, trip, now, cycle, floor, h1, hM, hA⟩ := madeP_law (k := K) (by omega) x0 x1 x2
  have ht := hA.trip
  unfold L28_PickApart.f
  rw [h1]
  simp only [Option.bind_some]
  rw [trip_even ht]
  exact apart_loop ⟨by omega, by omega⟩ (by omega) hA.now hA.cycle hA.floor l hM.valid 8 1 _ K [] (by omega) (by omega) (by omega) ⟨by simp, fun _ h => (List.not_mem_nil h).elim⟩ (by simp)
end Go.Proofs.Ytmfbpkjhabdcgaa.Pure
end
