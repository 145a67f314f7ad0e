/- Part 3 of A21: what the functions reckon, step by step, and plain laws. No condition. -/
import Derived.Test.YtmfbpkjhabdcgaaKA21x2
section
-- Written by fork.py (this session's program over the kit's print.py). Not trusted: Lean checks it.
namespace Go.Proofs.Ytmfbpkjhabdcgaa.F
open Go.RowKit Go.Proofs.YtmfbpkjhabdcgaaW.PrintWords Go.Proofs.YtmfbpkjhabdcgaaW.PrintLast Go.Proofs.YtmfbpkjhabdcgaaW.PrintMore
attribute [local go_sem] max2_int min2_int max_two min_two max_three min_three max_four min_four
set_option linter.unusedVariables false
set_option linter.unusedSimpArgs false

/-! ### R20_Check: function 194 -/
mutual
def R20_Check.j0 : Nat → Bool → Int → Int → Int → Int → Option (Int)
  | 0, _, _, _, _, _ => none
  | k + 1, x10, x266000, x266001, x266002, x266003 => if x10 = true then (some 11) else (if x266001 < 0 then (R20_Check.j1 k true x266000 x266001 x266002 x266003) else (if x266001 ≥ 64 then (R20_Check.j1 k true x266000 x266001 x266002 x266003) else (if x266003 < 0 then (R20_Check.j1 k true x266000 x266001 x266002 x266003) else (R20_Check.j1 k (decide (x266003 > 1099511627776)) x266000 x266001 x266002 x266003))))
def R20_Check.j1 : Nat → Bool → Int → Int → Int → Int → Option (Int)
  | 0, _, _, _, _, _ => none
  | k + 1, x28, x266000, x266001, x266002, x266003 => if x28 = true then (some 2) else (if x266000 = 3 then (if x266002 < 1 then (some 2) else (if x266002 > 8 then (some 2) else (some 0))) else (if x266002 = 0 then (some 0) else (some 2)))
end
def R20_Check.f (k : Nat) (a0_0 : Int) (a0_1 : Int) (a0_2 : Int) (a0_3 : Int) : Option (Int) := if a0_0 < 1 then (R20_Check.j0 k true a0_0 a0_1 a0_2 a0_3) else (R20_Check.j0 k (decide (a0_0 > 3)) a0_0 a0_1 a0_2 a0_3)
theorem R20_Check.mono_l : ∀ k, (∀ y0 y1 y2 y3 y4, LeO (R20_Check.j0 k y0 y1 y2 y3 y4) (R20_Check.j0 (k + 1) y0 y1 y2 y3 y4)) ∧ (∀ y0 y1 y2 y3 y4, LeO (R20_Check.j1 k y0 y1 y2 y3 y4) (R20_Check.j1 (k + 1) y0 y1 y2 y3 y4))
  | 0 => ⟨fun _ _ _ _ _ r h => by simp [R20_Check.j0] at h, fun _ _ _ _ _ r h => by simp [R20_Check.j1] at h⟩
  | k + 1 => by
    obtain ⟨ih0, ih1⟩ := R20_Check.mono_l k
    refine ⟨?_, ?_⟩
    · intro y0 y1 y2 y3 y4
      unfold R20_Check.j0
      repeat' first
      | (with_reducible exact ih0 _ _ _ _ _)
      | (with_reducible exact ih1 _ _ _ _ _)
      | (with_reducible exact LeO.refl _)
      | (with_reducible exact LeO.none _)
      | (with_reducible refine LeO.ite ?_ ?_)
      | (with_reducible refine LeO.bind ?_ (fun _ => ?_))
      | exact ih0 _ _ _ _ _
      | exact ih1 _ _ _ _ _
      | exact LeO.none _
      | refine LeO.ite ?_ ?_
      | refine LeO.bind ?_ (fun _ => ?_)
    · intro y0 y1 y2 y3 y4
      unfold R20_Check.j1
      repeat' first
      | (with_reducible exact ih0 _ _ _ _ _)
      | (with_reducible exact ih1 _ _ _ _ _)
      | (with_reducible exact LeO.refl _)
      | (with_reducible exact LeO.none _)
      | (with_reducible refine LeO.ite ?_ ?_)
      | (with_reducible refine LeO.bind ?_ (fun _ => ?_))
      | exact ih0 _ _ _ _ _
      | exact ih1 _ _ _ _ _
      | exact LeO.none _
      | refine LeO.ite ?_ ?_
      | refine LeO.bind ?_ (fun _ => ?_)
theorem R20_Check.mono : ∀ a0 a1 a2 a3 k, LeO (R20_Check.f k a0 a1 a2 a3) (R20_Check.f (k + 1) a0 a1 a2 a3) := by
  intro a0 a1 a2 a3 k
  obtain ⟨ih0, ih1⟩ := R20_Check.mono_l k
  unfold R20_Check.f
  repeat' first
      | (with_reducible exact ih0 _ _ _ _ _)
      | (with_reducible exact ih1 _ _ _ _ _)
      | (with_reducible exact LeO.refl _)
      | (with_reducible exact LeO.none _)
      | (with_reducible refine LeO.ite ?_ ?_)
      | (with_reducible refine LeO.bind ?_ (fun _ => ?_))
      | exact ih0 _ _ _ _ _
      | exact ih1 _ _ _ _ _
      | exact LeO.none _
      | refine LeO.ite ?_ ?_
      | refine LeO.bind ?_ (fun _ => ?_)
set_option maxHeartbeats 8000000 in
set_option maxRecDepth 100000 in
theorem R20_Check.calls (k : Nat) (a0_0 : Int) (a0_1 : Int) (a0_2 : Int) (a0_3 : Int) (r : Int) (w : World) (h : R20_Check.f k a0_0 a0_1 a0_2 a0_3 = some r) :
    Calls Try.prog 194 #[.agg #[.int .i64 a0_0, .int .i64 a0_1, .int .i64 a0_2, .int .i64 a0_3]] w fun e w' => e = .returned (.int .i64 r) ∧ Below w.heap.size w w' := by
  have hu29 := Try.underlying29
  have HB := Aside0.mk (Below.refl w.heap.size w)
  have H : (if a0_0 < 1 then (R20_Check.j0 k true a0_0 a0_1 a0_2 a0_3) else (R20_Check.j0 k (decide (a0_0 > 3)) a0_0 a0_1 a0_2 a0_3)) = some r := h
  clear h
  have HC2 := Aside0.mk H
  clear H
  go_enter Try.func194, Try.ntmps194
  go_upto_region 1 with (first | ((with_reducible refine gate_dst (N := 1) rfl ?_); refine box_event ?hg (N := 1) ?hd (cs := #[.int .i64 a0_0, .int .i64 a0_1, .int .i64 a0_2, .int .i64 a0_3]) (t := 29) ?hr ?_; (case hd => rfl); (case hg => rfl); (case hr => first | (go_simp; done) | (go_simp; rfl)); intro gb265 hg w3 hbox hb; have n0_ := Aside0.mk (below_step (by repeat (first | (with_reducible first | exact HB.out | apply below_alloc | apply pw_below_drewN | apply below_drew1) | exact HB.out)) hb); have n1_ := Aside0.mk (hbox); have n2_ := Aside0.mk ((by rw [hg]; exact (below_size (by repeat (first | (with_reducible first | exact HB.out | apply below_alloc | apply pw_below_drewN | apply below_drew1) | exact HB.out))) : w.heap.size ≤ gb265)); have n3_ := Aside0.mk ((by rw [hg]; exact (below_size (by repeat (first | (with_reducible first | exact HB.out | apply below_alloc | apply pw_below_drewN | apply below_drew1) | exact HB.out))) : w.heap.size ≤ gb265)); clear HB; have HB := n0_; have BK265 := n1_; have GW265 := n2_; have GE265 := n3_; clear n0_ n1_ n2_ n3_; clear hb hbox hg))
  (try simp only [Act.put, List.setIfInBounds_toArray, List.set_cons_zero, List.set_cons_succ])
  go_cut [10] (fun v10 wc => ∃ (kq : Nat) (x10_1 : Bool), v10 = .bool x10_1 ∧ Aside0 (R20_Check.j0 kq x10_1 a0_0 a0_1 a0_2 a0_3 = some r) ∧ Aside0 (kq ≤ k) ∧ Aside0 (wc.heap[gb265]? = some (.cells #[.int .i64 a0_0, .int .i64 a0_1, .int .i64 a0_2, .int .i64 a0_3] 29 (0, 0))) ∧ Aside0 (Below w.heap.size w wc))
  case first =>
    have H := HC2.out
    clear HC2
    by_cases c4 : a0_0 < 1
    · rw [if_pos c4] at H
      have c4b0 : decide (a0_0 < 1) = true := decide_eq_true c4
      clear c4
      (first | rw [c4b0] | (simp only [i64_w, i32_w]; rw [c4b0]) | skip)
      have H' := Aside0.mk H
      clear H
      have hcz5_0 : w3.cell? ⟨gb265, 0, none⟩ = some (.int .i64 a0_0) := (blk_cell BK265.out 0).trans rfl
      have hcz5_1 : w3.cell? ⟨gb265, 1, none⟩ = some (.int .i64 a0_1) := (blk_cell BK265.out 1).trans rfl
      have hcz5_2 : w3.cell? ⟨gb265, 2, none⟩ = some (.int .i64 a0_2) := (blk_cell BK265.out 2).trans rfl
      have hcz5_3 : w3.cell? ⟨gb265, 3, none⟩ = some (.int .i64 a0_3) := (blk_cell BK265.out 3).trans rfl
      have hfz5_0 := blk_frozen BK265.out 0
      have hfz5_1 := blk_frozen BK265.out 1
      have hfz5_2 := blk_frozen BK265.out 2
      have hfz5_3 := blk_frozen BK265.out 3
      go_wp2
      go_meet
      case rel => exact ⟨_, (true), (by first | rfl | (simp; done) | (simp [*]; done)), H', ⟨by first | omega | exact Nat.le_refl _⟩, ⟨by (with_reducible repeat (first | refine blk_drewN ?_ _ | refine blk_drew ?_ | refine blk_alloc ?_ _)); exact BK265.out⟩, ⟨by repeat (first | (with_reducible first | exact HB.out | apply below_alloc | apply pw_below_drewN | apply below_drew1 | refine below_set ?_ GE265.out) | exact HB.out)⟩⟩
    · rw [if_neg c4] at H
      have c4b0 : decide (a0_0 < 1) = false := decide_eq_false c4
      clear c4
      (first | rw [c4b0] | (simp only [i64_w, i32_w]; rw [c4b0]) | skip)
      have H' := Aside0.mk H
      clear H
      have hcz6_0 : w3.cell? ⟨gb265, 0, none⟩ = some (.int .i64 a0_0) := (blk_cell BK265.out 0).trans rfl
      have hcz6_1 : w3.cell? ⟨gb265, 1, none⟩ = some (.int .i64 a0_1) := (blk_cell BK265.out 1).trans rfl
      have hcz6_2 : w3.cell? ⟨gb265, 2, none⟩ = some (.int .i64 a0_2) := (blk_cell BK265.out 2).trans rfl
      have hcz6_3 : w3.cell? ⟨gb265, 3, none⟩ = some (.int .i64 a0_3) := (blk_cell BK265.out 3).trans rfl
      have hfz6_0 := blk_frozen BK265.out 0
      have hfz6_1 := blk_frozen BK265.out 1
      have hfz6_2 := blk_frozen BK265.out 2
      have hfz6_3 := blk_frozen BK265.out 3
      go_wp2
      go_meet
      case rel => exact ⟨_, (decide (a0_0 > 3)), (by first | rfl | (simp; done) | (simp [*]; done)), H', ⟨by first | omega | exact Nat.le_refl _⟩, ⟨by (with_reducible repeat (first | refine blk_drewN ?_ _ | refine blk_drew ?_ | refine blk_alloc ?_ _)); exact BK265.out⟩, ⟨by repeat (first | (with_reducible first | exact HB.out | apply below_alloc | apply pw_below_drewN | apply below_drew1 | refine below_set ?_ GE265.out) | exact HB.out)⟩⟩
  case rest =>
    clear HC2
    try clear c1
    try clear p2
    try clear c4
    try clear c4b0
    try clear hcz5_0
    try clear hcz5_1
    try clear hcz5_2
    try clear hcz5_3
    try clear hcz6_0
    try clear hcz6_1
    try clear hcz6_2
    try clear hcz6_3
    try clear hfz5_0
    try clear hfz5_1
    try clear hfz5_2
    try clear hfz5_3
    try clear hfz6_0
    try clear hfz6_1
    try clear hfz6_2
    try clear hfz6_3
    obtain ⟨kq, x10_1, rfl, HA, HJ1, BK265, HB⟩ := hcut
    cases kq with
    | zero => exact absurd HA.out (by simp [R20_Check.j0])
    | succ kj1 =>
      have H := HA.out
      clear HA
      simp only [R20_Check.j0] at H
      by_cases c7 : x10_1 = true
      · subst c7
        have H1 : (some 11) = some r := by rw [if_pos rfl] at H; exact H
        clear H
        have H := H1
        clear H1
        obtain rfl := Option.some.inj H
        go_wp2
        all_goals go_ret
        all_goals exact ⟨by first | rfl | (simp [errW_none, errW_some] <;> rfl) | (simp [*, errW_none, errW_some] <;> rfl), by repeat (first | (with_reducible first | exact HB.out | apply below_alloc | apply pw_below_drewN | apply below_drew1 | refine below_set ?_ GE265.out) | exact HB.out)⟩
      · replace c7 := Bool.eq_false_iff.mpr c7
        subst c7
        have H1 : (if a0_1 < 0 then (R20_Check.j1 kj1 true a0_0 a0_1 a0_2 a0_3) else (if a0_1 ≥ 64 then (R20_Check.j1 kj1 true a0_0 a0_1 a0_2 a0_3) else (if a0_3 < 0 then (R20_Check.j1 kj1 true a0_0 a0_1 a0_2 a0_3) else (R20_Check.j1 kj1 (decide (a0_3 > 1099511627776)) a0_0 a0_1 a0_2 a0_3)))) = some r := by rw [if_neg (show ¬ (false = true) by decide)] at H; exact H
        clear H
        have H := H1
        clear H1
        have HC8 := Aside0.mk H
        clear H
        go_upto_region 3 with (fail)
        go_cut [28] (fun v28 wc => ∃ (kq : Nat) (x28_7 : Bool), v28 = .bool x28_7 ∧ Aside0 (R20_Check.j1 kq x28_7 a0_0 a0_1 a0_2 a0_3 = some r) ∧ Aside0 (kq ≤ kj1) ∧ Aside0 (wc.heap[gb265]? = some (.cells #[.int .i64 a0_0, .int .i64 a0_1, .int .i64 a0_2, .int .i64 a0_3] 29 (0, 0))) ∧ Aside0 (Below w.heap.size w wc))
        case first =>
          have H := HC8.out
          clear HC8
          by_cases c9 : a0_1 < 0
          · rw [if_pos c9] at H
            have c9b0 : decide (a0_1 < 0) = true := decide_eq_true c9
            clear c9
            (first | rw [c9b0] | (simp only [i64_w, i32_w]; rw [c9b0]) | skip)
            have H' := Aside0.mk H
            clear H
            have hcz10_0 : wc.cell? ⟨gb265, 0, none⟩ = some (.int .i64 a0_0) := (blk_cell BK265.out 0).trans rfl
            have hcz10_1 : wc.cell? ⟨gb265, 1, none⟩ = some (.int .i64 a0_1) := (blk_cell BK265.out 1).trans rfl
            have hcz10_2 : wc.cell? ⟨gb265, 2, none⟩ = some (.int .i64 a0_2) := (blk_cell BK265.out 2).trans rfl
            have hcz10_3 : wc.cell? ⟨gb265, 3, none⟩ = some (.int .i64 a0_3) := (blk_cell BK265.out 3).trans rfl
            have hfz10_0 := blk_frozen BK265.out 0
            have hfz10_1 := blk_frozen BK265.out 1
            have hfz10_2 := blk_frozen BK265.out 2
            have hfz10_3 := blk_frozen BK265.out 3
            go_wp2
            go_meet
            case rel => exact ⟨_, (true), (by first | rfl | (simp; done) | (simp [*]; done)), H', ⟨by have := HJ1.out; first | omega | exact Nat.le_refl _⟩, ⟨by (with_reducible repeat (first | refine blk_drewN ?_ _ | refine blk_drew ?_ | refine blk_alloc ?_ _)); exact BK265.out⟩, ⟨by repeat (first | (with_reducible first | exact HB.out | apply below_alloc | apply pw_below_drewN | apply below_drew1 | refine below_set ?_ GE265.out) | exact HB.out)⟩⟩
          · rw [if_neg c9] at H
            have c9b0 : decide (a0_1 < 0) = false := decide_eq_false c9
            clear c9
            (first | rw [c9b0] | (simp only [i64_w, i32_w]; rw [c9b0]) | skip)
            by_cases c11 : a0_1 ≥ 64
            · rw [if_pos c11] at H
              have c11b0 : decide (64 ≤ a0_1) = true := decide_eq_true c11
              clear c11
              have H' := Aside0.mk H
              clear H
              have hcz12_0 : wc.cell? ⟨gb265, 0, none⟩ = some (.int .i64 a0_0) := (blk_cell BK265.out 0).trans rfl
              have hcz12_1 : wc.cell? ⟨gb265, 1, none⟩ = some (.int .i64 a0_1) := (blk_cell BK265.out 1).trans rfl
              have hcz12_2 : wc.cell? ⟨gb265, 2, none⟩ = some (.int .i64 a0_2) := (blk_cell BK265.out 2).trans rfl
              have hcz12_3 : wc.cell? ⟨gb265, 3, none⟩ = some (.int .i64 a0_3) := (blk_cell BK265.out 3).trans rfl
              have hfz12_0 := blk_frozen BK265.out 0
              have hfz12_1 := blk_frozen BK265.out 1
              have hfz12_2 := blk_frozen BK265.out 2
              have hfz12_3 := blk_frozen BK265.out 3
              go_wp2
              go_meet
              case rel => exact ⟨_, (true), (by first | rfl | (simp; done) | (simp [*]; done)), H', ⟨by have := HJ1.out; first | omega | exact Nat.le_refl _⟩, ⟨by (with_reducible repeat (first | refine blk_drewN ?_ _ | refine blk_drew ?_ | refine blk_alloc ?_ _)); exact BK265.out⟩, ⟨by repeat (first | (with_reducible first | exact HB.out | apply below_alloc | apply pw_below_drewN | apply below_drew1 | refine below_set ?_ GE265.out) | exact HB.out)⟩⟩
            · rw [if_neg c11] at H
              have c11b0 : decide (64 ≤ a0_1) = false := decide_eq_false c11
              clear c11
              by_cases c13 : a0_3 < 0
              · rw [if_pos c13] at H
                have c13b0 : decide (a0_3 < 0) = true := decide_eq_true c13
                clear c13
                have H' := Aside0.mk H
                clear H
                have hcz14_0 : wc.cell? ⟨gb265, 0, none⟩ = some (.int .i64 a0_0) := (blk_cell BK265.out 0).trans rfl
                have hcz14_1 : wc.cell? ⟨gb265, 1, none⟩ = some (.int .i64 a0_1) := (blk_cell BK265.out 1).trans rfl
                have hcz14_2 : wc.cell? ⟨gb265, 2, none⟩ = some (.int .i64 a0_2) := (blk_cell BK265.out 2).trans rfl
                have hcz14_3 : wc.cell? ⟨gb265, 3, none⟩ = some (.int .i64 a0_3) := (blk_cell BK265.out 3).trans rfl
                have hfz14_0 := blk_frozen BK265.out 0
                have hfz14_1 := blk_frozen BK265.out 1
                have hfz14_2 := blk_frozen BK265.out 2
                have hfz14_3 := blk_frozen BK265.out 3
                go_wp2
                go_meet
                case rel => exact ⟨_, (true), (by first | rfl | (simp; done) | (simp [*]; done)), H', ⟨by have := HJ1.out; first | omega | exact Nat.le_refl _⟩, ⟨by (with_reducible repeat (first | refine blk_drewN ?_ _ | refine blk_drew ?_ | refine blk_alloc ?_ _)); exact BK265.out⟩, ⟨by repeat (first | (with_reducible first | exact HB.out | apply below_alloc | apply pw_below_drewN | apply below_drew1 | refine below_set ?_ GE265.out) | exact HB.out)⟩⟩
              · rw [if_neg c13] at H
                have c13b0 : decide (a0_3 < 0) = false := decide_eq_false c13
                clear c13
                have H' := Aside0.mk H
                clear H
                have hcz15_0 : wc.cell? ⟨gb265, 0, none⟩ = some (.int .i64 a0_0) := (blk_cell BK265.out 0).trans rfl
                have hcz15_1 : wc.cell? ⟨gb265, 1, none⟩ = some (.int .i64 a0_1) := (blk_cell BK265.out 1).trans rfl
                have hcz15_2 : wc.cell? ⟨gb265, 2, none⟩ = some (.int .i64 a0_2) := (blk_cell BK265.out 2).trans rfl
                have hcz15_3 : wc.cell? ⟨gb265, 3, none⟩ = some (.int .i64 a0_3) := (blk_cell BK265.out 3).trans rfl
                have hfz15_0 := blk_frozen BK265.out 0
                have hfz15_1 := blk_frozen BK265.out 1
                have hfz15_2 := blk_frozen BK265.out 2
                have hfz15_3 := blk_frozen BK265.out 3
                go_wp2
                go_meet
                case rel => exact ⟨_, (decide (a0_3 > 1099511627776)), (by first | rfl | (simp; done) | (simp [*]; done)), H', ⟨by have := HJ1.out; first | omega | exact Nat.le_refl _⟩, ⟨by (with_reducible repeat (first | refine blk_drewN ?_ _ | refine blk_drew ?_ | refine blk_alloc ?_ _)); exact BK265.out⟩, ⟨by repeat (first | (with_reducible first | exact HB.out | apply below_alloc | apply pw_below_drewN | apply below_drew1 | refine below_set ?_ GE265.out) | exact HB.out)⟩⟩
        case rest =>
          clear HC8
          try clear c1
          try clear p2
          try clear c4
          try clear c4b0
          try clear c7
          try clear c9
          try clear c9b0
          try clear c11
          try clear c11b0
          try clear c13
          try clear c13b0
          try clear hcz10_0
          try clear hcz10_1
          try clear hcz10_2
          try clear hcz10_3
          try clear hcz12_0
          try clear hcz12_1
          try clear hcz12_2
          try clear hcz12_3
          try clear hcz14_0
          try clear hcz14_1
          try clear hcz14_2
          try clear hcz14_3
          try clear hcz15_0
          try clear hcz15_1
          try clear hcz15_2
          try clear hcz15_3
          try clear hcz5_0
          try clear hcz5_1
          try clear hcz5_2
          try clear hcz5_3
          try clear hcz6_0
          try clear hcz6_1
          try clear hcz6_2
          try clear hcz6_3
          try clear hfz10_0
          try clear hfz10_1
          try clear hfz10_2
          try clear hfz10_3
          try clear hfz12_0
          try clear hfz12_1
          try clear hfz12_2
          try clear hfz12_3
          try clear hfz14_0
          try clear hfz14_1
          try clear hfz14_2
          try clear hfz14_3
          try clear hfz15_0
          try clear hfz15_1
          try clear hfz15_2
          try clear hfz15_3
          try clear hfz5_0
          try clear hfz5_1
          try clear hfz5_2
          try clear hfz5_3
          try clear hfz6_0
          try clear hfz6_1
          try clear hfz6_2
          try clear hfz6_3
          try clear p2
          obtain ⟨kq, x28_7, rfl, HA, HJ7, BK265, HB⟩ := hcut
          cases kq with
          | zero => exact absurd HA.out (by simp [R20_Check.j1])
          | succ kj7 =>
            have H := HA.out
            clear HA
            simp only [R20_Check.j1] at H
            by_cases c16 : x28_7 = true
            · subst c16
              have H1 : (some 2) = some r := by rw [if_pos rfl] at H; exact H
              clear H
              have H := H1
              clear H1
              obtain rfl := Option.some.inj H
              go_wp2
              all_goals go_ret
              all_goals exact ⟨by first | rfl | (simp [errW_none, errW_some] <;> rfl) | (simp [*, errW_none, errW_some] <;> rfl), by repeat (first | (with_reducible first | exact HB.out | apply below_alloc | apply pw_below_drewN | apply below_drew1 | refine below_set ?_ GE265.out) | exact HB.out)⟩
            · replace c16 := Bool.eq_false_iff.mpr c16
              subst c16
              have H1 : (if a0_0 = 3 then (if a0_2 < 1 then (some 2) else (if a0_2 > 8 then (some 2) else (some 0))) else (if a0_2 = 0 then (some 0) else (some 2))) = some r := by rw [if_neg (show ¬ (false = true) by decide)] at H; exact H
              clear H
              have H := H1
              clear H1
              by_cases c17 : a0_0 = 3
              · rw [if_pos c17] at H
                have c17b0 : (a0_0 == 3) = true := beq_iff_eq.mpr c17
                have c17b1 : (a0_0 != 3) = false := bne_eq_false_iff_eq.mpr c17
                clear c17
                by_cases c18 : a0_2 < 1
                · rw [if_pos c18] at H
                  have c18b0 : decide (a0_2 < 1) = true := decide_eq_true c18
                  clear c18
                  obtain rfl := Option.some.inj H
                  have hcz19_0 : wc.cell? ⟨gb265, 0, none⟩ = some (.int .i64 a0_0) := (blk_cell BK265.out 0).trans rfl
                  have hcz19_1 : wc.cell? ⟨gb265, 1, none⟩ = some (.int .i64 a0_1) := (blk_cell BK265.out 1).trans rfl
                  have hcz19_2 : wc.cell? ⟨gb265, 2, none⟩ = some (.int .i64 a0_2) := (blk_cell BK265.out 2).trans rfl
                  have hcz19_3 : wc.cell? ⟨gb265, 3, none⟩ = some (.int .i64 a0_3) := (blk_cell BK265.out 3).trans rfl
                  have hfz19_0 := blk_frozen BK265.out 0
                  have hfz19_1 := blk_frozen BK265.out 1
                  have hfz19_2 := blk_frozen BK265.out 2
                  have hfz19_3 := blk_frozen BK265.out 3
                  go_wp2
                  all_goals go_ret
                  all_goals exact ⟨by first | rfl | (simp [errW_none, errW_some] <;> rfl) | (simp [*, errW_none, errW_some] <;> rfl), by repeat (first | (with_reducible first | exact HB.out | apply below_alloc | apply pw_below_drewN | apply below_drew1 | refine below_set ?_ GE265.out) | exact HB.out)⟩
                · rw [if_neg c18] at H
                  have c18b0 : decide (a0_2 < 1) = false := decide_eq_false c18
                  clear c18
                  by_cases c20 : a0_2 > 8
                  · rw [if_pos c20] at H
                    have c20b0 : decide (8 < a0_2) = true := decide_eq_true c20
                    clear c20
                    obtain rfl := Option.some.inj H
                    have hcz21_0 : wc.cell? ⟨gb265, 0, none⟩ = some (.int .i64 a0_0) := (blk_cell BK265.out 0).trans rfl
                    have hcz21_1 : wc.cell? ⟨gb265, 1, none⟩ = some (.int .i64 a0_1) := (blk_cell BK265.out 1).trans rfl
                    have hcz21_2 : wc.cell? ⟨gb265, 2, none⟩ = some (.int .i64 a0_2) := (blk_cell BK265.out 2).trans rfl
                    have hcz21_3 : wc.cell? ⟨gb265, 3, none⟩ = some (.int .i64 a0_3) := (blk_cell BK265.out 3).trans rfl
                    have hfz21_0 := blk_frozen BK265.out 0
                    have hfz21_1 := blk_frozen BK265.out 1
                    have hfz21_2 := blk_frozen BK265.out 2
                    have hfz21_3 := blk_frozen BK265.out 3
                    go_wp2
                    all_goals go_ret
                    all_goals exact ⟨by first | rfl | (simp [errW_none, errW_some] <;> rfl) | (simp [*, errW_none, errW_some] <;> rfl), by repeat (first | (with_reducible first | exact HB.out | apply below_alloc | apply pw_below_drewN | apply below_drew1 | refine below_set ?_ GE265.out) | exact HB.out)⟩
                  · rw [if_neg c20] at H
                    have c20b0 : decide (8 < a0_2) = false := decide_eq_false c20
                    clear c20
                    obtain rfl := Option.some.inj H
                    have hcz22_0 : wc.cell? ⟨gb265, 0, none⟩ = some (.int .i64 a0_0) := (blk_cell BK265.out 0).trans rfl
                    have hcz22_1 : wc.cell? ⟨gb265, 1, none⟩ = some (.int .i64 a0_1) := (blk_cell BK265.out 1).trans rfl
                    have hcz22_2 : wc.cell? ⟨gb265, 2, none⟩ = some (.int .i64 a0_2) := (blk_cell BK265.out 2).trans rfl
                    have hcz22_3 : wc.cell? ⟨gb265, 3, none⟩ = some (.int .i64 a0_3) := (blk_cell BK265.out 3).trans rfl
                    have hfz22_0 := blk_frozen BK265.out 0
                    have hfz22_1 := blk_frozen BK265.out 1
                    have hfz22_2 := blk_frozen BK265.out 2
                    have hfz22_3 := blk_frozen BK265.out 3
                    go_wp2
                    all_goals go_ret
                    all_goals exact ⟨by first | rfl | (simp [errW_none, errW_some] <;> rfl) | (simp [*, errW_none, errW_some] <;> rfl), by repeat (first | (with_reducible first | exact HB.out | apply below_alloc | apply pw_below_drewN | apply below_drew1 | refine below_set ?_ GE265.out) | exact HB.out)⟩
              · rw [if_neg c17] at H
                have c17b0 : (a0_0 == 3) = false := beq_eq_false_iff_ne.mpr c17
                have c17b1 : (a0_0 != 3) = true := bne_iff_ne.mpr c17
                by_cases c23 : a0_2 = 0
                · rw [if_pos c23] at H
                  have c23b0 : (a0_2 == 0) = true := beq_iff_eq.mpr c23
                  have c23b1 : (a0_2 != 0) = false := bne_eq_false_iff_eq.mpr c23
                  clear c23
                  obtain rfl := Option.some.inj H
                  have hcz24_0 : wc.cell? ⟨gb265, 0, none⟩ = some (.int .i64 a0_0) := (blk_cell BK265.out 0).trans rfl
                  have hcz24_1 : wc.cell? ⟨gb265, 1, none⟩ = some (.int .i64 a0_1) := (blk_cell BK265.out 1).trans rfl
                  have hcz24_2 : wc.cell? ⟨gb265, 2, none⟩ = some (.int .i64 a0_2) := (blk_cell BK265.out 2).trans rfl
                  have hcz24_3 : wc.cell? ⟨gb265, 3, none⟩ = some (.int .i64 a0_3) := (blk_cell BK265.out 3).trans rfl
                  have hfz24_0 := blk_frozen BK265.out 0
                  have hfz24_1 := blk_frozen BK265.out 1
                  have hfz24_2 := blk_frozen BK265.out 2
                  have hfz24_3 := blk_frozen BK265.out 3
                  go_wp2
                  all_goals go_ret
                  all_goals exact ⟨by first | rfl | (simp [errW_none, errW_some] <;> rfl) | (simp [*, errW_none, errW_some] <;> rfl), by repeat (first | (with_reducible first | exact HB.out | apply below_alloc | apply pw_below_drewN | apply below_drew1 | refine below_set ?_ GE265.out) | exact HB.out)⟩
                · rw [if_neg c23] at H
                  have c23b0 : (a0_2 == 0) = false := beq_eq_false_iff_ne.mpr c23
                  have c23b1 : (a0_2 != 0) = true := bne_iff_ne.mpr c23
                  obtain rfl := Option.some.inj H
                  have hcz25_0 : wc.cell? ⟨gb265, 0, none⟩ = some (.int .i64 a0_0) := (blk_cell BK265.out 0).trans rfl
                  have hcz25_1 : wc.cell? ⟨gb265, 1, none⟩ = some (.int .i64 a0_1) := (blk_cell BK265.out 1).trans rfl
                  have hcz25_2 : wc.cell? ⟨gb265, 2, none⟩ = some (.int .i64 a0_2) := (blk_cell BK265.out 2).trans rfl
                  have hcz25_3 : wc.cell? ⟨gb265, 3, none⟩ = some (.int .i64 a0_3) := (blk_cell BK265.out 3).trans rfl
                  have hfz25_0 := blk_frozen BK265.out 0
                  have hfz25_1 := blk_frozen BK265.out 1
                  have hfz25_2 := blk_frozen BK265.out 2
                  have hfz25_3 := blk_frozen BK265.out 3
                  go_wp2
                  all_goals go_ret
                  all_goals exact ⟨by first | rfl | (simp [errW_none, errW_some] <;> rfl) | (simp [*, errW_none, errW_some] <;> rfl), by repeat (first | (with_reducible first | exact HB.out | apply below_alloc | apply pw_below_drewN | apply below_drew1 | refine below_set ?_ GE265.out) | exact HB.out)⟩


end Go.Proofs.Ytmfbpkjhabdcgaa.F
end
section
-- Written by fork.py (this session's program over the kit's print.py). Not trusted: Lean checks it.
namespace Go.Proofs.Ytmfbpkjhabdcgaa.F
open Go.RowKit Go.Proofs.YtmfbpkjhabdcgaaW.PrintWords Go.Proofs.YtmfbpkjhabdcgaaW.PrintLast Go.Proofs.YtmfbpkjhabdcgaaW.PrintMore
attribute [local go_sem] max2_int min2_int max_two min_two max_three min_three max_four min_four
set_option linter.unusedVariables false
set_option linter.unusedSimpArgs false

/-! ### L21_put: function 53 -/
def L21_put.f (k : Nat) (a0_0 : Int) (l0_1 : List (S29)) (a1_0 : Int) (a1_1 : Int) (a1_2 : Int) (a1_3 : Int) (a2 : Int) (a3_0 : Int) (l3_1 : List (S29)) : Option (Bool) := (table_Put.f a0_0 l0_1 a1_0 a1_1 a1_2 a1_3).bind fun bt157 => (if bt157.2.2.1 = a2 then (if bt157.2.2.2 = 0 then ((K_SameTable.f k bt157.1 bt157.2.1 a3_0 l3_1).bind fun t164 => (some t164)) else (some false)) else (some false))
theorem L21_put.mono : ∀ a0 a1 a2 a3 a4 a5 a6 a7 a8 k, LeO (L21_put.f k a0 a1 a2 a3 a4 a5 a6 a7 a8) (L21_put.f (k + 1) a0 a1 a2 a3 a4 a5 a6 a7 a8) := by
  intro a0 a1 a2 a3 a4 a5 a6 a7 a8 k
  unfold L21_put.f
  repeat' first
      | (with_reducible exact K_SameTable.mono _ _ _ _ _)
      | (with_reducible exact LeO.refl _)
      | (with_reducible exact LeO.none _)
      | (with_reducible refine LeO.ite ?_ ?_)
      | (with_reducible refine LeO.bind ?_ (fun _ => ?_))
      | exact K_SameTable.mono _ _ _ _ _
      | exact LeO.none _
      | refine LeO.ite ?_ ?_
      | refine LeO.bind ?_ (fun _ => ?_)
set_option maxHeartbeats 8000000 in
set_option maxRecDepth 100000 in
theorem L21_put.calls (k : Nat) (a0_0 : Int) (A0_1 : Option Addr) (c0_1 : Nat) (l0_1 : List (S29)) (a1_0 : Int) (a1_1 : Int) (a1_2 : Int) (a1_3 : Int) (a2 : Int) (a3_0 : Int) (A3_1 : Option Addr) (c3_1 : Nat) (l3_1 : List (S29)) (r : Bool) (w : World) (hr0_1 : Kd.C k29 w A0_1 l0_1.length l0_1) (hc0_1 : l0_1.length ≤ c0_1) (hr3_1 : Kd.C k29 w A3_1 l3_1.length l3_1) (hc3_1 : l3_1.length ≤ c3_1) (h : L21_put.f k a0_0 l0_1 a1_0 a1_1 a1_2 a1_3 a2 a3_0 l3_1 = some r) (ht_ : r = true := by rfl) :
    Calls Try.prog 53 #[.agg #[.int .i64 a0_0, .slice A0_1 l0_1.length c0_1], .agg #[.int .i64 a1_0, .int .i64 a1_1, .int .i64 a1_2, .int .i64 a1_3], .int .i64 a2, .agg #[.int .i64 a3_0, .slice A3_1 l3_1.length c3_1]] w fun e w' => e = .returned (.bool r) ∧ Below w.heap.size w w' := by
  subst ht_
  have hu25 := Try.underlying25
  have hu29 := Try.underlying29
  have HR0_1 := Aside0.mk hr0_1
  have HC0_1 := Aside0.mk hc0_1
  clear hr0_1 hc0_1
  have HR3_1 := Aside0.mk hr3_1
  have HC3_1 := Aside0.mk hc3_1
  clear hr3_1 hc3_1
  have HB := Aside0.mk (Below.refl w.heap.size w)
  have H : ((table_Put.f a0_0 l0_1 a1_0 a1_1 a1_2 a1_3).bind fun bt157 => (if bt157.2.2.1 = a2 then (if bt157.2.2.2 = 0 then ((K_SameTable.f k bt157.1 bt157.2.1 a3_0 l3_1).bind fun t164 => (some t164)) else (some false)) else (some false))) = some true := h
  clear h
  replace H := Option.bind_eq_some_iff.mp H
  obtain ⟨⟨t157, t158, t161, t162⟩, A50, H⟩ := H
  replace H : (if t161 = a2 then (if t162 = 0 then ((K_SameTable.f k t157 t158 a3_0 l3_1).bind fun t164 => (some t164)) else (some false)) else (some false)) = some true := H
  have A5 := Aside0.mk A50
  clear A50
  by_cases c6 : t161 = a2
  · rw [if_pos c6] at H
    have c6b0 : (t161 == a2) = true := beq_iff_eq.mpr c6
    have c6b1 : (t161 != a2) = false := bne_eq_false_iff_eq.mpr c6
    clear c6
    by_cases c7 : t162 = 0
    · rw [if_pos c7] at H
      have c7b0 : (t162 == 0) = true := beq_iff_eq.mpr c7
      have c7b1 : (t162 != 0) = false := bne_eq_false_iff_eq.mpr c7
      clear c7
      replace H := Option.bind_eq_some_iff.mp H
      obtain ⟨t164, A80, H⟩ := H
      replace H : (some t164) = some true := H
      have A8 := Aside0.mk A80
      clear A80
      have Ht_ := Option.some.inj H
      clear H
      subst Ht_
      have H : (some true : Option Bool) = some true := rfl
      clear H
      go_enter Try.func53, Try.ntmps53
      go_wp2_with (first | ((with_reducible refine gate_dst (N := 4) rfl ?_); refine box_event ?hg (N := 4) ?hd (cs := #[.int .i64 a0_0, .slice A0_1 l0_1.length c0_1]) (t := 25) ?hr ?_; (case hd => rfl); (case hg => rfl); (case hr => first | (go_simp; done) | (go_simp; rfl)); intro gb154 hg w9 hbox hb; have n0_ := Aside0.mk (below_step (by repeat (first | (with_reducible first | exact HB.out | apply below_alloc | apply pw_below_drewN | apply below_drew1) | exact HB.out)) hb); have n1_ := Aside0.mk (hbox); have n2_ := Aside0.mk ((by rw [hg]; exact (below_size (by repeat (first | (with_reducible first | exact HB.out | apply below_alloc | apply pw_below_drewN | apply below_drew1) | exact HB.out))) : w.heap.size ≤ gb154)); have n3_ := Aside0.mk ((by rw [hg]; exact (below_size (by repeat (first | (with_reducible first | exact HB.out | apply below_alloc | apply pw_below_drewN | apply below_drew1) | exact HB.out))) : w.heap.size ≤ gb154)); clear HB; have HB := n0_; have BK154 := n1_; have GW154 := n2_; have GE154 := n3_; clear n0_ n1_ n2_ n3_; clear hb hbox hg) | ((with_reducible refine gate_dst (N := 5) rfl ?_); refine box_event ?hg (N := 5) ?hd (cs := #[.int .i64 a1_0, .int .i64 a1_1, .int .i64 a1_2, .int .i64 a1_3]) (t := 29) ?hr ?_; (case hd => rfl); (case hg => rfl); (case hr => first | (go_simp; done) | (go_simp; rfl)); intro gb155 hg w10 hbox hb; have n0_ := Aside0.mk (blk_below (g := gb154) (o := .cells #[.int .i64 a0_0, .slice A0_1 l0_1.length c0_1] 25 (0, 0)) (by (with_reducible repeat (first | refine blk_drewN ?_ _ | refine blk_drew ?_ | refine blk_alloc ?_ _)); exact BK154.out) hb); have n1_ := Aside0.mk (below_step (by repeat (first | (with_reducible first | exact HB.out | apply below_alloc | apply pw_below_drewN | apply below_drew1 | refine below_set ?_ GE154.out) | exact HB.out)) hb); have n2_ := Aside0.mk (hbox); have n3_ := Aside0.mk ((by rw [hg]; exact (below_size (by repeat (first | (with_reducible first | exact HB.out | apply below_alloc | apply pw_below_drewN | apply below_drew1 | refine below_set ?_ GE154.out) | exact HB.out))) : w.heap.size ≤ gb155)); have n4_ := Aside0.mk ((by rw [hg]; exact (below_size (by repeat (first | (with_reducible first | exact HB.out | apply below_alloc | apply pw_below_drewN | apply below_drew1 | refine below_set ?_ GE154.out) | exact HB.out))) : w.heap.size ≤ gb155)); have n5_ := Aside0.mk ((by rw [hg]; exact Nat.ne_of_lt (blk_lt (g := gb154) (o := .cells #[.int .i64 a0_0, .slice A0_1 l0_1.length c0_1] 25 (0, 0)) (by (with_reducible repeat (first | refine blk_drewN ?_ _ | refine blk_drew ?_ | refine blk_alloc ?_ _)); exact BK154.out)) : gb154 ≠ gb155)); have n6_ := Aside0.mk ((by rw [hg]; exact Nat.ne_of_gt (blk_lt (g := gb154) (o := .cells #[.int .i64 a0_0, .slice A0_1 l0_1.length c0_1] 25 (0, 0)) (by (with_reducible repeat (first | refine blk_drewN ?_ _ | refine blk_drew ?_ | refine blk_alloc ?_ _)); exact BK154.out)) : gb155 ≠ gb154)); clear BK154; clear HB; have BK154 := n0_; have HB := n1_; have BK155 := n2_; have GW155 := n3_; have GE155 := n4_; have NB154_155 := n5_; have NB155_154 := n6_; clear n0_ n1_ n2_ n3_ n4_ n5_ n6_; clear hb hbox hg) | ((with_reducible refine gate_dst (N := 7) rfl ?_); refine box_event ?hg (N := 7) ?hd (cs := #[.int .i64 a3_0, .slice A3_1 l3_1.length c3_1]) (t := 25) ?hr ?_; (case hd => rfl); (case hg => rfl); (case hr => first | (go_simp; done) | (go_simp; rfl)); intro gb156 hg w11 hbox hb; have n0_ := Aside0.mk (blk_below (g := gb154) (o := .cells #[.int .i64 a0_0, .slice A0_1 l0_1.length c0_1] 25 (0, 0)) (by (with_reducible repeat (first | refine blk_drewN ?_ _ | refine blk_drew ?_ | refine blk_alloc ?_ _)); exact BK154.out) hb); have n1_ := Aside0.mk (blk_below (g := gb155) (o := .cells #[.int .i64 a1_0, .int .i64 a1_1, .int .i64 a1_2, .int .i64 a1_3] 29 (0, 0)) (by (with_reducible repeat (first | refine blk_drewN ?_ _ | refine blk_drew ?_ | refine blk_alloc ?_ _)); exact BK155.out) hb); have n2_ := Aside0.mk (below_step (by repeat (first | (with_reducible first | exact HB.out | apply below_alloc | apply pw_below_drewN | apply below_drew1 | refine below_set ?_ GE154.out | refine below_set ?_ GE155.out) | exact HB.out)) hb); have n3_ := Aside0.mk (hbox); have n4_ := Aside0.mk ((by rw [hg]; exact (below_size (by repeat (first | (with_reducible first | exact HB.out | apply below_alloc | apply pw_below_drewN | apply below_drew1 | refine below_set ?_ GE154.out | refine below_set ?_ GE155.out) | exact HB.out))) : w.heap.size ≤ gb156)); have n5_ := Aside0.mk ((by rw [hg]; exact (below_size (by repeat (first | (with_reducible first | exact HB.out | apply below_alloc | apply pw_below_drewN | apply below_drew1 | refine below_set ?_ GE154.out | refine below_set ?_ GE155.out) | exact HB.out))) : w.heap.size ≤ gb156)); have n6_ := Aside0.mk ((by rw [hg]; exact Nat.ne_of_lt (blk_lt (g := gb154) (o := .cells #[.int .i64 a0_0, .slice A0_1 l0_1.length c0_1] 25 (0, 0)) (by (with_reducible repeat (first | refine blk_drewN ?_ _ | refine blk_drew ?_ | refine blk_alloc ?_ _)); exact BK154.out)) : gb154 ≠ gb156)); have n7_ := Aside0.mk ((by rw [hg]; exact Nat.ne_of_gt (blk_lt (g := gb154) (o := .cells #[.int .i64 a0_0, .slice A0_1 l0_1.length c0_1] 25 (0, 0)) (by (with_reducible repeat (first | refine blk_drewN ?_ _ | refine blk_drew ?_ | refine blk_alloc ?_ _)); exact BK154.out)) : gb156 ≠ gb154)); have n8_ := Aside0.mk ((by rw [hg]; exact Nat.ne_of_lt (blk_lt (g := gb155) (o := .cells #[.int .i64 a1_0, .int .i64 a1_1, .int .i64 a1_2, .int .i64 a1_3] 29 (0, 0)) (by (with_reducible repeat (first | refine blk_drewN ?_ _ | refine blk_drew ?_ | refine blk_alloc ?_ _)); exact BK155.out)) : gb155 ≠ gb156)); have n9_ := Aside0.mk ((by rw [hg]; exact Nat.ne_of_gt (blk_lt (g := gb155) (o := .cells #[.int .i64 a1_0, .int .i64 a1_1, .int .i64 a1_2, .int .i64 a1_3] 29 (0, 0)) (by (with_reducible repeat (first | refine blk_drewN ?_ _ | refine blk_drew ?_ | refine blk_alloc ?_ _)); exact BK155.out)) : gb156 ≠ gb155)); clear BK154; clear BK155; clear HB; have BK154 := n0_; have BK155 := n1_; have HB := n2_; have BK156 := n3_; have GW156 := n4_; have GE156 := n5_; have NB154_156 := n6_; have NB156_154 := n7_; have NB155_156 := n8_; have NB156_155 := n9_; clear n0_ n1_ n2_ n3_ n4_ n5_ n6_ n7_ n8_ n9_; clear hb hbox hg; have hnb12 := NB154_155.out; have hnc12 := NB155_154.out; have hnb13 := NB154_156.out; have hnc13 := NB156_154.out; have hcz14_0 : w11.cell? ⟨gb154, 0, none⟩ = some (.int .i64 a0_0) := (blk_cell BK154.out 0).trans rfl; have hcz14_1 : w11.cell? ⟨gb154, 1, none⟩ = some (.slice A0_1 l0_1.length c0_1) := (blk_cell BK154.out 1).trans rfl; have hfz14_0 := blk_frozen BK154.out 0; have hfz14_1 := blk_frozen BK154.out 1; have hnb15 := NB155_156.out; have hnc15 := NB156_155.out; have hcz16_0 : w11.cell? ⟨gb155, 0, none⟩ = some (.int .i64 a1_0) := (blk_cell BK155.out 0).trans rfl; have hcz16_1 : w11.cell? ⟨gb155, 1, none⟩ = some (.int .i64 a1_1) := (blk_cell BK155.out 1).trans rfl; have hcz16_2 : w11.cell? ⟨gb155, 2, none⟩ = some (.int .i64 a1_2) := (blk_cell BK155.out 2).trans rfl; have hcz16_3 : w11.cell? ⟨gb155, 3, none⟩ = some (.int .i64 a1_3) := (blk_cell BK155.out 3).trans rfl; have hfz16_0 := blk_frozen BK155.out 0; have hfz16_1 := blk_frozen BK155.out 1; have hfz16_2 := blk_frozen BK155.out 2; have hfz16_3 := blk_frozen BK155.out 3) | ((with_reducible refine gate_callee (f := 52) rfl ?_); refine goesL_ (some 15) rfl rfl Try.func52 (by kernel_rfl) rfl #[.agg #[.int .i64 a0_0, .slice A0_1 l0_1.length c0_1], .agg #[.int .i64 a1_0, .int .i64 a1_1, .int .i64 a1_2, .int .i64 a1_3]] rfl (by (try simp only [List.map_toArray, List.map_cons, List.map_nil]); first | done | rfl | (simp only [List.length_drop, List.length_take]; rfl)) ?_; (with_reducible refine (table_Put.calls a0_0 _ _ l0_1 a1_0 a1_1 a1_2 a1_3 t157 t158 t161 t162 _ ?side1 ?side2 A5.out).mono ?_); (case side1 => repeat (first | exact (Kd.C_below HR0_1.out HB.out) | (with_reducible refine Kd.C_alloc ?_ _) | (with_reducible refine Kd.C_drewN ?_ _) | (with_reducible refine Kd.C_drew ?_))); (case side2 => exact HC0_1.out); rintro e w17 ⟨v159, rfl, ho0, hb⟩; refine ⟨_, rfl, ?_⟩; have n0_ := Aside0.mk (Kd.R_lower (Kd.R_newB ho0 (g := gb155) (o := .cells #[.int .i64 a1_0, .int .i64 a1_1, .int .i64 a1_2, .int .i64 a1_3] 29 (0, 0)) (by (with_reducible repeat (first | refine blk_drewN ?_ _ | refine blk_drew ?_ | refine blk_alloc ?_ _)); exact BK155.out)) (below_size (by repeat (first | (with_reducible first | exact HB.out | apply below_alloc | apply pw_below_drewN | apply below_drew1 | refine below_set ?_ GE154.out | refine below_set ?_ GE155.out | refine below_set ?_ GE156.out) | exact HB.out)))); have n1_ := Aside0.mk (blk_below (g := gb154) (o := .cells #[.int .i64 a0_0, .slice A0_1 l0_1.length c0_1] 25 (0, 0)) (by (with_reducible repeat (first | refine blk_drewN ?_ _ | refine blk_drew ?_ | refine blk_alloc ?_ _)); exact BK154.out) hb); have n2_ := Aside0.mk (blk_below (g := gb155) (o := .cells #[.int .i64 a1_0, .int .i64 a1_1, .int .i64 a1_2, .int .i64 a1_3] 29 (0, 0)) (by (with_reducible repeat (first | refine blk_drewN ?_ _ | refine blk_drew ?_ | refine blk_alloc ?_ _)); exact BK155.out) hb); have n3_ := Aside0.mk (blk_below (g := gb156) (o := .cells #[.int .i64 a3_0, .slice A3_1 l3_1.length c3_1] 25 (0, 0)) (by (with_reducible repeat (first | refine blk_drewN ?_ _ | refine blk_drew ?_ | refine blk_alloc ?_ _)); exact BK156.out) hb); have n4_ := Aside0.mk (below_step (by repeat (first | (with_reducible first | exact HB.out | apply below_alloc | apply pw_below_drewN | apply below_drew1 | refine below_set ?_ GE154.out | refine below_set ?_ GE155.out | refine below_set ?_ GE156.out) | exact HB.out)) hb); clear BK154; clear BK155; clear BK156; clear HB; have HO160 := n0_; have BK154 := n1_; have BK155 := n2_; have BK156 := n3_; have HB := n4_; clear n0_ n1_ n2_ n3_ n4_; (try clear hb); (try clear hb2); (try clear hk); (try clear hi); (try clear ho0)) | ((with_reducible refine gate_dst (N := 9) rfl ?_); refine box_event ?hg (N := 9) ?hd (cs := #[.int .i64 0, .slice none 0 0]) (t := 25) ?hr ?_; (case hd => rfl); (case hg => rfl); (case hr => first | (go_simp; done) | (go_simp; rfl)); intro gb163 hg w18 hbox hb; have n0_ := Aside0.mk (Kd.R_below (by (with_reducible repeat (first | apply Kd.R_alloc | apply Kd.R_drewN | apply Kd.R_drew)); exact HO160.out) hb); have n1_ := Aside0.mk (blk_below (g := gb154) (o := .cells #[.int .i64 a0_0, .slice A0_1 l0_1.length c0_1] 25 (0, 0)) (by (with_reducible repeat (first | refine blk_drewN ?_ _ | refine blk_drew ?_ | refine blk_alloc ?_ _)); exact BK154.out) hb); have n2_ := Aside0.mk (blk_below (g := gb155) (o := .cells #[.int .i64 a1_0, .int .i64 a1_1, .int .i64 a1_2, .int .i64 a1_3] 29 (0, 0)) (by (with_reducible repeat (first | refine blk_drewN ?_ _ | refine blk_drew ?_ | refine blk_alloc ?_ _)); exact BK155.out) hb); have n3_ := Aside0.mk (blk_below (g := gb156) (o := .cells #[.int .i64 a3_0, .slice A3_1 l3_1.length c3_1] 25 (0, 0)) (by (with_reducible repeat (first | refine blk_drewN ?_ _ | refine blk_drew ?_ | refine blk_alloc ?_ _)); exact BK156.out) hb); have n4_ := Aside0.mk (below_step (by repeat (first | (with_reducible first | exact HB.out | apply below_alloc | apply pw_below_drewN | apply below_drew1 | refine below_set ?_ GE154.out | refine below_set ?_ GE155.out | refine below_set ?_ GE156.out) | exact HB.out)) hb); have n5_ := Aside0.mk (hbox); have n6_ := Aside0.mk ((by rw [hg]; exact (below_size (by repeat (first | (with_reducible first | exact HB.out | apply below_alloc | apply pw_below_drewN | apply below_drew1 | refine below_set ?_ GE154.out | refine below_set ?_ GE155.out | refine below_set ?_ GE156.out) | exact HB.out))) : w.heap.size ≤ gb163)); have n7_ := Aside0.mk ((by rw [hg]; exact (below_size (by repeat (first | (with_reducible first | exact HB.out | apply below_alloc | apply pw_below_drewN | apply below_drew1 | refine below_set ?_ GE154.out | refine below_set ?_ GE155.out | refine below_set ?_ GE156.out) | exact HB.out))) : w.heap.size ≤ gb163)); have n8_ := Aside0.mk ((by rw [hg]; exact Nat.ne_of_lt (blk_lt (g := gb154) (o := .cells #[.int .i64 a0_0, .slice A0_1 l0_1.length c0_1] 25 (0, 0)) (by (with_reducible repeat (first | refine blk_drewN ?_ _ | refine blk_drew ?_ | refine blk_alloc ?_ _)); exact BK154.out)) : gb154 ≠ gb163)); have n9_ := Aside0.mk ((by rw [hg]; exact Nat.ne_of_gt (blk_lt (g := gb154) (o := .cells #[.int .i64 a0_0, .slice A0_1 l0_1.length c0_1] 25 (0, 0)) (by (with_reducible repeat (first | refine blk_drewN ?_ _ | refine blk_drew ?_ | refine blk_alloc ?_ _)); exact BK154.out)) : gb163 ≠ gb154)); have n10_ := Aside0.mk ((by rw [hg]; exact Nat.ne_of_lt (blk_lt (g := gb155) (o := .cells #[.int .i64 a1_0, .int .i64 a1_1, .int .i64 a1_2, .int .i64 a1_3] 29 (0, 0)) (by (with_reducible repeat (first | refine blk_drewN ?_ _ | refine blk_drew ?_ | refine blk_alloc ?_ _)); exact BK155.out)) : gb155 ≠ gb163)); have n11_ := Aside0.mk ((by rw [hg]; exact Nat.ne_of_gt (blk_lt (g := gb155) (o := .cells #[.int .i64 a1_0, .int .i64 a1_1, .int .i64 a1_2, .int .i64 a1_3] 29 (0, 0)) (by (with_reducible repeat (first | refine blk_drewN ?_ _ | refine blk_drew ?_ | refine blk_alloc ?_ _)); exact BK155.out)) : gb163 ≠ gb155)); have n12_ := Aside0.mk ((by rw [hg]; exact Nat.ne_of_lt (blk_lt (g := gb156) (o := .cells #[.int .i64 a3_0, .slice A3_1 l3_1.length c3_1] 25 (0, 0)) (by (with_reducible repeat (first | refine blk_drewN ?_ _ | refine blk_drew ?_ | refine blk_alloc ?_ _)); exact BK156.out)) : gb156 ≠ gb163)); have n13_ := Aside0.mk ((by rw [hg]; exact Nat.ne_of_gt (blk_lt (g := gb156) (o := .cells #[.int .i64 a3_0, .slice A3_1 l3_1.length c3_1] 25 (0, 0)) (by (with_reducible repeat (first | refine blk_drewN ?_ _ | refine blk_drew ?_ | refine blk_alloc ?_ _)); exact BK156.out)) : gb163 ≠ gb156)); clear HO160; clear BK154; clear BK155; clear BK156; clear HB; have HO160 := n0_; have BK154 := n1_; have BK155 := n2_; have BK156 := n3_; have HB := n4_; have BK163 := n5_; have GW163 := n6_; have GE163 := n7_; have NB154_163 := n8_; have NB163_154 := n9_; have NB155_163 := n10_; have NB163_155 := n11_; have NB156_163 := n12_; have NB163_156 := n13_; clear n0_ n1_ n2_ n3_ n4_ n5_ n6_ n7_ n8_ n9_ n10_ n11_ n12_ n13_; clear hb hbox hg; have hnb19 := NB163_154.out; have hnc19 := NB154_163.out; have hnb20 := NB163_155.out; have hnc20 := NB155_163.out; have hnb21 := NB163_156.out; have hnc21 := NB156_163.out; have hcz22_0 : w18.cell? ⟨gb163, 0, none⟩ = some (.int .i64 0) := (blk_cell BK163.out 0).trans rfl; have hcz22_1 : w18.cell? ⟨gb163, 1, none⟩ = some (.slice none 0 0) := (blk_cell BK163.out 1).trans rfl; have hfz22_0 := blk_frozen BK163.out 0; have hfz22_1 := blk_frozen BK163.out 1; obtain ⟨Ao23, co23, eo23⟩ := Kd.R_slice HO160.out; subst eo23; have hcz24_0 : w18.cell? ⟨gb156, 0, none⟩ = some (.int .i64 a3_0) := (blk_cell BK156.out 0).trans rfl; have hcz24_1 : w18.cell? ⟨gb156, 1, none⟩ = some (.slice A3_1 l3_1.length c3_1) := (blk_cell BK156.out 1).trans rfl; have hfz24_0 := blk_frozen BK156.out 0; have hfz24_1 := blk_frozen BK156.out 1) | ((with_reducible refine gate_callee (f := 37) rfl ?_); (with_reducible refine gate_dst (N := 29) rfl ?_); refine gate_guard (by rfl) ?_; dsimp only; refine goesL_ (some 29) rfl rfl Try.func37 (by kernel_rfl) rfl #[.agg #[.int .i64 t157, .slice Ao23 t158.length co23], .agg #[.int .i64 a3_0, .slice A3_1 l3_1.length c3_1]] rfl (by (try simp only [List.map_toArray, List.map_cons, List.map_nil]); first | done | rfl | (simp only [List.length_drop, List.length_take]; rfl)) ?_; (with_reducible refine (K_SameTable.calls k t157 _ _ t158 a3_0 _ _ l3_1 true _ ?side1 ?side2 ?side3 ?side4 A8.out).mono ?_); (case side1 => refine (Kd.R_reads' (e := 29) (base := w.heap.size) (ok := fun k_ => (True ∧ k_ ≠ gb155)) (n := t158.length) (c := co23) ?_).2.2; exact (by (with_reducible repeat (first | apply Kd.R_alloc | apply Kd.R_drewN | apply Kd.R_drew)); exact (Kd.R_mono (Kd.R_far (p := ⟨gb163, 1, none⟩) (Kd.R_far (p := ⟨gb163, 0, none⟩) (Kd.R_types HO160.out BK163.out (by decide)) (fun _ hk => hk.2) (.int .i64 t157)) (fun _ hk => hk.2) (.slice Ao23 t158.length co23)) (fun _ h_ => h_.1)))); (case side2 => exact (Kd.R_reads' HO160.out).2.1); (case side3 => exact Kd.C_below HR3_1.out (by repeat (first | (with_reducible first | exact HB.out | apply below_alloc | apply pw_below_drewN | apply below_drew1 | refine below_set ?_ GE154.out | refine below_set ?_ GE155.out | refine below_set ?_ GE156.out | refine below_set ?_ GE163.out) | exact HB.out))); (case side4 => exact HC3_1.out); rintro e w25 ⟨rfl, hb⟩; refine ⟨_, rfl, ?_⟩; have n0_ := Aside0.mk (Kd.R_below (by (with_reducible repeat (first | apply Kd.R_alloc | apply Kd.R_drewN | apply Kd.R_drew)); exact (Kd.R_mono (Kd.R_far (p := ⟨gb163, 1, none⟩) (Kd.R_far (p := ⟨gb163, 0, none⟩) (Kd.R_types HO160.out BK163.out (by decide)) (fun _ hk => hk.2) (.int .i64 t157)) (fun _ hk => hk.2) (.slice Ao23 t158.length co23)) (fun _ h_ => h_.1))) hb); have n1_ := Aside0.mk (blk_below (g := gb154) (o := .cells #[.int .i64 a0_0, .slice A0_1 l0_1.length c0_1] 25 (0, 0)) (by (with_reducible repeat (first | refine blk_drewN ?_ _ | refine blk_drew ?_ | refine blk_alloc ?_ _)); refine blk_far ?_ NB154_163.out _; (with_reducible repeat (first | refine blk_drewN ?_ _ | refine blk_drew ?_ | refine blk_alloc ?_ _)); refine blk_far ?_ NB154_163.out _; (with_reducible repeat (first | refine blk_drewN ?_ _ | refine blk_drew ?_ | refine blk_alloc ?_ _)); exact BK154.out) hb); have n2_ := Aside0.mk (blk_below (g := gb155) (o := .cells #[.int .i64 a1_0, .int .i64 a1_1, .int .i64 a1_2, .int .i64 a1_3] 29 (0, 0)) (by (with_reducible repeat (first | refine blk_drewN ?_ _ | refine blk_drew ?_ | refine blk_alloc ?_ _)); refine blk_far ?_ NB155_163.out _; (with_reducible repeat (first | refine blk_drewN ?_ _ | refine blk_drew ?_ | refine blk_alloc ?_ _)); refine blk_far ?_ NB155_163.out _; (with_reducible repeat (first | refine blk_drewN ?_ _ | refine blk_drew ?_ | refine blk_alloc ?_ _)); exact BK155.out) hb); have n3_ := Aside0.mk (blk_below (g := gb156) (o := .cells #[.int .i64 a3_0, .slice A3_1 l3_1.length c3_1] 25 (0, 0)) (by (with_reducible repeat (first | refine blk_drewN ?_ _ | refine blk_drew ?_ | refine blk_alloc ?_ _)); refine blk_far ?_ NB156_163.out _; (with_reducible repeat (first | refine blk_drewN ?_ _ | refine blk_drew ?_ | refine blk_alloc ?_ _)); refine blk_far ?_ NB156_163.out _; (with_reducible repeat (first | refine blk_drewN ?_ _ | refine blk_drew ?_ | refine blk_alloc ?_ _)); exact BK156.out) hb); have n4_ := Aside0.mk (blk_below (g := gb163) (o := .cells #[.int .i64 t157, .slice Ao23 t158.length co23] 25 (0, 0)) (by (with_reducible repeat (first | refine blk_drewN ?_ _ | refine blk_drew ?_ | refine blk_alloc ?_ _)); refine blk_put (cs := #[.int .i64 t157, .slice none 0 0]) ?_ 1 _ rfl; (with_reducible repeat (first | refine blk_drewN ?_ _ | refine blk_drew ?_ | refine blk_alloc ?_ _)); refine blk_put (cs := #[.int .i64 0, .slice none 0 0]) ?_ 0 _ rfl; (with_reducible repeat (first | refine blk_drewN ?_ _ | refine blk_drew ?_ | refine blk_alloc ?_ _)); exact BK163.out) hb); have n5_ := Aside0.mk (below_step (by repeat (first | (with_reducible first | exact HB.out | apply below_alloc | apply pw_below_drewN | apply below_drew1 | refine below_set ?_ GE154.out | refine below_set ?_ GE155.out | refine below_set ?_ GE156.out | refine below_set ?_ GE163.out) | exact HB.out)) hb); clear HO160; clear BK154; clear BK155; clear BK156; clear BK163; clear HB; have HO160 := n0_; have BK154 := n1_; have BK155 := n2_; have BK156 := n3_; have BK163 := n4_; have HB := n5_; clear n0_ n1_ n2_ n3_ n4_ n5_; (try clear hb); (try clear hb2); (try clear hk); (try clear hi)))
      all_goals go_ret
      all_goals exact ⟨by first | rfl | (simp [errW_none, errW_some] <;> rfl) | (simp [*, errW_none, errW_some] <;> rfl), by repeat (first | (with_reducible first | exact HB.out | apply below_alloc | apply pw_below_drewN | apply below_drew1 | refine below_set ?_ GE154.out | refine below_set ?_ GE155.out | refine below_set ?_ GE156.out | refine below_set ?_ GE163.out) | exact HB.out)⟩
    · rw [if_neg c7] at H
      have c7b0 : (t162 == 0) = false := beq_eq_false_iff_ne.mpr c7
      have c7b1 : (t162 != 0) = true := bne_iff_ne.mpr c7
      exact absurd H (by repeat (first | exact never_none | exact never_false | refine never_ite ?_ ?_ | refine never_bind (fun _ => ?_)))
  · rw [if_neg c6] at H
    have c6b0 : (t161 == a2) = false := beq_eq_false_iff_ne.mpr c6
    have c6b1 : (t161 != a2) = true := bne_iff_ne.mpr c6
    exact absurd H (by repeat (first | exact never_none | exact never_false | refine never_ite ?_ ?_ | refine never_bind (fun _ => ?_)))


end Go.Proofs.Ytmfbpkjhabdcgaa.F
end
section
-- Written by fork.py (this session's program over the kit's print.py). Not trusted: Lean checks it.
namespace Go.Proofs.Ytmfbpkjhabdcgaa.F
open Go.RowKit Go.Proofs.YtmfbpkjhabdcgaaW.PrintWords Go.Proofs.YtmfbpkjhabdcgaaW.PrintLast Go.Proofs.YtmfbpkjhabdcgaaW.PrintMore
attribute [local go_sem] max2_int min2_int max_two min_two max_three min_three max_four min_four
set_option linter.unusedVariables false
set_option linter.unusedSimpArgs false

/-! ### L21_awake: function 30 -/
def L21_awake.f (k : Nat)  : Option (Bool) := (L21_three.f ([] : List (S29))).bind fun bt165 => ((L21_up.f 3 5).bind fun bt169 => ((L21_up.f 3 5).bind fun bt173 => ((L21_three.f (([(⟨bt173.1, bt173.2.1, bt173.2.2.1, bt173.2.2.2⟩ : S29)] : List (S29)))).bind fun bt180 => ((L21_put.f k bt165.1 bt165.2 bt169.1 bt169.2.1 bt169.2.2.1 bt169.2.2.2 1 bt180.1 bt180.2).bind fun t184 => (if t184 = true then ((L21_up.f 3 5).bind fun bt185 => ((L21_three.f (([(⟨bt185.1, bt185.2.1, bt185.2.2.1, bt185.2.2.2⟩ : S29)] : List (S29)))).bind fun bt192 => ((L21_up.f 3 6).bind fun bt196 => ((L21_up.f 3 5).bind fun bt200 => ((L21_three.f (([(⟨bt200.1, bt200.2.1, bt200.2.2.1, bt200.2.2.2⟩ : S29)] : List (S29)))).bind fun bt207 => ((L21_put.f k bt192.1 bt192.2 bt196.1 bt196.2.1 bt196.2.2.1 bt196.2.2.2 2 bt207.1 bt207.2).bind fun t211 => (some t211))))))) else (some false))))))
theorem L21_awake.mono : ∀ k, LeO (L21_awake.f k ) (L21_awake.f (k + 1) ) := by
  intro  k
  unfold L21_awake.f
  repeat' first
      | (with_reducible exact L21_put.mono _ _ _ _ _ _ _ _ _ _)
      | (with_reducible exact LeO.refl _)
      | (with_reducible exact LeO.none _)
      | (with_reducible refine LeO.ite ?_ ?_)
      | (with_reducible refine LeO.bind ?_ (fun _ => ?_))
      | exact L21_put.mono _ _ _ _ _ _ _ _ _ _
      | exact LeO.none _
      | refine LeO.ite ?_ ?_
      | refine LeO.bind ?_ (fun _ => ?_)
set_option maxHeartbeats 8000000 in
set_option maxRecDepth 100000 in
theorem L21_awake.calls (k : Nat)  (r : Bool) (w : World) (h : L21_awake.f k  = some r) (ht_ : r = true := by rfl) :
    Calls Try.prog 30 #[] w fun e w' => e = .returned (.bool r) ∧ Below w.heap.size w w' := by
  subst ht_
  have HB := Aside0.mk (Below.refl w.heap.size w)
  have H : ((L21_three.f ([] : List (S29))).bind fun bt165 => ((L21_up.f 3 5).bind fun bt169 => ((L21_up.f 3 5).bind fun bt173 => ((L21_three.f (([(⟨bt173.1, bt173.2.1, bt173.2.2.1, bt173.2.2.2⟩ : S29)] : List (S29)))).bind fun bt180 => ((L21_put.f k bt165.1 bt165.2 bt169.1 bt169.2.1 bt169.2.2.1 bt169.2.2.2 1 bt180.1 bt180.2).bind fun t184 => (if t184 = true then ((L21_up.f 3 5).bind fun bt185 => ((L21_three.f (([(⟨bt185.1, bt185.2.1, bt185.2.2.1, bt185.2.2.2⟩ : S29)] : List (S29)))).bind fun bt192 => ((L21_up.f 3 6).bind fun bt196 => ((L21_up.f 3 5).bind fun bt200 => ((L21_three.f (([(⟨bt200.1, bt200.2.1, bt200.2.2.1, bt200.2.2.2⟩ : S29)] : List (S29)))).bind fun bt207 => ((L21_put.f k bt192.1 bt192.2 bt196.1 bt196.2.1 bt196.2.2.1 bt196.2.2.2 2 bt207.1 bt207.2).bind fun t211 => (some t211))))))) else (some false))))))) = some true := h
  clear h
  replace H := Option.bind_eq_some_iff.mp H
  obtain ⟨⟨t165, t166⟩, A10, H⟩ := H
  replace H : ((L21_up.f 3 5).bind fun bt169 => ((L21_up.f 3 5).bind fun bt173 => ((L21_three.f (([(⟨bt173.1, bt173.2.1, bt173.2.2.1, bt173.2.2.2⟩ : S29)] : List (S29)))).bind fun bt180 => ((L21_put.f k t165 t166 bt169.1 bt169.2.1 bt169.2.2.1 bt169.2.2.2 1 bt180.1 bt180.2).bind fun t184 => (if t184 = true then ((L21_up.f 3 5).bind fun bt185 => ((L21_three.f (([(⟨bt185.1, bt185.2.1, bt185.2.2.1, bt185.2.2.2⟩ : S29)] : List (S29)))).bind fun bt192 => ((L21_up.f 3 6).bind fun bt196 => ((L21_up.f 3 5).bind fun bt200 => ((L21_three.f (([(⟨bt200.1, bt200.2.1, bt200.2.2.1, bt200.2.2.2⟩ : S29)] : List (S29)))).bind fun bt207 => ((L21_put.f k bt192.1 bt192.2 bt196.1 bt196.2.1 bt196.2.2.1 bt196.2.2.2 2 bt207.1 bt207.2).bind fun t211 => (some t211))))))) else (some false)))))) = some true := H
  have A1 := Aside0.mk A10
  clear A10
  replace H := Option.bind_eq_some_iff.mp H
  obtain ⟨⟨t169, t170, t171, t172⟩, A20, H⟩ := H
  replace H : ((L21_up.f 3 5).bind fun bt173 => ((L21_three.f (([(⟨bt173.1, bt173.2.1, bt173.2.2.1, bt173.2.2.2⟩ : S29)] : List (S29)))).bind fun bt180 => ((L21_put.f k t165 t166 t169 t170 t171 t172 1 bt180.1 bt180.2).bind fun t184 => (if t184 = true then ((L21_up.f 3 5).bind fun bt185 => ((L21_three.f (([(⟨bt185.1, bt185.2.1, bt185.2.2.1, bt185.2.2.2⟩ : S29)] : List (S29)))).bind fun bt192 => ((L21_up.f 3 6).bind fun bt196 => ((L21_up.f 3 5).bind fun bt200 => ((L21_three.f (([(⟨bt200.1, bt200.2.1, bt200.2.2.1, bt200.2.2.2⟩ : S29)] : List (S29)))).bind fun bt207 => ((L21_put.f k bt192.1 bt192.2 bt196.1 bt196.2.1 bt196.2.2.1 bt196.2.2.2 2 bt207.1 bt207.2).bind fun t211 => (some t211))))))) else (some false))))) = some true := H
  have A2 := Aside0.mk A20
  clear A20
  replace H := Option.bind_eq_some_iff.mp H
  obtain ⟨⟨t173, t174, t175, t176⟩, A30, H⟩ := H
  replace H : ((L21_three.f (([(⟨t173, t174, t175, t176⟩ : S29)] : List (S29)))).bind fun bt180 => ((L21_put.f k t165 t166 t169 t170 t171 t172 1 bt180.1 bt180.2).bind fun t184 => (if t184 = true then ((L21_up.f 3 5).bind fun bt185 => ((L21_three.f (([(⟨bt185.1, bt185.2.1, bt185.2.2.1, bt185.2.2.2⟩ : S29)] : List (S29)))).bind fun bt192 => ((L21_up.f 3 6).bind fun bt196 => ((L21_up.f 3 5).bind fun bt200 => ((L21_three.f (([(⟨bt200.1, bt200.2.1, bt200.2.2.1, bt200.2.2.2⟩ : S29)] : List (S29)))).bind fun bt207 => ((L21_put.f k bt192.1 bt192.2 bt196.1 bt196.2.1 bt196.2.2.1 bt196.2.2.2 2 bt207.1 bt207.2).bind fun t211 => (some t211))))))) else (some false)))) = some true := H
  have A3 := Aside0.mk A30
  clear A30
  obtain ⟨y177, hy177⟩ : ∃ y_ : List (S29), y_ = (([(⟨t173, t174, t175, t176⟩ : S29)] : List (S29))) := ⟨_, rfl⟩
  replace H : ((L21_three.f y177).bind fun bt180 => ((L21_put.f k t165 t166 t169 t170 t171 t172 1 bt180.1 bt180.2).bind fun t184 => (if t184 = true then ((L21_up.f 3 5).bind fun bt185 => ((L21_three.f (([(⟨bt185.1, bt185.2.1, bt185.2.2.1, bt185.2.2.2⟩ : S29)] : List (S29)))).bind fun bt192 => ((L21_up.f 3 6).bind fun bt196 => ((L21_up.f 3 5).bind fun bt200 => ((L21_three.f (([(⟨bt200.1, bt200.2.1, bt200.2.2.1, bt200.2.2.2⟩ : S29)] : List (S29)))).bind fun bt207 => ((L21_put.f k bt192.1 bt192.2 bt196.1 bt196.2.1 bt196.2.2.1 bt196.2.2.2 2 bt207.1 bt207.2).bind fun t211 => (some t211))))))) else (some false)))) = some true := by first | (rw [hy177]; with_reducible exact H) | (have H2_ := (Option.bind_some _ _).symm.trans H; rw [hy177]; with_reducible exact H2_) | (have H2_ := (Option.bind_some _ _).symm.trans H; with_reducible exact H2_) | with_reducible exact H | (rw [hy177]; exact H) | exact H
  have Ny177 := Aside0.mk hy177
  clear hy177
  replace H := Option.bind_eq_some_iff.mp H
  obtain ⟨⟨t180, t181⟩, A40, H⟩ := H
  replace H : ((L21_put.f k t165 t166 t169 t170 t171 t172 1 t180 t181).bind fun t184 => (if t184 = true then ((L21_up.f 3 5).bind fun bt185 => ((L21_three.f (([(⟨bt185.1, bt185.2.1, bt185.2.2.1, bt185.2.2.2⟩ : S29)] : List (S29)))).bind fun bt192 => ((L21_up.f 3 6).bind fun bt196 => ((L21_up.f 3 5).bind fun bt200 => ((L21_three.f (([(⟨bt200.1, bt200.2.1, bt200.2.2.1, bt200.2.2.2⟩ : S29)] : List (S29)))).bind fun bt207 => ((L21_put.f k bt192.1 bt192.2 bt196.1 bt196.2.1 bt196.2.2.1 bt196.2.2.2 2 bt207.1 bt207.2).bind fun t211 => (some t211))))))) else (some false))) = some true := H
  have A4 := Aside0.mk A40
  clear A40
  replace H := Option.bind_eq_some_iff.mp H
  obtain ⟨t184, A50, H⟩ := H
  replace H : (if t184 = true then ((L21_up.f 3 5).bind fun bt185 => ((L21_three.f (([(⟨bt185.1, bt185.2.1, bt185.2.2.1, bt185.2.2.2⟩ : S29)] : List (S29)))).bind fun bt192 => ((L21_up.f 3 6).bind fun bt196 => ((L21_up.f 3 5).bind fun bt200 => ((L21_three.f (([(⟨bt200.1, bt200.2.1, bt200.2.2.1, bt200.2.2.2⟩ : S29)] : List (S29)))).bind fun bt207 => ((L21_put.f k bt192.1 bt192.2 bt196.1 bt196.2.1 bt196.2.2.1 bt196.2.2.2 2 bt207.1 bt207.2).bind fun t211 => (some t211))))))) else (some false)) = some true := H
  have A5 := Aside0.mk A50
  clear A50
  by_cases c6 : t184 = true
  · subst c6
    have H1 : ((L21_up.f 3 5).bind fun bt185 => ((L21_three.f (([(⟨bt185.1, bt185.2.1, bt185.2.2.1, bt185.2.2.2⟩ : S29)] : List (S29)))).bind fun bt192 => ((L21_up.f 3 6).bind fun bt196 => ((L21_up.f 3 5).bind fun bt200 => ((L21_three.f (([(⟨bt200.1, bt200.2.1, bt200.2.2.1, bt200.2.2.2⟩ : S29)] : List (S29)))).bind fun bt207 => ((L21_put.f k bt192.1 bt192.2 bt196.1 bt196.2.1 bt196.2.2.1 bt196.2.2.2 2 bt207.1 bt207.2).bind fun t211 => (some t211))))))) = some true := by rw [if_pos rfl] at H; exact H
    clear H
    have H := H1
    clear H1
    replace H := Option.bind_eq_some_iff.mp H
    obtain ⟨⟨t185, t186, t187, t188⟩, A70, H⟩ := H
    replace H : ((L21_three.f (([(⟨t185, t186, t187, t188⟩ : S29)] : List (S29)))).bind fun bt192 => ((L21_up.f 3 6).bind fun bt196 => ((L21_up.f 3 5).bind fun bt200 => ((L21_three.f (([(⟨bt200.1, bt200.2.1, bt200.2.2.1, bt200.2.2.2⟩ : S29)] : List (S29)))).bind fun bt207 => ((L21_put.f k bt192.1 bt192.2 bt196.1 bt196.2.1 bt196.2.2.1 bt196.2.2.2 2 bt207.1 bt207.2).bind fun t211 => (some t211)))))) = some true := H
    have A7 := Aside0.mk A70
    clear A70
    obtain ⟨y189, hy189⟩ : ∃ y_ : List (S29), y_ = (([(⟨t185, t186, t187, t188⟩ : S29)] : List (S29))) := ⟨_, rfl⟩
    replace H : ((L21_three.f y189).bind fun bt192 => ((L21_up.f 3 6).bind fun bt196 => ((L21_up.f 3 5).bind fun bt200 => ((L21_three.f (([(⟨bt200.1, bt200.2.1, bt200.2.2.1, bt200.2.2.2⟩ : S29)] : List (S29)))).bind fun bt207 => ((L21_put.f k bt192.1 bt192.2 bt196.1 bt196.2.1 bt196.2.2.1 bt196.2.2.2 2 bt207.1 bt207.2).bind fun t211 => (some t211)))))) = some true := by first | (rw [hy189]; with_reducible exact H) | (have H2_ := (Option.bind_some _ _).symm.trans H; rw [hy189]; with_reducible exact H2_) | (have H2_ := (Option.bind_some _ _).symm.trans H; with_reducible exact H2_) | with_reducible exact H | (rw [hy189]; exact H) | exact H
    have Ny189 := Aside0.mk hy189
    clear hy189
    replace H := Option.bind_eq_some_iff.mp H
    obtain ⟨⟨t192, t193⟩, A80, H⟩ := H
    replace H : ((L21_up.f 3 6).bind fun bt196 => ((L21_up.f 3 5).bind fun bt200 => ((L21_three.f (([(⟨bt200.1, bt200.2.1, bt200.2.2.1, bt200.2.2.2⟩ : S29)] : List (S29)))).bind fun bt207 => ((L21_put.f k t192 t193 bt196.1 bt196.2.1 bt196.2.2.1 bt196.2.2.2 2 bt207.1 bt207.2).bind fun t211 => (some t211))))) = some true := H
    have A8 := Aside0.mk A80
    clear A80
    replace H := Option.bind_eq_some_iff.mp H
    obtain ⟨⟨t196, t197, t198, t199⟩, A90, H⟩ := H
    replace H : ((L21_up.f 3 5).bind fun bt200 => ((L21_three.f (([(⟨bt200.1, bt200.2.1, bt200.2.2.1, bt200.2.2.2⟩ : S29)] : List (S29)))).bind fun bt207 => ((L21_put.f k t192 t193 t196 t197 t198 t199 2 bt207.1 bt207.2).bind fun t211 => (some t211)))) = some true := H
    have A9 := Aside0.mk A90
    clear A90
    replace H := Option.bind_eq_some_iff.mp H
    obtain ⟨⟨t200, t201, t202, t203⟩, A100, H⟩ := H
    replace H : ((L21_three.f (([(⟨t200, t201, t202, t203⟩ : S29)] : List (S29)))).bind fun bt207 => ((L21_put.f k t192 t193 t196 t197 t198 t199 2 bt207.1 bt207.2).bind fun t211 => (some t211))) = some true := H
    have A10 := Aside0.mk A100
    clear A100
    obtain ⟨y204, hy204⟩ : ∃ y_ : List (S29), y_ = (([(⟨t200, t201, t202, t203⟩ : S29)] : List (S29))) := ⟨_, rfl⟩
    replace H : ((L21_three.f y204).bind fun bt207 => ((L21_put.f k t192 t193 t196 t197 t198 t199 2 bt207.1 bt207.2).bind fun t211 => (some t211))) = some true := by first | (rw [hy204]; with_reducible exact H) | (have H2_ := (Option.bind_some _ _).symm.trans H; rw [hy204]; with_reducible exact H2_) | (have H2_ := (Option.bind_some _ _).symm.trans H; with_reducible exact H2_) | with_reducible exact H | (rw [hy204]; exact H) | exact H
    have Ny204 := Aside0.mk hy204
    clear hy204
    replace H := Option.bind_eq_some_iff.mp H
    obtain ⟨⟨t207, t208⟩, A110, H⟩ := H
    replace H : ((L21_put.f k t192 t193 t196 t197 t198 t199 2 t207 t208).bind fun t211 => (some t211)) = some true := H
    have A11 := Aside0.mk A110
    clear A110
    replace H := Option.bind_eq_some_iff.mp H
    obtain ⟨t211, A120, H⟩ := H
    replace H : (some t211) = some true := H
    have A12 := Aside0.mk A120
    clear A120
    have Ht_ := Option.some.inj H
    clear H
    subst Ht_
    have H : (some true : Option Bool) = some true := rfl
    clear H
    go_enter Try.func30, Try.ntmps30
    go_wp2_with (first | ((with_reducible refine gate_callee (f := 48) rfl ?_); refine goesL_ (some 1) rfl rfl Try.func48 (by kernel_rfl) rfl #[.slice none 0 0] rfl (by (try simp only [List.map_toArray, List.map_cons, List.map_nil]); first | done | rfl | (simp only [List.length_drop, List.length_take]; rfl)) ?_; (refine (L21_three.calls (fun k_ => some k_ = (.slice none 0 0 : Value).ownBlock) (.slice none 0 0) ([] : List (S29)) t165 t166 w _ ?side1 ?side2 A1.out).mono ?_); (case side1 => repeat (first | (with_reducible first | exact HB.out | apply below_alloc | apply pw_below_drewN | apply below_drew1) | exact HB.out)); (case side2 => exact Kd.R_nil _ _ _ _ _); rintro e w13 ⟨v167, rfl, ho0, hb, hkp⟩; refine ⟨_, rfl, ?_⟩; have n0_ := Aside0.mk (Kd.R_mono (ok' := fun k_ => True) ho0 (fun k_ hk_ => trivial)); have n1_ := Aside0.mk (hb); clear HB; have HO168 := n0_; have HB := n1_; clear n0_ n1_; (try clear hb); (try clear hkp); (try clear ho0)) | ((with_reducible refine gate_callee (f := 49) rfl ?_); refine goesL_ (some 2) rfl rfl Try.func49 (by kernel_rfl) rfl #[.int .i64 3, .int .i64 5] rfl (by (try simp only [List.map_toArray, List.map_cons, List.map_nil]); first | done | rfl | (simp only [List.length_drop, List.length_take]; rfl)) ?_; (with_reducible refine (L21_up.calls 3 5 t169 t170 t171 t172 _ A2.out).mono ?_); rintro e w14 ⟨rfl, hb⟩; refine ⟨_, rfl, ?_⟩; have n0_ := Aside0.mk (Kd.R_below (by (with_reducible repeat (first | apply Kd.R_alloc | apply Kd.R_drewN | apply Kd.R_drew)); exact HO168.out) hb); have n1_ := Aside0.mk (below_step (by repeat (first | (with_reducible first | exact HB.out | apply below_alloc | apply pw_below_drewN | apply below_drew1) | exact HB.out)) hb); clear HO168; clear HB; have HO168 := n0_; have HB := n1_; clear n0_ n1_; (try clear hb); (try clear hb2); (try clear hk); (try clear hi)) | ((with_reducible refine gate_callee (f := 49) rfl ?_); refine goesL_ (some 3) rfl rfl Try.func49 (by kernel_rfl) rfl #[.int .i64 3, .int .i64 5] rfl (by (try simp only [List.map_toArray, List.map_cons, List.map_nil]); first | done | rfl | (simp only [List.length_drop, List.length_take]; rfl)) ?_; (with_reducible refine (L21_up.calls 3 5 t173 t174 t175 t176 _ A3.out).mono ?_); rintro e w15 ⟨rfl, hb⟩; refine ⟨_, rfl, ?_⟩; have n0_ := Aside0.mk (Kd.R_below (by (with_reducible repeat (first | apply Kd.R_alloc | apply Kd.R_drewN | apply Kd.R_drew)); exact HO168.out) hb); have n1_ := Aside0.mk (below_step (by repeat (first | (with_reducible first | exact HB.out | apply below_alloc | apply pw_below_drewN | apply below_drew1) | exact HB.out)) hb); clear HO168; clear HB; have HO168 := n0_; have HB := n1_; clear n0_ n1_; (try clear hb); (try clear hb2); (try clear hk); (try clear hi)) | ((with_reducible refine gate_dst (N := 4) rfl ?_); (try (refine gate_guard (by rfl) ?_; dsimp only)); refine Kd.R_lit k29 _ 29 ?hg (N := 4) ?hd (xs := ([(⟨t173, t174, t175, t176⟩ : S29)] : List (S29))) (inner := [.int .i64 t173, .int .i64 t174, .int .i64 t175, .int .i64 t176]) (ok := fun _ => True) (okp := fun _ => True) ?hr ?hp (fun _ hk => hk) trivial (Below.refl _ _) (Nat.le_refl _) (by simp) ?_; (case hd => rfl); (case hg => rfl); (case hr => first | (go_simp; done) | (go_simp; rfl)); (case hp => exact (Reps.c4 (show Kd.M k29 _ _ _ (⟨t173, t174, t175, t176⟩ : S29) [.int .i64 t173, .int .i64 t174, .int .i64 t175, .int .i64 t176] from (k29_mkM _ _ _ (⟨t173, t174, t175, t176⟩ : S29) )) (Reps.none _ _))); intro v178 w16 ho17 hb hg_ hnew_; clear hg_ hnew_; (first | rw [← Ny177.out] at ho17 | (simp only [Int.reduceToNat] at ho17; rw [← Ny177.out] at ho17)); have n0_ := Aside0.mk (Kd.R_elder' (by (with_reducible repeat (first | apply Kd.R_alloc | apply Kd.R_drewN | apply Kd.R_drew)); exact HO168.out) (Kd.R_base ho17) hb); have n1_ := Aside0.mk (Kd.R_lower (Kd.R_new' ho17 (Kd.R_lt (by (with_reducible repeat (first | apply Kd.R_alloc | apply Kd.R_drewN | apply Kd.R_drew)); exact HO168.out))) (below_size (by repeat (first | (with_reducible first | exact HB.out | apply below_alloc | apply pw_below_drewN | apply below_drew1) | exact HB.out)))); have n2_ := Aside0.mk (below_step (by repeat (first | (with_reducible first | exact HB.out | apply below_alloc | apply pw_below_drewN | apply below_drew1) | exact HB.out)) hb); clear HO168; clear HB; have HO168 := n0_; have HO179 := n1_; have HB := n2_; clear n0_ n1_ n2_; clear hb ho17; obtain ⟨Ao18, co18, eo18⟩ := Kd.R_slice HO179.out; subst eo18) | ((with_reducible refine gate_callee (f := 48) rfl ?_); refine goesL_ (some 5) rfl rfl Try.func48 (by kernel_rfl) rfl #[.slice Ao18 y177.length co18] rfl (by (try simp only [List.map_toArray, List.map_cons, List.map_nil]); first | done | rfl | (simp only [List.length_drop, List.length_take]; rfl)) ?_; (with_reducible refine (L21_three.calls (fun k_ => some k_ = (.slice Ao18 y177.length co18 : Value).ownBlock) (.slice Ao18 y177.length co18) y177 t180 t181 w _ ?side1 ?side2 A4.out).mono ?_); (case side1 => repeat (first | (with_reducible first | exact HB.out | apply below_alloc | apply pw_below_drewN | apply below_drew1) | exact HB.out)); (case side2 => exact Kd.R_tight rfl HO179.out); rintro e w19 ⟨v182, rfl, ho0, hb, hkp⟩; refine ⟨_, rfl, ?_⟩; have n0_ := Aside0.mk (Kd.R_mono (ok' := fun k_ => some k_ ≠ (v182 : Value).ownBlock) (Kd.R_keptB (HO168.out) hkp (fun k_ hk_ hs_ => (hk_.2) hs_)) (fun k_ hk_ => fun e_ => Or.elim (ho0.1 k_ e_.symm) (fun hs_ => hk_.2.1 hs_) (fun hn_ => Nat.not_le.2 hk_.2.2 hn_))); have n1_ := Aside0.mk (Kd.R_mono (ok' := fun k_ => some k_ ≠ (v167 : Value).ownBlock) ho0 (fun k_ hk_ => Or.elim hk_ (fun hs_ => fun e_ => (((HO168.out).1 k_ e_.symm).2) hs_) (fun hn_ => (Kd.fresh' (Kd.R_lt (by (with_reducible repeat (first | apply Kd.R_alloc | apply Kd.R_drewN | apply Kd.R_drew)); exact HO168.out)) k_ hn_)))); have n2_ := Aside0.mk (hb); clear HO168; clear HB; clear HO179; have HO168 := n0_; have HO183 := n1_; have HB := n2_; clear n0_ n1_ n2_; (try clear hb); (try clear hkp); (try clear ho0); obtain ⟨Ao20, co20, eo20⟩ := Kd.R_slice HO168.out; subst eo20; obtain ⟨Ao21, co21, eo21⟩ := Kd.R_slice HO183.out; subst eo21) | ((with_reducible refine gate_callee (f := 53) rfl ?_); refine goesL_ (some 6) rfl rfl Try.func53 (by kernel_rfl) rfl #[.agg #[.int .i64 t165, .slice Ao20 t166.length co20], .agg #[.int .i64 t169, .int .i64 t170, .int .i64 t171, .int .i64 t172], .int .i64 1, .agg #[.int .i64 t180, .slice Ao21 t181.length co21]] rfl (by (try simp only [List.map_toArray, List.map_cons, List.map_nil]); first | done | rfl | (simp only [List.length_drop, List.length_take]; rfl)) ?_; (with_reducible refine (L21_put.calls k t165 _ _ t166 t169 t170 t171 t172 1 t180 _ _ t181 true _ ?side1 ?side2 ?side3 ?side4 A5.out).mono ?_); (case side1 => repeat (first | exact (Kd.R_reads' HO168.out).2.2 | (with_reducible refine Kd.C_alloc ?_ _) | (with_reducible refine Kd.C_drewN ?_ _) | (with_reducible refine Kd.C_drew ?_))); (case side2 => exact (Kd.R_reads' HO168.out).2.1); (case side3 => repeat (first | exact (Kd.R_reads' HO183.out).2.2 | (with_reducible refine Kd.C_alloc ?_ _) | (with_reducible refine Kd.C_drewN ?_ _) | (with_reducible refine Kd.C_drew ?_))); (case side4 => exact (Kd.R_reads' HO183.out).2.1); rintro e w22 ⟨rfl, hb⟩; refine ⟨_, rfl, ?_⟩; have n0_ := Aside0.mk (Kd.R_below (by (with_reducible repeat (first | apply Kd.R_alloc | apply Kd.R_drewN | apply Kd.R_drew)); exact HO168.out) hb); have n1_ := Aside0.mk (Kd.R_below (by (with_reducible repeat (first | apply Kd.R_alloc | apply Kd.R_drewN | apply Kd.R_drew)); exact HO183.out) hb); have n2_ := Aside0.mk (below_step (by repeat (first | (with_reducible first | exact HB.out | apply below_alloc | apply pw_below_drewN | apply below_drew1) | exact HB.out)) hb); clear HO168; clear HO183; clear HB; have HO168 := n0_; have HO183 := n1_; have HB := n2_; clear n0_ n1_ n2_; (try clear hb); (try clear hb2); (try clear hk); (try clear hi)) | ((with_reducible refine gate_callee (f := 49) rfl ?_); (with_reducible refine gate_dst (N := 8) rfl ?_); refine gate_guard (by rfl) ?_; dsimp only; refine goesL_ (some 8) rfl rfl Try.func49 (by kernel_rfl) rfl #[.int .i64 3, .int .i64 5] rfl (by (try simp only [List.map_toArray, List.map_cons, List.map_nil]); first | done | rfl | (simp only [List.length_drop, List.length_take]; rfl)) ?_; (with_reducible refine (L21_up.calls 3 5 t185 t186 t187 t188 _ A7.out).mono ?_); rintro e w23 ⟨rfl, hb⟩; refine ⟨_, rfl, ?_⟩; have n0_ := Aside0.mk (Kd.R_below (by (with_reducible repeat (first | apply Kd.R_alloc | apply Kd.R_drewN | apply Kd.R_drew)); exact HO168.out) hb); have n1_ := Aside0.mk (Kd.R_below (by (with_reducible repeat (first | apply Kd.R_alloc | apply Kd.R_drewN | apply Kd.R_drew)); exact HO183.out) hb); have n2_ := Aside0.mk (below_step (by repeat (first | (with_reducible first | exact HB.out | apply below_alloc | apply pw_below_drewN | apply below_drew1) | exact HB.out)) hb); clear HO168; clear HO183; clear HB; have HO168 := n0_; have HO183 := n1_; have HB := n2_; clear n0_ n1_ n2_; (try clear hb); (try clear hb2); (try clear hk); (try clear hi)) | ((with_reducible refine gate_dst (N := 9) rfl ?_); (try (refine gate_guard (by rfl) ?_; dsimp only)); refine Kd.R_lit k29 _ 29 ?hg (N := 9) ?hd (xs := ([(⟨t185, t186, t187, t188⟩ : S29)] : List (S29))) (inner := [.int .i64 t185, .int .i64 t186, .int .i64 t187, .int .i64 t188]) (ok := fun _ => True) (okp := fun _ => True) ?hr ?hp (fun _ hk => hk) trivial (Below.refl _ _) (Nat.le_refl _) (by simp) ?_; (case hd => rfl); (case hg => rfl); (case hr => first | (go_simp; done) | (go_simp; rfl)); (case hp => exact (Reps.c4 (show Kd.M k29 _ _ _ (⟨t185, t186, t187, t188⟩ : S29) [.int .i64 t185, .int .i64 t186, .int .i64 t187, .int .i64 t188] from (k29_mkM _ _ _ (⟨t185, t186, t187, t188⟩ : S29) )) (Reps.none _ _))); intro v190 w24 ho25 hb hg_ hnew_; clear hg_ hnew_; (first | rw [← Ny189.out] at ho25 | (simp only [Int.reduceToNat] at ho25; rw [← Ny189.out] at ho25)); have n0_ := Aside0.mk (Kd.R_elder' (by (with_reducible repeat (first | apply Kd.R_alloc | apply Kd.R_drewN | apply Kd.R_drew)); exact HO168.out) (Kd.R_base ho25) hb); have n1_ := Aside0.mk (Kd.R_elder' (by (with_reducible repeat (first | apply Kd.R_alloc | apply Kd.R_drewN | apply Kd.R_drew)); exact HO183.out) (Kd.R_base ho25) hb); have n2_ := Aside0.mk (Kd.R_lower (Kd.R_new' (Kd.R_new' ho25 (Kd.R_lt (by (with_reducible repeat (first | apply Kd.R_alloc | apply Kd.R_drewN | apply Kd.R_drew)); exact HO168.out))) (Kd.R_lt (by (with_reducible repeat (first | apply Kd.R_alloc | apply Kd.R_drewN | apply Kd.R_drew)); exact HO183.out))) (below_size (by repeat (first | (with_reducible first | exact HB.out | apply below_alloc | apply pw_below_drewN | apply below_drew1) | exact HB.out)))); have n3_ := Aside0.mk (below_step (by repeat (first | (with_reducible first | exact HB.out | apply below_alloc | apply pw_below_drewN | apply below_drew1) | exact HB.out)) hb); clear HO168; clear HO183; clear HB; have HO168 := n0_; have HO183 := n1_; have HO191 := n2_; have HB := n3_; clear n0_ n1_ n2_ n3_; clear hb ho25; obtain ⟨Ao26, co26, eo26⟩ := Kd.R_slice HO191.out; subst eo26) | ((with_reducible refine gate_callee (f := 48) rfl ?_); (with_reducible refine gate_dst (N := 10) rfl ?_); refine gate_guard (by rfl) ?_; dsimp only; refine goesL_ (some 10) rfl rfl Try.func48 (by kernel_rfl) rfl #[.slice Ao26 y189.length co26] rfl (by (try simp only [List.map_toArray, List.map_cons, List.map_nil]); first | done | rfl | (simp only [List.length_drop, List.length_take]; rfl)) ?_; (with_reducible refine (L21_three.calls (fun k_ => some k_ = (.slice Ao26 y189.length co26 : Value).ownBlock) (.slice Ao26 y189.length co26) y189 t192 t193 w _ ?side1 ?side2 A8.out).mono ?_); (case side1 => repeat (first | (with_reducible first | exact HB.out | apply below_alloc | apply pw_below_drewN | apply below_drew1) | exact HB.out)); (case side2 => exact Kd.R_tight rfl HO191.out); rintro e w27 ⟨v194, rfl, ho0, hb, hkp⟩; refine ⟨_, rfl, ?_⟩; have n0_ := Aside0.mk (Kd.R_mono (ok' := fun k_ => some k_ ≠ (.slice Ao21 t181.length co21 : Value).ownBlock ∧ some k_ ≠ (v194 : Value).ownBlock) (Kd.R_keptB (HO168.out) hkp (fun k_ hk_ hs_ => (hk_.2) hs_)) (fun k_ hk_ => ⟨hk_.1.1, fun e_ => Or.elim (ho0.1 k_ e_.symm) (fun hs_ => hk_.2.1 hs_) (fun hn_ => Nat.not_le.2 hk_.2.2 hn_)⟩)); have n1_ := Aside0.mk (Kd.R_mono (ok' := fun k_ => some k_ ≠ (.slice Ao20 t166.length co20 : Value).ownBlock ∧ some k_ ≠ (v194 : Value).ownBlock) (Kd.R_keptB (HO183.out) hkp (fun k_ hk_ hs_ => (hk_.2) hs_)) (fun k_ hk_ => ⟨hk_.1.1, fun e_ => Or.elim (ho0.1 k_ e_.symm) (fun hs_ => hk_.2.1 hs_) (fun hn_ => Nat.not_le.2 hk_.2.2 hn_)⟩)); have n2_ := Aside0.mk (Kd.R_mono (ok' := fun k_ => some k_ ≠ (.slice Ao20 t166.length co20 : Value).ownBlock ∧ some k_ ≠ (.slice Ao21 t181.length co21 : Value).ownBlock) ho0 (fun k_ hk_ => ⟨Or.elim hk_ (fun hs_ => fun e_ => (((HO168.out).1 k_ e_.symm).2) hs_) (fun hn_ => (Kd.fresh' (Kd.R_lt (by (with_reducible repeat (first | apply Kd.R_alloc | apply Kd.R_drewN | apply Kd.R_drew)); exact HO168.out)) k_ hn_)), Or.elim hk_ (fun hs_ => fun e_ => (((HO183.out).1 k_ e_.symm).2) hs_) (fun hn_ => (Kd.fresh' (Kd.R_lt (by (with_reducible repeat (first | apply Kd.R_alloc | apply Kd.R_drewN | apply Kd.R_drew)); exact HO183.out)) k_ hn_))⟩)); have n3_ := Aside0.mk (hb); clear HO168; clear HO183; clear HB; clear HO191; have HO168 := n0_; have HO183 := n1_; have HO195 := n2_; have HB := n3_; clear n0_ n1_ n2_ n3_; (try clear hb); (try clear hkp); (try clear ho0)) | ((with_reducible refine gate_callee (f := 49) rfl ?_); (with_reducible refine gate_dst (N := 11) rfl ?_); refine gate_guard (by rfl) ?_; dsimp only; refine goesL_ (some 11) rfl rfl Try.func49 (by kernel_rfl) rfl #[.int .i64 3, .int .i64 6] rfl (by (try simp only [List.map_toArray, List.map_cons, List.map_nil]); first | done | rfl | (simp only [List.length_drop, List.length_take]; rfl)) ?_; (with_reducible refine (L21_up.calls 3 6 t196 t197 t198 t199 _ A9.out).mono ?_); rintro e w28 ⟨rfl, hb⟩; refine ⟨_, rfl, ?_⟩; have n0_ := Aside0.mk (Kd.R_below (by (with_reducible repeat (first | apply Kd.R_alloc | apply Kd.R_drewN | apply Kd.R_drew)); exact HO168.out) hb); have n1_ := Aside0.mk (Kd.R_below (by (with_reducible repeat (first | apply Kd.R_alloc | apply Kd.R_drewN | apply Kd.R_drew)); exact HO183.out) hb); have n2_ := Aside0.mk (Kd.R_below (by (with_reducible repeat (first | apply Kd.R_alloc | apply Kd.R_drewN | apply Kd.R_drew)); exact HO195.out) hb); have n3_ := Aside0.mk (below_step (by repeat (first | (with_reducible first | exact HB.out | apply below_alloc | apply pw_below_drewN | apply below_drew1) | exact HB.out)) hb); clear HO168; clear HO183; clear HO195; clear HB; have HO168 := n0_; have HO183 := n1_; have HO195 := n2_; have HB := n3_; clear n0_ n1_ n2_ n3_; (try clear hb); (try clear hb2); (try clear hk); (try clear hi)) | ((with_reducible refine gate_callee (f := 49) rfl ?_); (with_reducible refine gate_dst (N := 12) rfl ?_); refine gate_guard (by rfl) ?_; dsimp only; refine goesL_ (some 12) rfl rfl Try.func49 (by kernel_rfl) rfl #[.int .i64 3, .int .i64 5] rfl (by (try simp only [List.map_toArray, List.map_cons, List.map_nil]); first | done | rfl | (simp only [List.length_drop, List.length_take]; rfl)) ?_; (with_reducible refine (L21_up.calls 3 5 t200 t201 t202 t203 _ A10.out).mono ?_); rintro e w29 ⟨rfl, hb⟩; refine ⟨_, rfl, ?_⟩; have n0_ := Aside0.mk (Kd.R_below (by (with_reducible repeat (first | apply Kd.R_alloc | apply Kd.R_drewN | apply Kd.R_drew)); exact HO168.out) hb); have n1_ := Aside0.mk (Kd.R_below (by (with_reducible repeat (first | apply Kd.R_alloc | apply Kd.R_drewN | apply Kd.R_drew)); exact HO183.out) hb); have n2_ := Aside0.mk (Kd.R_below (by (with_reducible repeat (first | apply Kd.R_alloc | apply Kd.R_drewN | apply Kd.R_drew)); exact HO195.out) hb); have n3_ := Aside0.mk (below_step (by repeat (first | (with_reducible first | exact HB.out | apply below_alloc | apply pw_below_drewN | apply below_drew1) | exact HB.out)) hb); clear HO168; clear HO183; clear HO195; clear HB; have HO168 := n0_; have HO183 := n1_; have HO195 := n2_; have HB := n3_; clear n0_ n1_ n2_ n3_; (try clear hb); (try clear hb2); (try clear hk); (try clear hi)) | ((with_reducible refine gate_dst (N := 13) rfl ?_); (try (refine gate_guard (by rfl) ?_; dsimp only)); refine Kd.R_lit k29 _ 29 ?hg (N := 13) ?hd (xs := ([(⟨t200, t201, t202, t203⟩ : S29)] : List (S29))) (inner := [.int .i64 t200, .int .i64 t201, .int .i64 t202, .int .i64 t203]) (ok := fun _ => True) (okp := fun _ => True) ?hr ?hp (fun _ hk => hk) trivial (Below.refl _ _) (Nat.le_refl _) (by simp) ?_; (case hd => rfl); (case hg => rfl); (case hr => first | (go_simp; done) | (go_simp; rfl)); (case hp => exact (Reps.c4 (show Kd.M k29 _ _ _ (⟨t200, t201, t202, t203⟩ : S29) [.int .i64 t200, .int .i64 t201, .int .i64 t202, .int .i64 t203] from (k29_mkM _ _ _ (⟨t200, t201, t202, t203⟩ : S29) )) (Reps.none _ _))); intro v205 w30 ho31 hb hg_ hnew_; clear hg_ hnew_; (first | rw [← Ny204.out] at ho31 | (simp only [Int.reduceToNat] at ho31; rw [← Ny204.out] at ho31)); have n0_ := Aside0.mk (Kd.R_elder' (by (with_reducible repeat (first | apply Kd.R_alloc | apply Kd.R_drewN | apply Kd.R_drew)); exact HO168.out) (Kd.R_base ho31) hb); have n1_ := Aside0.mk (Kd.R_elder' (by (with_reducible repeat (first | apply Kd.R_alloc | apply Kd.R_drewN | apply Kd.R_drew)); exact HO183.out) (Kd.R_base ho31) hb); have n2_ := Aside0.mk (Kd.R_elder' (by (with_reducible repeat (first | apply Kd.R_alloc | apply Kd.R_drewN | apply Kd.R_drew)); exact HO195.out) (Kd.R_base ho31) hb); have n3_ := Aside0.mk (Kd.R_lower (Kd.R_new' (Kd.R_new' (Kd.R_new' ho31 (Kd.R_lt (by (with_reducible repeat (first | apply Kd.R_alloc | apply Kd.R_drewN | apply Kd.R_drew)); exact HO168.out))) (Kd.R_lt (by (with_reducible repeat (first | apply Kd.R_alloc | apply Kd.R_drewN | apply Kd.R_drew)); exact HO183.out))) (Kd.R_lt (by (with_reducible repeat (first | apply Kd.R_alloc | apply Kd.R_drewN | apply Kd.R_drew)); exact HO195.out))) (below_size (by repeat (first | (with_reducible first | exact HB.out | apply below_alloc | apply pw_below_drewN | apply below_drew1) | exact HB.out)))); have n4_ := Aside0.mk (below_step (by repeat (first | (with_reducible first | exact HB.out | apply below_alloc | apply pw_below_drewN | apply below_drew1) | exact HB.out)) hb); clear HO168; clear HO183; clear HO195; clear HB; have HO168 := n0_; have HO183 := n1_; have HO195 := n2_; have HO206 := n3_; have HB := n4_; clear n0_ n1_ n2_ n3_ n4_; clear hb ho31; obtain ⟨Ao32, co32, eo32⟩ := Kd.R_slice HO206.out; subst eo32) | ((with_reducible refine gate_callee (f := 48) rfl ?_); (with_reducible refine gate_dst (N := 14) rfl ?_); refine gate_guard (by rfl) ?_; dsimp only; refine goesL_ (some 14) rfl rfl Try.func48 (by kernel_rfl) rfl #[.slice Ao32 y204.length co32] rfl (by (try simp only [List.map_toArray, List.map_cons, List.map_nil]); first | done | rfl | (simp only [List.length_drop, List.length_take]; rfl)) ?_; (with_reducible refine (L21_three.calls (fun k_ => some k_ = (.slice Ao32 y204.length co32 : Value).ownBlock) (.slice Ao32 y204.length co32) y204 t207 t208 w _ ?side1 ?side2 A11.out).mono ?_); (case side1 => repeat (first | (with_reducible first | exact HB.out | apply below_alloc | apply pw_below_drewN | apply below_drew1) | exact HB.out)); (case side2 => exact Kd.R_tight rfl HO206.out); rintro e w33 ⟨v209, rfl, ho0, hb, hkp⟩; refine ⟨_, rfl, ?_⟩; have n0_ := Aside0.mk (Kd.R_mono (ok' := fun k_ => some k_ ≠ (.slice Ao21 t181.length co21 : Value).ownBlock ∧ some k_ ≠ (v194 : Value).ownBlock ∧ some k_ ≠ (v209 : Value).ownBlock) (Kd.R_keptB (HO168.out) hkp (fun k_ hk_ hs_ => (hk_.2) hs_)) (fun k_ hk_ => ⟨hk_.1.1.1, hk_.1.1.2, fun e_ => Or.elim (ho0.1 k_ e_.symm) (fun hs_ => hk_.2.1 hs_) (fun hn_ => Nat.not_le.2 hk_.2.2 hn_)⟩)); have n1_ := Aside0.mk (Kd.R_mono (ok' := fun k_ => some k_ ≠ (.slice Ao20 t166.length co20 : Value).ownBlock ∧ some k_ ≠ (v194 : Value).ownBlock ∧ some k_ ≠ (v209 : Value).ownBlock) (Kd.R_keptB (HO183.out) hkp (fun k_ hk_ hs_ => (hk_.2) hs_)) (fun k_ hk_ => ⟨hk_.1.1.1, hk_.1.1.2, fun e_ => Or.elim (ho0.1 k_ e_.symm) (fun hs_ => hk_.2.1 hs_) (fun hn_ => Nat.not_le.2 hk_.2.2 hn_)⟩)); have n2_ := Aside0.mk (Kd.R_mono (ok' := fun k_ => some k_ ≠ (.slice Ao20 t166.length co20 : Value).ownBlock ∧ some k_ ≠ (.slice Ao21 t181.length co21 : Value).ownBlock ∧ some k_ ≠ (v209 : Value).ownBlock) (Kd.R_keptB (HO195.out) hkp (fun k_ hk_ hs_ => (hk_.2) hs_)) (fun k_ hk_ => ⟨hk_.1.1.1, hk_.1.1.2, fun e_ => Or.elim (ho0.1 k_ e_.symm) (fun hs_ => hk_.2.1 hs_) (fun hn_ => Nat.not_le.2 hk_.2.2 hn_)⟩)); have n3_ := Aside0.mk (Kd.R_mono (ok' := fun k_ => some k_ ≠ (.slice Ao20 t166.length co20 : Value).ownBlock ∧ some k_ ≠ (.slice Ao21 t181.length co21 : Value).ownBlock ∧ some k_ ≠ (v194 : Value).ownBlock) ho0 (fun k_ hk_ => ⟨Or.elim hk_ (fun hs_ => fun e_ => (((HO168.out).1 k_ e_.symm).2) hs_) (fun hn_ => (Kd.fresh' (Kd.R_lt (by (with_reducible repeat (first | apply Kd.R_alloc | apply Kd.R_drewN | apply Kd.R_drew)); exact HO168.out)) k_ hn_)), Or.elim hk_ (fun hs_ => fun e_ => (((HO183.out).1 k_ e_.symm).2) hs_) (fun hn_ => (Kd.fresh' (Kd.R_lt (by (with_reducible repeat (first | apply Kd.R_alloc | apply Kd.R_drewN | apply Kd.R_drew)); exact HO183.out)) k_ hn_)), Or.elim hk_ (fun hs_ => fun e_ => (((HO195.out).1 k_ e_.symm).2) hs_) (fun hn_ => (Kd.fresh' (Kd.R_lt (by (with_reducible repeat (first | apply Kd.R_alloc | apply Kd.R_drewN | apply Kd.R_drew)); exact HO195.out)) k_ hn_))⟩)); have n4_ := Aside0.mk (hb); clear HO168; clear HO183; clear HO195; clear HB; clear HO206; have HO168 := n0_; have HO183 := n1_; have HO195 := n2_; have HO210 := n3_; have HB := n4_; clear n0_ n1_ n2_ n3_ n4_; (try clear hb); (try clear hkp); (try clear ho0); obtain ⟨Ao34, co34, eo34⟩ := Kd.R_slice HO195.out; subst eo34; obtain ⟨Ao35, co35, eo35⟩ := Kd.R_slice HO210.out; subst eo35) | ((with_reducible refine gate_callee (f := 53) rfl ?_); (with_reducible refine gate_dst (N := 15) rfl ?_); refine gate_guard (by rfl) ?_; dsimp only; refine goesL_ (some 15) rfl rfl Try.func53 (by kernel_rfl) rfl #[.agg #[.int .i64 t192, .slice Ao34 t193.length co34], .agg #[.int .i64 t196, .int .i64 t197, .int .i64 t198, .int .i64 t199], .int .i64 2, .agg #[.int .i64 t207, .slice Ao35 t208.length co35]] rfl (by (try simp only [List.map_toArray, List.map_cons, List.map_nil]); first | done | rfl | (simp only [List.length_drop, List.length_take]; rfl)) ?_; (with_reducible refine (L21_put.calls k t192 _ _ t193 t196 t197 t198 t199 2 t207 _ _ t208 true _ ?side1 ?side2 ?side3 ?side4 A12.out).mono ?_); (case side1 => repeat (first | exact (Kd.R_reads' HO195.out).2.2 | (with_reducible refine Kd.C_alloc ?_ _) | (with_reducible refine Kd.C_drewN ?_ _) | (with_reducible refine Kd.C_drew ?_))); (case side2 => exact (Kd.R_reads' HO195.out).2.1); (case side3 => repeat (first | exact (Kd.R_reads' HO210.out).2.2 | (with_reducible refine Kd.C_alloc ?_ _) | (with_reducible refine Kd.C_drewN ?_ _) | (with_reducible refine Kd.C_drew ?_))); (case side4 => exact (Kd.R_reads' HO210.out).2.1); rintro e w36 ⟨rfl, hb⟩; refine ⟨_, rfl, ?_⟩; have n0_ := Aside0.mk (Kd.R_below (by (with_reducible repeat (first | apply Kd.R_alloc | apply Kd.R_drewN | apply Kd.R_drew)); exact HO168.out) hb); have n1_ := Aside0.mk (Kd.R_below (by (with_reducible repeat (first | apply Kd.R_alloc | apply Kd.R_drewN | apply Kd.R_drew)); exact HO183.out) hb); have n2_ := Aside0.mk (Kd.R_below (by (with_reducible repeat (first | apply Kd.R_alloc | apply Kd.R_drewN | apply Kd.R_drew)); exact HO195.out) hb); have n3_ := Aside0.mk (Kd.R_below (by (with_reducible repeat (first | apply Kd.R_alloc | apply Kd.R_drewN | apply Kd.R_drew)); exact HO210.out) hb); have n4_ := Aside0.mk (below_step (by repeat (first | (with_reducible first | exact HB.out | apply below_alloc | apply pw_below_drewN | apply below_drew1) | exact HB.out)) hb); clear HO168; clear HO183; clear HO195; clear HO210; clear HB; have HO168 := n0_; have HO183 := n1_; have HO195 := n2_; have HO210 := n3_; have HB := n4_; clear n0_ n1_ n2_ n3_ n4_; (try clear hb); (try clear hb2); (try clear hk); (try clear hi)))
    all_goals go_ret
    all_goals exact ⟨by first | rfl | (simp [errW_none, errW_some] <;> rfl) | (simp [*, errW_none, errW_some] <;> rfl), by repeat (first | (with_reducible first | exact HB.out | apply below_alloc | apply pw_below_drewN | apply below_drew1) | exact HB.out)⟩
  · replace c6 := Bool.eq_false_iff.mpr c6
    subst c6
    have H1 : (some false) = some true := by rw [if_neg (show ¬ (false = true) by decide)] at H; exact H
    clear H
    have H := H1
    clear H1
    exact absurd H (by repeat (first | exact never_none | exact never_false | refine never_ite ?_ ?_ | refine never_bind (fun _ => ?_)))

end Go.Proofs.Ytmfbpkjhabdcgaa.F
end
section
/- Plain laws of tables of calls: what Check and Put reckon. No program in sight. -/
namespace Go.Proofs.Ytmfbpkjhabdcgaa.F
open Go.RowKit Go.Proofs.YtmfbpkjhabdcgaaW.PrintWords Go.Proofs.YtmfbpkjhabdcgaaW.PrintLast Go.Proofs.YtmfbpkjhabdcgaaW.PrintMore
set_option linter.unusedVariables false
set_option linter.unusedSimpArgs false

theorem le_fuel {α : Type} {f : Nat → Option α} (h : ∀ k, LeO (f k) (f (k + 1))) {n m : Nat} (hnm : n ≤ m) {r : α} (e : f n = some r) : f m = some r := by
  induction hnm with
  | refl => exact e
  | step _ ih => exact h _ _ ih

theorem wrap_id {x : Int} (h0 : -9223372036854775808 ≤ x) (h1 : x ≤ 9223372036854775807) : wrap64 x = x := by unfold wrap64; omega

theorem tmod_pos {a m : Int} (h : 0 ≤ a) : Int.tmod a m = a % m := Int.tmod_eq_emod_of_nonneg h
theorem tmod_neg {a m : Int} (h : a < 0) : Int.tmod a m = -((-a) % m) := by
  have := Int.neg_tmod (-a) m
  rw [Int.neg_neg] at this
  rw [this, Int.tmod_eq_emod_of_nonneg (by omega)]

theorem mod_law (a m : Int) (h0 : 1 ≤ m) (h1 : m ≤ 4611686018427387904) : ∃ t, K_Mod.f a m = some t ∧ 0 ≤ t ∧ t < m := by
  unfold K_Mod.f
  rw [if_neg (by omega), if_neg (by omega)]
  by_cases h : 0 ≤ a
  · have e1 := Int.emod_nonneg a (show m ≠ 0 by omega)
    have e2 := Int.emod_lt_of_pos a (show 0 < m by omega)
    rw [tmod_pos h, if_neg (by omega)]
    exact ⟨_, rfl, e1, e2⟩
  · have e1 := Int.emod_nonneg (-a) (show m ≠ 0 by omega)
    have e2 := Int.emod_lt_of_pos (-a) (show 0 < m by omega)
    rw [tmod_neg (by omega)]
    by_cases hz : -((-a) % m) < 0
    · rw [if_pos hz, wrap_id (by omega) (by omega)]
      exact ⟨_, rfl, by omega, by omega⟩
    · rw [if_neg hz]
      exact ⟨_, rfl, by omega, by omega⟩

/-! ### a call -/
/-- The error of a call. -/
def errC (a b c d : Int) : Int :=
  if a < 1 ∨ a > 3 then 11 else if b < 0 ∨ b ≥ 64 ∨ d < 0 ∨ d > 1099511627776 then 2 else if (a = 3 ∧ (c < 1 ∨ c > 8)) ∨ (a ≠ 3 ∧ c ≠ 0) then 2 else 0

theorem call_err {k : Nat} (hk : 2 ≤ k) (a b c d : Int) : call_Check.f k a b c d = some (errC a b c d) := by
  obtain ⟨k, rfl⟩ : ∃ j, k = j + 2 := ⟨k - 2, by omega⟩
  unfold call_Check.f errC
  simp only [call_Check.j0, call_Check.j1, decide_eq_true_eq, beq_iff_eq, if_true]
  repeat' split
  all_goals first | rfl | (exfalso; omega) | (simp_all; done) | (exfalso; simp_all; omega)

theorem call_err20 {k : Nat} (hk : 2 ≤ k) (a b c d : Int) : R20_Check.f k a b c d = some (errC a b c d) := by
  obtain ⟨k, rfl⟩ : ∃ j, k = j + 2 := ⟨k - 2, by omega⟩
  unfold R20_Check.f errC
  simp only [R20_Check.j0, R20_Check.j1, decide_eq_true_eq, beq_iff_eq, if_true]
  repeat' split
  all_goals first | rfl | (exfalso; omega) | (simp_all; done) | (exfalso; simp_all; omega)

/-! ### a table -/
abbrev keyOf3 (x : S29) : Int × Int × Int := (x.f0, x.f1, x.f2)
def okC (x : S29) : Prop := errC x.f0 x.f1 x.f2 x.f3 = 0
/-- A valid table. -/
structure ValidT (a : Int) (l : List S29) : Prop where
  lo : 1 ≤ a
  hi : a ≤ 32
  len : (l.length : Int) ≤ a
  ok : ∀ x ∈ l, okC x
  sorted : l.Pairwise (fun x y => x.f3 ≤ y.f3)
  keys : l.Pairwise (fun x y => keyOf3 x ≠ keyOf3 y)

theorem same_key (a b : S29) : sameKey a b = true ↔ keyOf3 a = keyOf3 b := by
  unfold sameKey keyOf3
  simp only [Bool.and_eq_true, beq_iff_eq, Prod.mk.injEq]

theorem rd_app (pre : List S29) (x : S29) (r : List S29) : rd_T29 (pre ++ x :: r) (pre.length : Int) = x := by
  simp [rd_T29]

theorem tabRun_ok (all : List S29) (hok : ∀ x ∈ all, okC x) (hs : all.Pairwise (fun x y => x.f3 ≤ y.f3)) (hk : all.Pairwise (fun x y => keyOf3 x ≠ keyOf3 y)) :
    ∀ (rest pre : List S29) (L : List (Int × Int × Int)), all = pre ++ rest → (∀ q, q ∈ L ↔ ∃ x ∈ pre, keyOf3 x = q) → tabRun all rest pre.length L = some (0, 0)
  | [], _, _, _, _ => rfl
  | x :: r, pre, L, e, hL => by
    have hx := hok x (by rw [e]; simp)
    unfold tabRun
    rw [call_err (by omega), show errC x.f0 x.f1 x.f2 x.f3 = 0 from hx]
    simp only [Option.bind_some, if_true]
    rw [e] at hs hk
    rw [List.pairwise_append] at hs hk
    have h1 : ¬ (pre.length > 0 ∧ x.f3 < (rd_T29 all ((pre.length : Int) - 1)).f3) := by
      rintro ⟨h0, hlt⟩
      have hm : rd_T29 all ((pre.length : Int) - 1) ∈ pre := by
        rw [e]
        have : ((pre.length : Int) - 1).toNat = pre.length - 1 := by omega
        simp only [rd_T29, this, List.getD_eq_getElem?_getD]
        rw [List.getElem?_append_left (by omega), List.getElem?_eq_getElem (by omega)]
        exact List.getElem_mem _
      have := hs.2.2 _ hm x List.mem_cons_self
      omega
    have h2 : ¬ (x.f0, x.f1, x.f2) ∈ L := by
      intro h
      obtain ⟨y, hy, ey⟩ := (hL _).1 h
      exact hk.2.2 y hy x List.mem_cons_self ey
    rw [if_neg h1, if_neg h2]
    have := tabRun_ok all hok (by rw [e]; exact List.pairwise_append.2 hs) (by rw [e]; exact List.pairwise_append.2 hk) r (pre ++ [x]) ((x.f0, x.f1, x.f2) :: L) (by rw [e]; simp) (fun q => by
      rw [List.mem_cons, hL]
      constructor
      · rintro (rfl | ⟨y, hy, ey⟩)
        · exact ⟨x, by simp, rfl⟩
        · exact ⟨y, by simp [hy], ey⟩
      · rintro ⟨y, hy, ey⟩
        rcases List.mem_append.1 hy with hy | hy
        · exact .inr ⟨y, hy, ey⟩
        · rw [List.mem_singleton] at hy
          subst hy
          exact .inl ey.symm)
    rw [List.length_append, List.length_singleton] at this
    exact this

theorem check_valid {a : Int} {l : List S29} (h : ValidT a l) : table_Check.f a l = some (0, 0) := by
  unfold table_Check.f
  have := h.lo; have := h.hi; have := h.len
  rw [if_neg (by omega), if_neg (by omega), if_neg (by omega)]
  exact tabRun_ok l h.ok h.sorted h.keys l [] [] rfl (fun q => by simp)

theorem valid_valid {a : Int} {l : List S29} (h : ValidT a l) : table_valid.f a l = some 0 := by
  unfold table_valid.f
  rw [check_valid h]; rfl

/-- Put into a valid table of a valid call that is not older than the last one. -/
theorem put_valid {a : Int} {l : List S29} (h : ValidT a l) {c : S29} (hc : okC c) (hl : ∀ x ∈ l, x.f3 ≤ c.f3) :
    table_Put.f a l c.f0 c.f1 c.f2 c.f3 = some (if l.any (fun x => sameKey x c) = true then (a, l, 2, 0) else if (l.length : Int) = a then (a, l, 3, 0) else (a, l ++ [c], 1, 0)) := by
  unfold table_Put.f
  rw [valid_valid h]
  simp only [Option.bind_some, if_true]
  rw [call_err (by omega), show errC c.f0 c.f1 c.f2 c.f3 = 0 from hc]
  simp only [Option.bind_some, if_true]
  have h1 : ¬ (0 < (l.length : Int) ∧ c.f3 < (rd_T29 l ((l.length : Int) - 1)).f3) := by
    rintro ⟨h0, hlt⟩
    have hm : rd_T29 l ((l.length : Int) - 1) ∈ l := by
      have : ((l.length : Int) - 1).toNat = l.length - 1 := by omega
      simp only [rd_T29, this, List.getD_eq_getElem?_getD]
      rw [List.getElem?_eq_getElem (by omega)]
      exact List.getElem_mem _
    have := hl _ hm
    omega
  rw [if_neg h1]
  have := h.len; have := h.hi
  unfold putEnd
  rw [if_pos (by omega)]
  repeat' split
  all_goals first | rfl | omega

theorem valid_put {a : Int} {l : List S29} (h : ValidT a l) {c : S29} (hc : okC c) (hl : ∀ x ∈ l, x.f3 ≤ c.f3) (h1 : ¬ l.any (fun x => sameKey x c) = true) (h2 : ¬ (l.length : Int) = a) : ValidT a (l ++ [c]) := by
  refine ⟨h.lo, h.hi, ?_, ?_, ?_, ?_⟩
  · have := h.len; simp; omega
  · intro x hx
    rcases List.mem_append.1 hx with hx | hx
    · exact h.ok x hx
    · rw [List.mem_singleton] at hx; subst hx; exact hc
  · refine List.pairwise_append.2 ⟨h.sorted, List.pairwise_singleton _ _, fun x hx y hy => ?_⟩
    rw [List.mem_singleton] at hy; subst hy; exact hl x hx
  · refine List.pairwise_append.2 ⟨h.keys, List.pairwise_singleton _ _, fun x hx y hy e => ?_⟩
    rw [List.mem_singleton] at hy; subst hy
    exact h1 (List.any_eq_true.2 ⟨x, hx, (same_key _ _).2 e⟩)

theorem valid_filter {a : Int} {l : List S29} (h : ValidT a l) (p : S29 → Bool) : ValidT a (l.filter p) :=
  ⟨h.lo, h.hi, by have := h.len; have := List.length_filter_le p l; omega, fun x hx => h.ok x (List.mem_filter.1 hx).1, h.sorted.sublist List.filter_sublist, h.keys.sublist List.filter_sublist⟩

theorem valid_nil {a : Int} (h0 : 1 ≤ a) (h1 : a ≤ 32) : ValidT a [] := ⟨h0, h1, by simp; omega, fun _ h => (List.not_mem_nil h).elim, List.Pairwise.nil, List.Pairwise.nil⟩

theorem new_law {a : Int} (h0 : 1 ≤ a) (h1 : a ≤ 32) : table_New.f a = some (a, [], 0) := by
  unfold table_New.f
  rw [if_neg (by omega), if_neg (by omega)]

/-! ### equal lists -/
theorem same_in (x0 : List S29) (hb : x0.length < 4611686018427387904) : ∀ (d k j : Nat), j + d = x0.length → d + 1 ≤ k → K_SameCallsIn.l0 k x0 x0 j = some true
  | 0, k + 1, j, h, _ => by
    unfold K_SameCallsIn.l0
    rw [if_neg (by omega)]
  | d + 1, k + 1, j, h, hk => by
    unfold K_SameCallsIn.l0
    rw [if_pos (by omega), if_pos (by omega), if_pos (by omega), if_neg (by simp), wrap_id (by omega) (by omega)]
    exact same_in x0 hb d k (j + 1) (by omega) (by omega)
theorem same_calls {k : Nat} (l : List S29) (hb : l.length < 4611686018427387904) (hk : l.length + 1 ≤ k) : K_SameCallsIn.f k l l = some true := by
  unfold K_SameCallsIn.f
  rw [if_pos rfl]
  exact same_in l hb l.length k 0 (by omega) hk
theorem same_table {k : Nat} (a : Int) (l : List S29) (hb : l.length < 4611686018427387904) (hk : l.length + 1 ≤ k) : K_SameTable.f k a l a l = some true := by
  unfold K_SameTable.f
  rw [if_pos rfl, same_calls l hb hk]
  rfl

end Go.Proofs.Ytmfbpkjhabdcgaa.F
end
