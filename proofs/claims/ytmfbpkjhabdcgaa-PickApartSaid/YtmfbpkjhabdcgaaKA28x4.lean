/- Part 4 of A28: what the functions reckon, step by step, and plain laws. No condition. -/
import Derived.Test.YtmfbpkjhabdcgaaKA28x3
section
-- Written by fork.py (this session's program over the kit's print.py). Not trusted: Lean checks it.
namespace Go.Proofs.Ytmfbpkjhabdcgaa.F
open Go.RowKit Go.Proofs.YtmfbpkjhabdcgaaW.PrintWords Go.Proofs.YtmfbpkjhabdcgaaW.PrintLast Go.Proofs.YtmfbpkjhabdcgaaW.PrintMore
attribute [local go_sem] max2_int min2_int max_two min_two max_three min_three max_four min_four
set_option linter.unusedVariables false
set_option linter.unusedSimpArgs false

/-! ### pick_valid: function 146 -/
def pick_valid.f (a0_0 : Int) (l0_1 : List (S29)) : Option (Int) := (table_Check.f a0_0 l0_1).bind fun bt742 => (some bt742.1)
set_option maxHeartbeats 8000000 in
set_option maxRecDepth 100000 in
theorem pick_valid.calls (a0_0 : Int) (A0_1 : Option Addr) (c0_1 : Nat) (l0_1 : List (S29)) (r : Int) (w : World) (hr0_1 : Kd.C k29 w A0_1 l0_1.length l0_1) (hc0_1 : l0_1.length ≤ c0_1) (h : pick_valid.f a0_0 l0_1 = some r) :
    Calls Try.prog 146 #[.agg #[.int .i64 a0_0, .slice A0_1 l0_1.length c0_1]] w fun e w' => e = .returned (.int .i64 r) ∧ Below w.heap.size w w' := by
  have hu25 := Try.underlying25
  have HR0_1 := Aside0.mk hr0_1
  have HC0_1 := Aside0.mk hc0_1
  clear hr0_1 hc0_1
  have HB := Aside0.mk (Below.refl w.heap.size w)
  have H : ((table_Check.f a0_0 l0_1).bind fun bt742 => (some bt742.1)) = some r := h
  clear h
  replace H := Option.bind_eq_some_iff.mp H
  obtain ⟨⟨t742, t743⟩, A20, H⟩ := H
  replace H : (some t742) = some r := H
  have A2 := Aside0.mk A20
  clear A20
  obtain rfl := Option.some.inj H
  go_enter Try.func146, Try.ntmps146
  go_wp2_with (first | ((with_reducible refine gate_dst (N := 1) rfl ?_); refine box_event ?hg (N := 1) ?hd (cs := #[.int .i64 a0_0, .slice A0_1 l0_1.length c0_1]) (t := 25) ?hr ?_; (case hd => rfl); (case hg => rfl); (case hr => first | (go_simp; done) | (go_simp; rfl)); intro gb741 hg w3 hbox hb; have n0_ := Aside0.mk (below_step (by repeat (first | (with_reducible first | exact HB.out | apply below_alloc | apply pw_below_drewN | apply below_drew1) | exact HB.out)) hb); have n1_ := Aside0.mk (hbox); have n2_ := Aside0.mk ((by rw [hg]; exact (below_size (by repeat (first | (with_reducible first | exact HB.out | apply below_alloc | apply pw_below_drewN | apply below_drew1) | exact HB.out))) : w.heap.size ≤ gb741)); have n3_ := Aside0.mk ((by rw [hg]; exact (below_size (by repeat (first | (with_reducible first | exact HB.out | apply below_alloc | apply pw_below_drewN | apply below_drew1) | exact HB.out))) : w.heap.size ≤ gb741)); clear HB; have HB := n0_; have BK741 := n1_; have GW741 := n2_; have GE741 := n3_; clear n0_ n1_ n2_ n3_; clear hb hbox hg; have hcz4_0 : w3.cell? ⟨gb741, 0, none⟩ = some (.int .i64 a0_0) := (blk_cell BK741.out 0).trans rfl; have hcz4_1 : w3.cell? ⟨gb741, 1, none⟩ = some (.slice A0_1 l0_1.length c0_1) := (blk_cell BK741.out 1).trans rfl; have hfz4_0 := blk_frozen BK741.out 0; have hfz4_1 := blk_frozen BK741.out 1) | ((with_reducible refine gate_callee (f := 128) rfl ?_); refine goesL_ (some 7) rfl rfl Try.func128 (by kernel_rfl) rfl #[.agg #[.int .i64 a0_0, .slice A0_1 l0_1.length c0_1]] rfl (by (try simp only [List.map_toArray, List.map_cons, List.map_nil]); first | done | rfl | (simp only [List.length_drop, List.length_take]; rfl)) ?_; (with_reducible refine (table_Check.calls a0_0 _ _ l0_1 t742 t743 _ ?side1 ?side2 A2.out).mono ?_); (case side1 => repeat (first | exact (Kd.C_below HR0_1.out HB.out) | (with_reducible refine Kd.C_alloc ?_ _) | (with_reducible refine Kd.C_drewN ?_ _) | (with_reducible refine Kd.C_drew ?_))); (case side2 => exact HC0_1.out); rintro e w5 ⟨rfl, hb⟩; refine ⟨_, rfl, ?_⟩; have n0_ := Aside0.mk (blk_below (g := gb741) (o := .cells #[.int .i64 a0_0, .slice A0_1 l0_1.length c0_1] 25 (0, 0)) (by (with_reducible repeat (first | refine blk_drewN ?_ _ | refine blk_drew ?_ | refine blk_alloc ?_ _)); exact BK741.out) hb); have n1_ := Aside0.mk (below_step (by repeat (first | (with_reducible first | exact HB.out | apply below_alloc | apply pw_below_drewN | apply below_drew1 | refine below_set ?_ GE741.out) | exact HB.out)) hb); clear BK741; clear HB; have BK741 := n0_; have HB := n1_; clear n0_ n1_; (try clear hb); (try clear hb2); (try clear hk); (try clear hi)))
  all_goals go_ret
  all_goals exact ⟨by first | rfl | (simp [errW_none, errW_some] <;> rfl) | (simp [*, errW_none, errW_some] <;> rfl), by repeat (first | (with_reducible first | exact HB.out | apply below_alloc | apply pw_below_drewN | apply below_drew1 | refine below_set ?_ GE741.out) | exact HB.out)⟩


end Go.Proofs.Ytmfbpkjhabdcgaa.F
end
section
-- Written by fork.py (this session's program over the kit's print.py). Not trusted: Lean checks it.
namespace Go.Proofs.Ytmfbpkjhabdcgaa.F
open Go.RowKit Go.Proofs.YtmfbpkjhabdcgaaW.PrintWords Go.Proofs.YtmfbpkjhabdcgaaW.PrintLast Go.Proofs.YtmfbpkjhabdcgaaW.PrintMore
attribute [local go_sem] max2_int min2_int max_two min_two max_three min_three max_four min_four
set_option linter.unusedVariables false
set_option linter.unusedSimpArgs false

/-! ### pick_asks: function 144 -/
def pick_asks.f (k : Nat) (a0_0 : Int) (l0_1 : List (S29)) (a1_0 : Int) (a1_1 : Int) (a1_2 : Int) (a1_3 : Int) (a1_4 : Int) (a1_5 : Int) (a1_6 : Int) (a1_7 : Int) (a1_8 : Int) (l1_9 : List (S29)) : Option (Int) := (pick_valid.f a0_0 l0_1).bind fun t746 => (if t746 = 0 then ((pick_Check.f k a1_0 a1_1 a1_2 a1_3 a1_4 a1_5 a1_6 a1_7 a1_8 l1_9).bind fun t747 => (some t747)) else (some t746))
theorem pick_asks.mono : ∀ a0 a1 a2 a3 a4 a5 a6 a7 a8 a9 a10 a11 k, LeO (pick_asks.f k a0 a1 a2 a3 a4 a5 a6 a7 a8 a9 a10 a11) (pick_asks.f (k + 1) a0 a1 a2 a3 a4 a5 a6 a7 a8 a9 a10 a11) := by
  intro a0 a1 a2 a3 a4 a5 a6 a7 a8 a9 a10 a11 k
  unfold pick_asks.f
  repeat' first
      | (with_reducible exact pick_Check.mono _ _ _ _ _ _ _ _ _ _ _)
      | (with_reducible exact LeO.refl _)
      | (with_reducible exact LeO.none _)
      | (with_reducible refine LeO.ite ?_ ?_)
      | (with_reducible refine LeO.bind ?_ (fun _ => ?_))
      | exact pick_Check.mono _ _ _ _ _ _ _ _ _ _ _
      | exact LeO.none _
      | refine LeO.ite ?_ ?_
      | refine LeO.bind ?_ (fun _ => ?_)
set_option maxHeartbeats 8000000 in
set_option maxRecDepth 100000 in
theorem pick_asks.calls (k : Nat) (a0_0 : Int) (A0_1 : Option Addr) (c0_1 : Nat) (l0_1 : List (S29)) (a1_0 : Int) (a1_1 : Int) (a1_2 : Int) (a1_3 : Int) (a1_4 : Int) (a1_5 : Int) (a1_6 : Int) (a1_7 : Int) (a1_8 : Int) (A1_9 : Option Addr) (c1_9 : Nat) (l1_9 : List (S29)) (r : Int) (w : World) (hr0_1 : Kd.C k29 w A0_1 l0_1.length l0_1) (hc0_1 : l0_1.length ≤ c0_1) (hr1_9 : Kd.C k29 w A1_9 l1_9.length l1_9) (hc1_9 : l1_9.length ≤ c1_9) (h : pick_asks.f k a0_0 l0_1 a1_0 a1_1 a1_2 a1_3 a1_4 a1_5 a1_6 a1_7 a1_8 l1_9 = some r) :
    Calls Try.prog 144 #[.agg #[.int .i64 a0_0, .slice A0_1 l0_1.length c0_1], .agg #[.int .i64 a1_0, .int .i64 a1_1, .int .i64 a1_2, .int .i64 a1_3, .int .i64 a1_4, .int .i64 a1_5, .int .i64 a1_6, .int .i64 a1_7, .int .i64 a1_8, .slice A1_9 l1_9.length c1_9]] w fun e w' => e = .returned (.int .i64 r) ∧ Below w.heap.size w w' := by
  have hu25 := Try.underlying25
  have hu60 := Try.underlying60
  have HR0_1 := Aside0.mk hr0_1
  have HC0_1 := Aside0.mk hc0_1
  clear hr0_1 hc0_1
  have HR1_9 := Aside0.mk hr1_9
  have HC1_9 := Aside0.mk hc1_9
  clear hr1_9 hc1_9
  have HB := Aside0.mk (Below.refl w.heap.size w)
  have H : ((pick_valid.f a0_0 l0_1).bind fun t746 => (if t746 = 0 then ((pick_Check.f k a1_0 a1_1 a1_2 a1_3 a1_4 a1_5 a1_6 a1_7 a1_8 l1_9).bind fun t747 => (some t747)) else (some t746))) = some r := h
  clear h
  replace H := Option.bind_eq_some_iff.mp H
  obtain ⟨t746, A30, H⟩ := H
  replace H : (if t746 = 0 then ((pick_Check.f k a1_0 a1_1 a1_2 a1_3 a1_4 a1_5 a1_6 a1_7 a1_8 l1_9).bind fun t747 => (some t747)) else (some t746)) = some r := H
  have A3 := Aside0.mk A30
  clear A30
  by_cases c4 : t746 = 0
  · rw [if_pos c4] at H
    have c4b0 : (t746 == 0) = true := beq_iff_eq.mpr c4
    have c4b1 : (t746 != 0) = false := bne_eq_false_iff_eq.mpr c4
    clear c4
    replace H := Option.bind_eq_some_iff.mp H
    obtain ⟨t747, A50, H⟩ := H
    replace H : (some t747) = some r := H
    have A5 := Aside0.mk A50
    clear A50
    obtain rfl := Option.some.inj H
    go_enter Try.func144, Try.ntmps144
    go_wp2_with (first | ((with_reducible refine gate_dst (N := 2) rfl ?_); refine box_event ?hg (N := 2) ?hd (cs := #[.int .i64 a0_0, .slice A0_1 l0_1.length c0_1]) (t := 25) ?hr ?_; (case hd => rfl); (case hg => rfl); (case hr => first | (go_simp; done) | (go_simp; rfl)); intro gb744 hg w6 hbox hb; have n0_ := Aside0.mk (below_step (by repeat (first | (with_reducible first | exact HB.out | apply below_alloc | apply pw_below_drewN | apply below_drew1) | exact HB.out)) hb); have n1_ := Aside0.mk (hbox); have n2_ := Aside0.mk ((by rw [hg]; exact (below_size (by repeat (first | (with_reducible first | exact HB.out | apply below_alloc | apply pw_below_drewN | apply below_drew1) | exact HB.out))) : w.heap.size ≤ gb744)); have n3_ := Aside0.mk ((by rw [hg]; exact (below_size (by repeat (first | (with_reducible first | exact HB.out | apply below_alloc | apply pw_below_drewN | apply below_drew1) | exact HB.out))) : w.heap.size ≤ gb744)); clear HB; have HB := n0_; have BK744 := n1_; have GW744 := n2_; have GE744 := n3_; clear n0_ n1_ n2_ n3_; clear hb hbox hg) | ((with_reducible refine gate_dst (N := 3) rfl ?_); refine box_event ?hg (N := 3) ?hd (cs := #[.int .i64 a1_0, .int .i64 a1_1, .int .i64 a1_2, .int .i64 a1_3, .int .i64 a1_4, .int .i64 a1_5, .int .i64 a1_6, .int .i64 a1_7, .int .i64 a1_8, .slice A1_9 l1_9.length c1_9]) (t := 60) ?hr ?_; (case hd => rfl); (case hg => rfl); (case hr => first | (go_simp; done) | (go_simp; rfl)); intro gb745 hg w7 hbox hb; have n0_ := Aside0.mk (blk_below (g := gb744) (o := .cells #[.int .i64 a0_0, .slice A0_1 l0_1.length c0_1] 25 (0, 0)) (by (with_reducible repeat (first | refine blk_drewN ?_ _ | refine blk_drew ?_ | refine blk_alloc ?_ _)); exact BK744.out) hb); have n1_ := Aside0.mk (below_step (by repeat (first | (with_reducible first | exact HB.out | apply below_alloc | apply pw_below_drewN | apply below_drew1 | refine below_set ?_ GE744.out) | exact HB.out)) hb); have n2_ := Aside0.mk (hbox); have n3_ := Aside0.mk ((by rw [hg]; exact (below_size (by repeat (first | (with_reducible first | exact HB.out | apply below_alloc | apply pw_below_drewN | apply below_drew1 | refine below_set ?_ GE744.out) | exact HB.out))) : w.heap.size ≤ gb745)); have n4_ := Aside0.mk ((by rw [hg]; exact (below_size (by repeat (first | (with_reducible first | exact HB.out | apply below_alloc | apply pw_below_drewN | apply below_drew1 | refine below_set ?_ GE744.out) | exact HB.out))) : w.heap.size ≤ gb745)); have n5_ := Aside0.mk ((by rw [hg]; exact Nat.ne_of_lt (blk_lt (g := gb744) (o := .cells #[.int .i64 a0_0, .slice A0_1 l0_1.length c0_1] 25 (0, 0)) (by (with_reducible repeat (first | refine blk_drewN ?_ _ | refine blk_drew ?_ | refine blk_alloc ?_ _)); exact BK744.out)) : gb744 ≠ gb745)); have n6_ := Aside0.mk ((by rw [hg]; exact Nat.ne_of_gt (blk_lt (g := gb744) (o := .cells #[.int .i64 a0_0, .slice A0_1 l0_1.length c0_1] 25 (0, 0)) (by (with_reducible repeat (first | refine blk_drewN ?_ _ | refine blk_drew ?_ | refine blk_alloc ?_ _)); exact BK744.out)) : gb745 ≠ gb744)); clear BK744; clear HB; have BK744 := n0_; have HB := n1_; have BK745 := n2_; have GW745 := n3_; have GE745 := n4_; have NB744_745 := n5_; have NB745_744 := n6_; clear n0_ n1_ n2_ n3_ n4_ n5_ n6_; clear hb hbox hg; have hnb8 := NB744_745.out; have hnc8 := NB745_744.out; have hcz9_0 : w7.cell? ⟨gb744, 0, none⟩ = some (.int .i64 a0_0) := (blk_cell BK744.out 0).trans rfl; have hcz9_1 : w7.cell? ⟨gb744, 1, none⟩ = some (.slice A0_1 l0_1.length c0_1) := (blk_cell BK744.out 1).trans rfl; have hfz9_0 := blk_frozen BK744.out 0; have hfz9_1 := blk_frozen BK744.out 1) | ((with_reducible refine gate_callee (f := 146) rfl ?_); refine goesL_ (some 7) rfl rfl Try.func146 (by kernel_rfl) rfl #[.agg #[.int .i64 a0_0, .slice A0_1 l0_1.length c0_1]] rfl (by (try simp only [List.map_toArray, List.map_cons, List.map_nil]); first | done | rfl | (simp only [List.length_drop, List.length_take]; rfl)) ?_; (with_reducible refine (pick_valid.calls a0_0 _ _ l0_1 t746 _ ?side1 ?side2 A3.out).mono ?_); (case side1 => repeat (first | exact (Kd.C_below HR0_1.out HB.out) | (with_reducible refine Kd.C_alloc ?_ _) | (with_reducible refine Kd.C_drewN ?_ _) | (with_reducible refine Kd.C_drew ?_))); (case side2 => exact HC0_1.out); rintro e w10 ⟨rfl, hb⟩; refine ⟨_, rfl, ?_⟩; have n0_ := Aside0.mk (blk_below (g := gb744) (o := .cells #[.int .i64 a0_0, .slice A0_1 l0_1.length c0_1] 25 (0, 0)) (by (with_reducible repeat (first | refine blk_drewN ?_ _ | refine blk_drew ?_ | refine blk_alloc ?_ _)); exact BK744.out) hb); have n1_ := Aside0.mk (blk_below (g := gb745) (o := .cells #[.int .i64 a1_0, .int .i64 a1_1, .int .i64 a1_2, .int .i64 a1_3, .int .i64 a1_4, .int .i64 a1_5, .int .i64 a1_6, .int .i64 a1_7, .int .i64 a1_8, .slice A1_9 l1_9.length c1_9] 60 (0, 0)) (by (with_reducible repeat (first | refine blk_drewN ?_ _ | refine blk_drew ?_ | refine blk_alloc ?_ _)); exact BK745.out) hb); have n2_ := Aside0.mk (below_step (by repeat (first | (with_reducible first | exact HB.out | apply below_alloc | apply pw_below_drewN | apply below_drew1 | refine below_set ?_ GE744.out | refine below_set ?_ GE745.out) | exact HB.out)) hb); clear BK744; clear BK745; clear HB; have BK744 := n0_; have BK745 := n1_; have HB := n2_; clear n0_ n1_ n2_; (try clear hb); (try clear hb2); (try clear hk); (try clear hi); have hcz11_0 : w10.cell? ⟨gb745, 0, none⟩ = some (.int .i64 a1_0) := (blk_cell BK745.out 0).trans rfl; have hcz11_1 : w10.cell? ⟨gb745, 1, none⟩ = some (.int .i64 a1_1) := (blk_cell BK745.out 1).trans rfl; have hcz11_2 : w10.cell? ⟨gb745, 2, none⟩ = some (.int .i64 a1_2) := (blk_cell BK745.out 2).trans rfl; have hcz11_3 : w10.cell? ⟨gb745, 3, none⟩ = some (.int .i64 a1_3) := (blk_cell BK745.out 3).trans rfl; have hcz11_4 : w10.cell? ⟨gb745, 4, none⟩ = some (.int .i64 a1_4) := (blk_cell BK745.out 4).trans rfl; have hcz11_5 : w10.cell? ⟨gb745, 5, none⟩ = some (.int .i64 a1_5) := (blk_cell BK745.out 5).trans rfl; have hcz11_6 : w10.cell? ⟨gb745, 6, none⟩ = some (.int .i64 a1_6) := (blk_cell BK745.out 6).trans rfl; have hcz11_7 : w10.cell? ⟨gb745, 7, none⟩ = some (.int .i64 a1_7) := (blk_cell BK745.out 7).trans rfl; have hcz11_8 : w10.cell? ⟨gb745, 8, none⟩ = some (.int .i64 a1_8) := (blk_cell BK745.out 8).trans rfl; have hcz11_9 : w10.cell? ⟨gb745, 9, none⟩ = some (.slice A1_9 l1_9.length c1_9) := (blk_cell BK745.out 9).trans rfl; have hfz11_0 := blk_frozen BK745.out 0; have hfz11_1 := blk_frozen BK745.out 1; have hfz11_2 := blk_frozen BK745.out 2; have hfz11_3 := blk_frozen BK745.out 3; have hfz11_4 := blk_frozen BK745.out 4; have hfz11_5 := blk_frozen BK745.out 5; have hfz11_6 := blk_frozen BK745.out 6; have hfz11_7 := blk_frozen BK745.out 7; have hfz11_8 := blk_frozen BK745.out 8; have hfz11_9 := blk_frozen BK745.out 9) | ((with_reducible refine gate_callee (f := 63) rfl ?_); refine goesL_ (some 12) rfl rfl Try.func63 (by kernel_rfl) rfl #[.agg #[.int .i64 a1_0, .int .i64 a1_1, .int .i64 a1_2, .int .i64 a1_3, .int .i64 a1_4, .int .i64 a1_5, .int .i64 a1_6, .int .i64 a1_7, .int .i64 a1_8, .slice A1_9 l1_9.length c1_9]] rfl (by (try simp only [List.map_toArray, List.map_cons, List.map_nil]); first | done | rfl | (simp only [List.length_drop, List.length_take]; rfl)) ?_; (with_reducible refine (pick_Check.calls k a1_0 a1_1 a1_2 a1_3 a1_4 a1_5 a1_6 a1_7 a1_8 _ _ l1_9 t747 _ ?side1 ?side2 A5.out).mono ?_); (case side1 => repeat (first | exact (Kd.C_below HR1_9.out HB.out) | (with_reducible refine Kd.C_alloc ?_ _) | (with_reducible refine Kd.C_drewN ?_ _) | (with_reducible refine Kd.C_drew ?_))); (case side2 => exact HC1_9.out); rintro e w12 ⟨rfl, hb⟩; refine ⟨_, rfl, ?_⟩; have n0_ := Aside0.mk (blk_below (g := gb744) (o := .cells #[.int .i64 a0_0, .slice A0_1 l0_1.length c0_1] 25 (0, 0)) (by (with_reducible repeat (first | refine blk_drewN ?_ _ | refine blk_drew ?_ | refine blk_alloc ?_ _)); exact BK744.out) hb); have n1_ := Aside0.mk (blk_below (g := gb745) (o := .cells #[.int .i64 a1_0, .int .i64 a1_1, .int .i64 a1_2, .int .i64 a1_3, .int .i64 a1_4, .int .i64 a1_5, .int .i64 a1_6, .int .i64 a1_7, .int .i64 a1_8, .slice A1_9 l1_9.length c1_9] 60 (0, 0)) (by (with_reducible repeat (first | refine blk_drewN ?_ _ | refine blk_drew ?_ | refine blk_alloc ?_ _)); exact BK745.out) hb); have n2_ := Aside0.mk (below_step (by repeat (first | (with_reducible first | exact HB.out | apply below_alloc | apply pw_below_drewN | apply below_drew1 | refine below_set ?_ GE744.out | refine below_set ?_ GE745.out) | exact HB.out)) hb); clear BK744; clear BK745; clear HB; have BK744 := n0_; have BK745 := n1_; have HB := n2_; clear n0_ n1_ n2_; (try clear hb); (try clear hb2); (try clear hk); (try clear hi)))
    all_goals go_ret
    all_goals exact ⟨by first | rfl | (simp [errW_none, errW_some] <;> rfl) | (simp [*, errW_none, errW_some] <;> rfl), by repeat (first | (with_reducible first | exact HB.out | apply below_alloc | apply pw_below_drewN | apply below_drew1 | refine below_set ?_ GE744.out | refine below_set ?_ GE745.out) | exact HB.out)⟩
  · rw [if_neg c4] at H
    have c4b0 : (t746 == 0) = false := beq_eq_false_iff_ne.mpr c4
    have c4b1 : (t746 != 0) = true := bne_iff_ne.mpr c4
    obtain rfl := Option.some.inj H
    go_enter Try.func144, Try.ntmps144
    go_wp2_with (first | ((with_reducible refine gate_dst (N := 2) rfl ?_); refine box_event ?hg (N := 2) ?hd (cs := #[.int .i64 a0_0, .slice A0_1 l0_1.length c0_1]) (t := 25) ?hr ?_; (case hd => rfl); (case hg => rfl); (case hr => first | (go_simp; done) | (go_simp; rfl)); intro gb744 hg w13 hbox hb; have n0_ := Aside0.mk (below_step (by repeat (first | (with_reducible first | exact HB.out | apply below_alloc | apply pw_below_drewN | apply below_drew1) | exact HB.out)) hb); have n1_ := Aside0.mk (hbox); have n2_ := Aside0.mk ((by rw [hg]; exact (below_size (by repeat (first | (with_reducible first | exact HB.out | apply below_alloc | apply pw_below_drewN | apply below_drew1) | exact HB.out))) : w.heap.size ≤ gb744)); have n3_ := Aside0.mk ((by rw [hg]; exact (below_size (by repeat (first | (with_reducible first | exact HB.out | apply below_alloc | apply pw_below_drewN | apply below_drew1) | exact HB.out))) : w.heap.size ≤ gb744)); clear HB; have HB := n0_; have BK744 := n1_; have GW744 := n2_; have GE744 := n3_; clear n0_ n1_ n2_ n3_; clear hb hbox hg) | ((with_reducible refine gate_dst (N := 3) rfl ?_); refine box_event ?hg (N := 3) ?hd (cs := #[.int .i64 a1_0, .int .i64 a1_1, .int .i64 a1_2, .int .i64 a1_3, .int .i64 a1_4, .int .i64 a1_5, .int .i64 a1_6, .int .i64 a1_7, .int .i64 a1_8, .slice A1_9 l1_9.length c1_9]) (t := 60) ?hr ?_; (case hd => rfl); (case hg => rfl); (case hr => first | (go_simp; done) | (go_simp; rfl)); intro gb745 hg w14 hbox hb; have n0_ := Aside0.mk (blk_below (g := gb744) (o := .cells #[.int .i64 a0_0, .slice A0_1 l0_1.length c0_1] 25 (0, 0)) (by (with_reducible repeat (first | refine blk_drewN ?_ _ | refine blk_drew ?_ | refine blk_alloc ?_ _)); exact BK744.out) hb); have n1_ := Aside0.mk (below_step (by repeat (first | (with_reducible first | exact HB.out | apply below_alloc | apply pw_below_drewN | apply below_drew1 | refine below_set ?_ GE744.out) | exact HB.out)) hb); have n2_ := Aside0.mk (hbox); have n3_ := Aside0.mk ((by rw [hg]; exact (below_size (by repeat (first | (with_reducible first | exact HB.out | apply below_alloc | apply pw_below_drewN | apply below_drew1 | refine below_set ?_ GE744.out) | exact HB.out))) : w.heap.size ≤ gb745)); have n4_ := Aside0.mk ((by rw [hg]; exact (below_size (by repeat (first | (with_reducible first | exact HB.out | apply below_alloc | apply pw_below_drewN | apply below_drew1 | refine below_set ?_ GE744.out) | exact HB.out))) : w.heap.size ≤ gb745)); have n5_ := Aside0.mk ((by rw [hg]; exact Nat.ne_of_lt (blk_lt (g := gb744) (o := .cells #[.int .i64 a0_0, .slice A0_1 l0_1.length c0_1] 25 (0, 0)) (by (with_reducible repeat (first | refine blk_drewN ?_ _ | refine blk_drew ?_ | refine blk_alloc ?_ _)); exact BK744.out)) : gb744 ≠ gb745)); have n6_ := Aside0.mk ((by rw [hg]; exact Nat.ne_of_gt (blk_lt (g := gb744) (o := .cells #[.int .i64 a0_0, .slice A0_1 l0_1.length c0_1] 25 (0, 0)) (by (with_reducible repeat (first | refine blk_drewN ?_ _ | refine blk_drew ?_ | refine blk_alloc ?_ _)); exact BK744.out)) : gb745 ≠ gb744)); clear BK744; clear HB; have BK744 := n0_; have HB := n1_; have BK745 := n2_; have GW745 := n3_; have GE745 := n4_; have NB744_745 := n5_; have NB745_744 := n6_; clear n0_ n1_ n2_ n3_ n4_ n5_ n6_; clear hb hbox hg; have hnb15 := NB744_745.out; have hnc15 := NB745_744.out; have hcz16_0 : w14.cell? ⟨gb744, 0, none⟩ = some (.int .i64 a0_0) := (blk_cell BK744.out 0).trans rfl; have hcz16_1 : w14.cell? ⟨gb744, 1, none⟩ = some (.slice A0_1 l0_1.length c0_1) := (blk_cell BK744.out 1).trans rfl; have hfz16_0 := blk_frozen BK744.out 0; have hfz16_1 := blk_frozen BK744.out 1) | ((with_reducible refine gate_callee (f := 146) rfl ?_); refine goesL_ (some 7) rfl rfl Try.func146 (by kernel_rfl) rfl #[.agg #[.int .i64 a0_0, .slice A0_1 l0_1.length c0_1]] rfl (by (try simp only [List.map_toArray, List.map_cons, List.map_nil]); first | done | rfl | (simp only [List.length_drop, List.length_take]; rfl)) ?_; (with_reducible refine (pick_valid.calls a0_0 _ _ l0_1 t746 _ ?side1 ?side2 A3.out).mono ?_); (case side1 => repeat (first | exact (Kd.C_below HR0_1.out HB.out) | (with_reducible refine Kd.C_alloc ?_ _) | (with_reducible refine Kd.C_drewN ?_ _) | (with_reducible refine Kd.C_drew ?_))); (case side2 => exact HC0_1.out); rintro e w17 ⟨rfl, hb⟩; refine ⟨_, rfl, ?_⟩; have n2_ := Aside0.mk (below_step (by repeat (first | (with_reducible first | exact HB.out | apply below_alloc | apply pw_below_drewN | apply below_drew1 | refine below_set ?_ GE744.out | refine below_set ?_ GE745.out) | exact HB.out)) hb); clear BK744; clear BK745; clear HB; have HB := n2_; clear n2_; (try clear hb); (try clear hb2); (try clear hk); (try clear hi)))
    all_goals go_ret
    all_goals exact ⟨by first | rfl | (simp [errW_none, errW_some] <;> rfl) | (simp [*, errW_none, errW_some] <;> rfl), by repeat (first | (with_reducible first | exact HB.out | apply below_alloc | apply pw_below_drewN | apply below_drew1 | refine below_set ?_ GE744.out | refine below_set ?_ GE745.out) | exact HB.out)⟩


end Go.Proofs.Ytmfbpkjhabdcgaa.F
end
section
namespace Go.Proofs.Ytmfbpkjhabdcgaa.F
open Go.RowKit Go.Proofs.YtmfbpkjhabdcgaaW.PrintWords Go.Proofs.YtmfbpkjhabdcgaaW.PrintLast Go.Proofs.YtmfbpkjhabdcgaaW.PrintMore
set_option linter.unusedVariables false
set_option linter.unusedSimpArgs false
theorem keyed157 : Maps.Keyed Try.prog 157 := Maps.Keyed.of_law (deep_law_laid laidOutT (m := 2) (by omega) (of_decide_eq_true (by kernel_rfl)) (by kernel_rfl) (by kernel_rfl))
end Go.Proofs.Ytmfbpkjhabdcgaa.F
end
section
namespace Go.Proofs.Ytmfbpkjhabdcgaa.F
open Go.RowKit Go.Proofs.YtmfbpkjhabdcgaaW.PrintWords Go.Proofs.YtmfbpkjhabdcgaaW.PrintLast Go.Proofs.YtmfbpkjhabdcgaaW.PrintMore
set_option linter.unusedVariables false
set_option linter.unusedSimpArgs false
theorem lits157 (d : Nat) {a b c : Int} (h : Wf3 a b c) : Try.prog.keyLits (d + 1 + 1) 157 [.int .i64 a, .int .i64 b, .int .i64 c] = some [.int .i64 a, .int .i64 b, .int .i64 c] := by
  have hc : Try.prog.cellsOf 157 = 3 := by kernel_rfl
  have h3 : Try.prog.cellsOf 3 = 1 := by kernel_rfl
  unfold Program.keyLits
  rw [Try.underlying157]
  simp [hc, h3, lits3 d a h.1, lits3 d b h.2.1, lits3 d c h.2.2]
end Go.Proofs.Ytmfbpkjhabdcgaa.F
end
section
namespace Go.Proofs.Ytmfbpkjhabdcgaa.F
open Go.RowKit Go.Proofs.YtmfbpkjhabdcgaaW.PrintWords Go.Proofs.YtmfbpkjhabdcgaaW.PrintLast Go.Proofs.YtmfbpkjhabdcgaaW.PrintMore
set_option linter.unusedVariables false
set_option linter.unusedSimpArgs false
theorem keyOf157 {a b c : Int} (h : Wf3 a b c) : ∃ l, keyOf Try.prog 157 (keyV a b c) = some l := by
  unfold keyOf
  rw [Try.underlying157]
  simp only
  have hk : Try.prog.keyType 157 = true := by kernel_rfl
  have hc : Try.prog.cellsOf 157 = 3 := by kernel_rfl
  have hf : (keyV a b c).formed Try.prog 157 = true := by
    unfold Value.formed
    simp only [Try.underlying157, hc]
    rfl
  obtain ⟨n, hn⟩ : ∃ n, Try.prog.types.size = n + 1 := ⟨Try.prog.types.size - 1, by have : 0 < Try.prog.types.size := of_decide_eq_true (by kernel_rfl); omega⟩
  have hl := lits157 n h
  rw [hk, hf]
  simp only [Bool.and_self, if_true]
  rw [hn]
  exact ⟨_, by rw [show (keyV a b c).cells.toList = [.int .i64 a, .int .i64 b, .int .i64 c] from rfl, hl]; rfl⟩
end Go.Proofs.Ytmfbpkjhabdcgaa.F
end
section
namespace Go.Proofs.Ytmfbpkjhabdcgaa.F
open Go.RowKit Go.Proofs.YtmfbpkjhabdcgaaW.PrintWords Go.Proofs.YtmfbpkjhabdcgaaW.PrintLast Go.Proofs.YtmfbpkjhabdcgaaW.PrintMore
set_option linter.unusedVariables false
set_option linter.unusedSimpArgs false
noncomputable def keyLP (a b c : Int) : Lit := (keyOf Try.prog 157 (keyV a b c)).getD (.bool false)
end Go.Proofs.Ytmfbpkjhabdcgaa.F
end
section
namespace Go.Proofs.Ytmfbpkjhabdcgaa.F
open Go.RowKit Go.Proofs.YtmfbpkjhabdcgaaW.PrintWords Go.Proofs.YtmfbpkjhabdcgaaW.PrintLast Go.Proofs.YtmfbpkjhabdcgaaW.PrintMore
set_option linter.unusedVariables false
set_option linter.unusedSimpArgs false
theorem keyLP_of {a b c : Int} (h : Wf3 a b c) : keyOf Try.prog 157 (keyV a b c) = some (keyLP a b c) := by
  obtain ⟨l, hl⟩ := keyOf157 h
  unfold keyLP
  rw [hl]; rfl
end Go.Proofs.Ytmfbpkjhabdcgaa.F
end
section
namespace Go.Proofs.Ytmfbpkjhabdcgaa.F
open Go.RowKit Go.Proofs.YtmfbpkjhabdcgaaW.PrintWords Go.Proofs.YtmfbpkjhabdcgaaW.PrintLast Go.Proofs.YtmfbpkjhabdcgaaW.PrintMore
set_option linter.unusedVariables false
set_option linter.unusedSimpArgs false
theorem keyLP_inj {a b c a' b' c' : Int} (h : Wf3 a b c) (h' : Wf3 a' b' c') (e : keyLP a b c = keyLP a' b' c') : a = a' ∧ b = b' ∧ c = c' := by
  have h1 := keyLP_of h
  rw [e] at h1
  have := keyed157.inj h1 (keyLP_of h')
  simpa using this
end Go.Proofs.Ytmfbpkjhabdcgaa.F
end
section
namespace Go.Proofs.Ytmfbpkjhabdcgaa.F
open Go.RowKit Go.Proofs.YtmfbpkjhabdcgaaW.PrintWords Go.Proofs.YtmfbpkjhabdcgaaW.PrintLast Go.Proofs.YtmfbpkjhabdcgaaW.PrintMore
set_option linter.unusedVariables false
set_option linter.unusedSimpArgs false
/-- The map in block b holds just the keys of L. -/
def SeenP (w : World) (b : Nat) (L : List (Int × Int × Int)) : Prop :=
  ∃ (n : Nat) (D : DataW Unit), n ≤ L.length ∧ w.ownsMap Try.prog 157 (plainElem (H := Unit) Try.prog 4) b n D ∧ (∃ es, D = .map es) ∧ (∀ q ∈ L, Wf3 q.1 q.2.1 q.2.2) ∧
    ∀ a b c, Wf3 a b c → D.atKey (keyLP a b c) (.lit (.bool false)) = .lit (.bool (decide ((a, b, c) ∈ L))) ∧ Maps.has D (keyLP a b c) = decide ((a, b, c) ∈ L)
end Go.Proofs.Ytmfbpkjhabdcgaa.F
end
section
namespace Go.Proofs.Ytmfbpkjhabdcgaa.F
open Go.RowKit Go.Proofs.YtmfbpkjhabdcgaaW.PrintWords Go.Proofs.YtmfbpkjhabdcgaaW.PrintLast Go.Proofs.YtmfbpkjhabdcgaaW.PrintMore
set_option linter.unusedVariables false
set_option linter.unusedSimpArgs false
theorem SeenP.kept {w w' : World} {b : Nat} {L : List (Int × Int × Int)} {row : Option Nat} (h : SeenP w b L) (hg : w.grownBy w' row) (hne : some b ≠ row) : SeenP w' b L := by
  obtain ⟨n, D, h1, h2, h3⟩ := h
  exact ⟨n, D, h1, h2.kept hg hne, h3⟩
end Go.Proofs.Ytmfbpkjhabdcgaa.F
end
section
namespace Go.Proofs.Ytmfbpkjhabdcgaa.F
open Go.RowKit Go.Proofs.YtmfbpkjhabdcgaaW.PrintWords Go.Proofs.YtmfbpkjhabdcgaaW.PrintLast Go.Proofs.YtmfbpkjhabdcgaaW.PrintMore
set_option linter.unusedVariables false
set_option linter.unusedSimpArgs false
theorem seenP_made (w : World) : SeenP (w.alloc (.map #[] 0)) w.heap.size [] :=
  ⟨0, .map [], Nat.le_refl _, World.ownsMap_made w _ _ _, ⟨[], rfl⟩, fun _ h => (List.not_mem_nil h).elim, fun a b c h => ⟨WideAt.atKey_none _ (fun _ h => (List.not_mem_nil h).elim), by rw [Maps.has_eq]; simp⟩⟩
end Go.Proofs.Ytmfbpkjhabdcgaa.F
end
section
namespace Go.Proofs.Ytmfbpkjhabdcgaa.F
open Go.RowKit Go.Proofs.YtmfbpkjhabdcgaaW.PrintWords Go.Proofs.YtmfbpkjhabdcgaaW.PrintLast Go.Proofs.YtmfbpkjhabdcgaaW.PrintMore
set_option linter.unusedVariables false
set_option linter.unusedSimpArgs false
set_option maxRecDepth 100000 in
theorem seenP_look_ok {w : World} {b : Nat} {L : List (Int × Int × Int)} (h : SeenP w b L) {x y z : Int} (hw : Wf3 x y z) (hz : (zeroValue 4).run Try.prog w = .ok (.bool false) w) :
    (Instr.lookup 184 (.map (some b)) (keyV x y z) true).run Try.prog w = .ok (.tuple #[.bool (decide ((x, y, z) ∈ L)), .bool (decide ((x, y, z) ∈ L))]) w := by
  obtain ⟨n, D, h1, h2, h3, h4, h5⟩ := h
  obtain ⟨v, ps, hrun, hv⟩ := h2.look_ok keyed157 Try.underlying184 hz (plainElem_bool Try.underlying4 false) (keyLP_of hw)
  have e := plain_bool_inv Try.underlying4 hv (h5 x y z hw).1
  subst e
  rw [(h5 x y z hw).2] at hrun
  exact hrun
end Go.Proofs.Ytmfbpkjhabdcgaa.F
end
section
namespace Go.Proofs.Ytmfbpkjhabdcgaa.F
open Go.RowKit Go.Proofs.YtmfbpkjhabdcgaaW.PrintWords Go.Proofs.YtmfbpkjhabdcgaaW.PrintLast Go.Proofs.YtmfbpkjhabdcgaaW.PrintMore
set_option linter.unusedVariables false
set_option linter.unusedSimpArgs false
set_option maxRecDepth 100000 in
theorem seenP_put {w : World} {b : Nat} {L : List (Int × Int × Int)} (h : SeenP w b L) {x y z : Int} (hw : Wf3 x y z) (hL : L.length < maxLen) :
    ∃ w', (Instr.mapUpdate 184 (.map (some b)) (keyV x y z) (.bool true)).run Try.prog w = .ok () w' ∧ SeenP w' b ((x, y, z) :: L) ∧ w.grownBy w' (some b) := by
  obtain ⟨n, D, h1, h2, h3, h4, h5⟩ := h
  obtain ⟨w', hrun, ho, hg⟩ := h2.update keyed157 Try.underlying184 (by omega) (keyLP_of hw) (plainElem_bool Try.underlying4 true)
  refine ⟨w', hrun, ⟨n + 1, _, by simp; omega, ho, ?_, fun q hq => ?_, fun a c d ha => ?_⟩, hg⟩
  · obtain ⟨es, rfl⟩ := h3
    exact ⟨_, rfl⟩
  · rcases List.mem_cons.1 hq with rfl | hq
    · exact hw
    · exact h4 q hq
  · by_cases e : (a, c, d) = (x, y, z)
    · simp only [Prod.mk.injEq] at e
      obtain ⟨rfl, rfl, rfl⟩ := e
      exact ⟨(Maps.atKey_put_same h3 (keyed157.key (keyLP_of hw)) _ _).trans (by rw [decide_eq_true List.mem_cons_self]), (Maps.has_put_same h3 (keyed157.key (keyLP_of hw)) _).trans (by rw [decide_eq_true List.mem_cons_self])⟩
    · have hne : keyLP a c d ≠ keyLP x y z := fun ek => e (by obtain ⟨rfl, rfl, rfl⟩ := keyLP_inj ha hw ek; rfl)
      have ed : decide ((a, c, d) ∈ L) = decide ((a, c, d) ∈ (x, y, z) :: L) := by
        rw [decide_eq_decide]
        exact ⟨fun h => List.mem_cons_of_mem _ h, fun h => (List.mem_cons.1 h).resolve_left e⟩
      exact ⟨(Maps.atKey_put_other hne _ _).trans ((h5 a c d ha).1.trans (by rw [ed])), (Maps.has_put_other hne _).trans ((h5 a c d ha).2.trans ed)⟩
end Go.Proofs.Ytmfbpkjhabdcgaa.F
end
section
namespace Go.Proofs.Ytmfbpkjhabdcgaa.F
open Go.RowKit Go.Proofs.YtmfbpkjhabdcgaaW.PrintWords Go.Proofs.YtmfbpkjhabdcgaaW.PrintLast Go.Proofs.YtmfbpkjhabdcgaaW.PrintMore
set_option linter.unusedVariables false
set_option linter.unusedSimpArgs false
theorem seenP_lt {w : World} {b : Nat} {L : List (Int × Int × Int)} (h : SeenP w b L) : b < w.heap.size := by
  obtain ⟨n, D, h1, h2, h3⟩ := h
  exact h2.lt
end Go.Proofs.Ytmfbpkjhabdcgaa.F
end
section
namespace Go.Proofs.Ytmfbpkjhabdcgaa.F
open Go.RowKit Go.Proofs.YtmfbpkjhabdcgaaW.PrintWords Go.Proofs.YtmfbpkjhabdcgaaW.PrintLast Go.Proofs.YtmfbpkjhabdcgaaW.PrintMore
set_option linter.unusedVariables false
set_option linter.unusedSimpArgs false
theorem SeenP.drew {w : World} {b : Nat} {L : List (Int × Int × Int)} (h : SeenP w b L) : SeenP w.drew b L := by
  obtain ⟨n, D, h1, h2, h3⟩ := h
  exact ⟨n, D, h1, h2.drew, h3⟩
end Go.Proofs.Ytmfbpkjhabdcgaa.F
end
section
namespace Go.Proofs.Ytmfbpkjhabdcgaa.F
open Go.RowKit Go.Proofs.YtmfbpkjhabdcgaaW.PrintWords Go.Proofs.YtmfbpkjhabdcgaaW.PrintLast Go.Proofs.YtmfbpkjhabdcgaaW.PrintMore
set_option linter.unusedVariables false
set_option linter.unusedSimpArgs false
variable {ops : Array Oper} {rest : List Oper} {o : Oper} {a : Act} {Q : Exit → Act → World → Prop}
/-- 'taken[key] = true' at the operation. -/
theorem wpList_seenP_put (w : World) (hg : o.guard = none) (m x v : Operand) (hop : o.op = Op.mapUpdate 184 m x v) (b : Nat) (L : List (Int × Int × Int)) (hs : SeenP w b L) (y0 y1 y2 : Int) (hw : Wf3 y0 y1 y2) (hL : L.length < maxLen)
    (hm : a.eval m = .map (some b)) (hx : a.eval x = keyV y0 y1 y2) (hv : a.eval v = .bool true)
    (hK : ∀ w', SeenP w' b ((y0, y1, y2) :: L) → w.grownBy w' (some b) → wpList Try.prog ops Q rest (a.put o.dst undef) w') : wpList Try.prog ops Q (o :: rest) a w := by
  refine wpList_plain hg fun K' hK' => ?_
  obtain ⟨w', hrun, r1, r2⟩ := seenP_put hs hw hL
  unfold Oper.wp
  simp only [execOp, hop, hm, hx, hv, Sem.run_bind, hrun, Result.andThen]
  exact hK' _ _ (hK w' r1 r2)
end Go.Proofs.Ytmfbpkjhabdcgaa.F
end
section
-- Written by fork.py (this session's program over the kit's print.py). Not trusted: Lean checks it.
namespace Go.Proofs.Ytmfbpkjhabdcgaa.F
open Go.RowKit Go.Proofs.YtmfbpkjhabdcgaaW.PrintWords Go.Proofs.YtmfbpkjhabdcgaaW.PrintLast Go.Proofs.YtmfbpkjhabdcgaaW.PrintMore
attribute [local go_sem] max2_int min2_int max_two min_two max_three min_three max_four min_four
set_option linter.unusedVariables false
set_option linter.unusedSimpArgs false

attribute [local go_sem high] eqA29
/-! ### L28_ask: function 69 -/
def L28_ask.f (a0 : Int) (a1 : Int) (a2 : Int) (l3 : List (S29)) : Option (Int × Int × Int × Int × Int × Int × Int × Int × Int × (List (S29))) := some (1, a0, a1, a2, 10, 0, 500, 4, 2, l3)
set_option maxHeartbeats 8000000 in
set_option maxRecDepth 100000 in
theorem L28_ask.calls (a0 : Int) (a1 : Int) (a2 : Int) (P3_ : Nat → Prop) (u9000_ : Value) (l3 : List (S29)) (r1 : Int) (r2 : Int) (r3 : Int) (r4 : Int) (r5 : Int) (r6 : Int) (r7 : Int) (r8 : Int) (r9 : Int) (r10 : List (S29)) (w0 w : World) (hB : Below w0.heap.size w0 w) (ho3 : Kd.R k29 29 w w0.heap.size P3_ u9000_ l3) (h : L28_ask.f a0 a1 a2 l3 = some (r1, r2, r3, r4, r5, r6, r7, r8, r9, r10)) :
    Calls Try.prog 69 #[.int .i64 a0, .int .i64 a1, .int .i64 a2, u9000_] w fun e w' => ∃ v9_ : Value, e = .returned (.agg #[.int .i64 r1, .int .i64 r2, .int .i64 r3, .int .i64 r4, .int .i64 r5, .int .i64 r6, .int .i64 r7, .int .i64 r8, .int .i64 r9, v9_]) ∧ Kd.R k29 29 w' w0.heap.size (fun k_ => (P3_ k_ ∨ w.heap.size ≤ k_)) v9_ r10 ∧ Below w0.heap.size w0 w' ∧ Kept w w' (fun k_ => P3_ k_) := by
  have hu60 := Try.underlying60
  have HO3 := Aside0.mk (show Kd.R k29 29 w w0.heap.size (fun k_ => (P3_ k_ ∨ w.heap.size ≤ k_)) u9000_ l3 from Kd.R_mono ho3 (fun k_ hk => (.inl hk)))
  have HK := Aside0.mk (Kept.refl w (fun k_ => P3_ k_))
  have HW0 := Aside0.mk hB.size
  have HB := Aside0.mk hB
  clear hB
  have H : (some (1, a0, a1, a2, 10, 0, 500, 4, 2, l3)) = some (r1, r2, r3, r4, r5, r6, r7, r8, r9, r10) := h
  clear h
  simp only [Option.some.injEq, Prod.mk.injEq] at H
  obtain ⟨rfl, rfl, rfl, rfl, rfl, rfl, rfl, rfl, rfl, rfl⟩ := H
  go_enter Try.func69, Try.ntmps69
  go_wp2_with (first | ((with_reducible refine gate_dst (N := 8) rfl ?_); refine box_event ?hg (N := 8) ?hd (cs := #[.int .i64 0, .int .i64 0, .int .i64 0, .int .i64 0, .int .i64 0, .int .i64 0, .int .i64 0, .int .i64 0, .int .i64 0, .slice none 0 0]) (t := 60) ?hr ?_; (case hd => rfl); (case hg => rfl); (case hr => first | (go_simp; done) | (go_simp; rfl)); intro gb758 hg w5 hbox hb; have n0_ := Aside0.mk (Kd.R_below (by (with_reducible repeat (first | apply Kd.R_alloc | apply Kd.R_drewN | apply Kd.R_drew)); exact HO3.out) hb); have n1_ := Aside0.mk (Kept.below (S := (fun k_ => P3_ k_)) (by repeat (first | (with_reducible first | exact HK.out | apply Kept.alloc | apply Kept.drewN | apply Kept.drew) | exact HK.out)) hb); have n2_ := Aside0.mk (below_step (by repeat (first | (with_reducible first | exact HB.out | apply below_alloc | apply pw_below_drewN | apply below_drew1) | exact HB.out)) hb); have n3_ := Aside0.mk (hbox); have n4_ := Aside0.mk ((by rw [hg]; exact (by first | exact HK.out.1 | exact (show Kept w _ (fun k_ => P3_ k_) from by repeat (first | (with_reducible first | exact HK.out | apply Kept.alloc | apply Kept.drewN | apply Kept.drew) | exact HK.out)).1) : w.heap.size ≤ gb758)); have n5_ := Aside0.mk ((by rw [hg]; exact (below_size (by repeat (first | (with_reducible first | exact HB.out | apply below_alloc | apply pw_below_drewN | apply below_drew1) | exact HB.out))) : w0.heap.size ≤ gb758)); clear HO3; clear HK; clear HB; have HO3 := n0_; have HK := n1_; have HB := n2_; have BK758 := n3_; have GW758 := n4_; have GE758 := n5_; clear n0_ n1_ n2_ n3_ n4_ n5_; clear hb hbox hg; obtain ⟨Ao6, co6, eo6⟩ := Kd.R_slice HO3.out; subst eo6; have hcz7_0 : w5.cell? ⟨gb758, 0, none⟩ = some (.int .i64 0) := (blk_cell BK758.out 0).trans rfl; have hcz7_1 : w5.cell? ⟨gb758, 1, none⟩ = some (.int .i64 0) := (blk_cell BK758.out 1).trans rfl; have hcz7_2 : w5.cell? ⟨gb758, 2, none⟩ = some (.int .i64 0) := (blk_cell BK758.out 2).trans rfl; have hcz7_3 : w5.cell? ⟨gb758, 3, none⟩ = some (.int .i64 0) := (blk_cell BK758.out 3).trans rfl; have hcz7_4 : w5.cell? ⟨gb758, 4, none⟩ = some (.int .i64 0) := (blk_cell BK758.out 4).trans rfl; have hcz7_5 : w5.cell? ⟨gb758, 5, none⟩ = some (.int .i64 0) := (blk_cell BK758.out 5).trans rfl; have hcz7_6 : w5.cell? ⟨gb758, 6, none⟩ = some (.int .i64 0) := (blk_cell BK758.out 6).trans rfl; have hcz7_7 : w5.cell? ⟨gb758, 7, none⟩ = some (.int .i64 0) := (blk_cell BK758.out 7).trans rfl; have hcz7_8 : w5.cell? ⟨gb758, 8, none⟩ = some (.int .i64 0) := (blk_cell BK758.out 8).trans rfl; have hcz7_9 : w5.cell? ⟨gb758, 9, none⟩ = some (.slice none 0 0) := (blk_cell BK758.out 9).trans rfl; have hfz7_0 := blk_frozen BK758.out 0; have hfz7_1 := blk_frozen BK758.out 1; have hfz7_2 := blk_frozen BK758.out 2; have hfz7_3 := blk_frozen BK758.out 3; have hfz7_4 := blk_frozen BK758.out 4; have hfz7_5 := blk_frozen BK758.out 5; have hfz7_6 := blk_frozen BK758.out 6; have hfz7_7 := blk_frozen BK758.out 7; have hfz7_8 := blk_frozen BK758.out 8; have hfz7_9 := blk_frozen BK758.out 9))
  all_goals refine bodyPost_ret (results_cell_row rfl _ _ gb758 60 #[.int .i64 1, .int .i64 a0, .int .i64 a1, .int .i64 a2, .int .i64 10, .int .i64 0, .int .i64 500, .int .i64 4, .int .i64 2, .slice Ao6 l3.length co6] (0, 0) _ rfl (by (with_reducible repeat (first | refine blk_drewN ?_ _ | refine blk_drew ?_ | refine blk_alloc ?_ _)); refine blk_put (cs := #[.int .i64 1, .int .i64 a0, .int .i64 a1, .int .i64 a2, .int .i64 10, .int .i64 0, .int .i64 500, .int .i64 4, .int .i64 2, .slice none 0 0]) ?_ 9 _ rfl; (with_reducible repeat (first | refine blk_drewN ?_ _ | refine blk_drew ?_ | refine blk_alloc ?_ _)); refine blk_put (cs := #[.int .i64 1, .int .i64 a0, .int .i64 a1, .int .i64 a2, .int .i64 10, .int .i64 0, .int .i64 500, .int .i64 4, .int .i64 0, .slice none 0 0]) ?_ 8 _ rfl; (with_reducible repeat (first | refine blk_drewN ?_ _ | refine blk_drew ?_ | refine blk_alloc ?_ _)); refine blk_put (cs := #[.int .i64 1, .int .i64 a0, .int .i64 a1, .int .i64 a2, .int .i64 10, .int .i64 0, .int .i64 500, .int .i64 0, .int .i64 0, .slice none 0 0]) ?_ 7 _ rfl; (with_reducible repeat (first | refine blk_drewN ?_ _ | refine blk_drew ?_ | refine blk_alloc ?_ _)); refine blk_put (cs := #[.int .i64 1, .int .i64 a0, .int .i64 a1, .int .i64 a2, .int .i64 10, .int .i64 0, .int .i64 0, .int .i64 0, .int .i64 0, .slice none 0 0]) ?_ 6 _ rfl; (with_reducible repeat (first | refine blk_drewN ?_ _ | refine blk_drew ?_ | refine blk_alloc ?_ _)); refine blk_put (cs := #[.int .i64 1, .int .i64 a0, .int .i64 a1, .int .i64 a2, .int .i64 10, .int .i64 0, .int .i64 0, .int .i64 0, .int .i64 0, .slice none 0 0]) ?_ 5 _ rfl; (with_reducible repeat (first | refine blk_drewN ?_ _ | refine blk_drew ?_ | refine blk_alloc ?_ _)); refine blk_put (cs := #[.int .i64 1, .int .i64 a0, .int .i64 a1, .int .i64 a2, .int .i64 0, .int .i64 0, .int .i64 0, .int .i64 0, .int .i64 0, .slice none 0 0]) ?_ 4 _ rfl; (with_reducible repeat (first | refine blk_drewN ?_ _ | refine blk_drew ?_ | refine blk_alloc ?_ _)); refine blk_put (cs := #[.int .i64 1, .int .i64 a0, .int .i64 a1, .int .i64 0, .int .i64 0, .int .i64 0, .int .i64 0, .int .i64 0, .int .i64 0, .slice none 0 0]) ?_ 3 _ rfl; (with_reducible repeat (first | refine blk_drewN ?_ _ | refine blk_drew ?_ | refine blk_alloc ?_ _)); refine blk_put (cs := #[.int .i64 1, .int .i64 a0, .int .i64 0, .int .i64 0, .int .i64 0, .int .i64 0, .int .i64 0, .int .i64 0, .int .i64 0, .slice none 0 0]) ?_ 2 _ rfl; (with_reducible repeat (first | refine blk_drewN ?_ _ | refine blk_drew ?_ | refine blk_alloc ?_ _)); refine blk_put (cs := #[.int .i64 1, .int .i64 0, .int .i64 0, .int .i64 0, .int .i64 0, .int .i64 0, .int .i64 0, .int .i64 0, .int .i64 0, .slice none 0 0]) ?_ 1 _ rfl; (with_reducible repeat (first | refine blk_drewN ?_ _ | refine blk_drew ?_ | refine blk_alloc ?_ _)); refine blk_put (cs := #[.int .i64 0, .int .i64 0, .int .i64 0, .int .i64 0, .int .i64 0, .int .i64 0, .int .i64 0, .int .i64 0, .int .i64 0, .slice none 0 0]) ?_ 0 _ rfl; (with_reducible repeat (first | refine blk_drewN ?_ _ | refine blk_drew ?_ | refine blk_alloc ?_ _)); exact BK758.out) Try.underlying60 rfl (by kernel_rfl)) rfl ?_
  all_goals exact ⟨_, by first | rfl | (simp [errW_none, errW_some] <;> rfl) | (simp [*, errW_none, errW_some] <;> rfl), by (with_reducible repeat (first | apply Kd.R_alloc | apply Kd.R_drewN | apply Kd.R_drew)); exact Kd.R_mono (Kd.R_far (p := ⟨gb758, 9, none⟩) (Kd.R_far (p := ⟨gb758, 8, none⟩) (Kd.R_far (p := ⟨gb758, 7, none⟩) (Kd.R_far (p := ⟨gb758, 6, none⟩) (Kd.R_far (p := ⟨gb758, 5, none⟩) (Kd.R_far (p := ⟨gb758, 4, none⟩) (Kd.R_far (p := ⟨gb758, 3, none⟩) (Kd.R_far (p := ⟨gb758, 2, none⟩) (Kd.R_far (p := ⟨gb758, 1, none⟩) (Kd.R_far (p := ⟨gb758, 0, none⟩) (Kd.R_types HO3.out BK758.out (by decide)) (fun _ hk => hk.2) (.int .i64 1)) (fun _ hk => hk.2) (.int .i64 a0)) (fun _ hk => hk.2) (.int .i64 a1)) (fun _ hk => hk.2) (.int .i64 a2)) (fun _ hk => hk.2) (.int .i64 10)) (fun _ hk => hk.2) (.int .i64 0)) (fun _ hk => hk.2) (.int .i64 500)) (fun _ hk => hk.2) (.int .i64 4)) (fun _ hk => hk.2) (.int .i64 2)) (fun _ hk => hk.2) (.slice Ao6 l3.length co6)) (fun _ hk => hk.1), by repeat (first | (with_reducible first | exact HB.out | apply below_alloc | apply pw_below_drewN | apply below_drew1 | refine below_set ?_ GE758.out) | exact HB.out), by repeat (first | (with_reducible first | exact HK.out | apply Kept.alloc | apply Kept.drewN | apply Kept.drew | refine Kept.setCell ?_ (.inr GW758.out) _) | exact HK.out)⟩


end Go.Proofs.Ytmfbpkjhabdcgaa.F
end
section
-- Written by fork.py (this session's program over the kit's print.py). Not trusted: Lean checks it.
namespace Go.Proofs.Ytmfbpkjhabdcgaa.F
open Go.RowKit Go.Proofs.YtmfbpkjhabdcgaaW.PrintWords Go.Proofs.YtmfbpkjhabdcgaaW.PrintLast Go.Proofs.YtmfbpkjhabdcgaaW.PrintMore
attribute [local go_sem] max2_int min2_int max_two min_two max_three min_three max_four min_four
set_option linter.unusedVariables false
set_option linter.unusedSimpArgs false

attribute [local go_sem high] eqA29
/-! ### L28_u3: function 71 -/
def L28_u3.f  : Option (Int × Int × Int × Int) := some (1, 3, 0, 5)
set_option maxHeartbeats 8000000 in
set_option maxRecDepth 100000 in
theorem L28_u3.calls  (r1 : Int) (r2 : Int) (r3 : Int) (r4 : Int) (w : World) (h : L28_u3.f  = some (r1, r2, r3, r4)) :
    Calls Try.prog 71 #[] w fun e w' => e = .returned (.agg #[.int .i64 r1, .int .i64 r2, .int .i64 r3, .int .i64 r4]) ∧ Below w.heap.size w w' := by
  have hu29 := Try.underlying29
  have HB := Aside0.mk (Below.refl w.heap.size w)
  have H : (some (1, 3, 0, 5)) = some (r1, r2, r3, r4) := h
  clear h
  simp only [Option.some.injEq, Prod.mk.injEq] at H
  obtain ⟨rfl, rfl, rfl, rfl⟩ := H
  go_enter Try.func71, Try.ntmps71
  go_wp2_with (first | ((with_reducible refine gate_dst (N := 0) rfl ?_); refine box_event ?hg (N := 0) ?hd (cs := #[.int .i64 0, .int .i64 0, .int .i64 0, .int .i64 0]) (t := 29) ?hr ?_; (case hd => rfl); (case hg => rfl); (case hr => first | (go_simp; done) | (go_simp; rfl)); intro gb759 hg w1 hbox hb; have n0_ := Aside0.mk (below_step (by repeat (first | (with_reducible first | exact HB.out | apply below_alloc | apply pw_below_drewN | apply below_drew1) | exact HB.out)) hb); have n1_ := Aside0.mk (hbox); have n2_ := Aside0.mk ((by rw [hg]; exact (below_size (by repeat (first | (with_reducible first | exact HB.out | apply below_alloc | apply pw_below_drewN | apply below_drew1) | exact HB.out))) : w.heap.size ≤ gb759)); have n3_ := Aside0.mk ((by rw [hg]; exact (below_size (by repeat (first | (with_reducible first | exact HB.out | apply below_alloc | apply pw_below_drewN | apply below_drew1) | exact HB.out))) : w.heap.size ≤ gb759)); clear HB; have HB := n0_; have BK759 := n1_; have GW759 := n2_; have GE759 := n3_; clear n0_ n1_ n2_ n3_; clear hb hbox hg; have hcz2_0 : w1.cell? ⟨gb759, 0, none⟩ = some (.int .i64 0) := (blk_cell BK759.out 0).trans rfl; have hcz2_1 : w1.cell? ⟨gb759, 1, none⟩ = some (.int .i64 0) := (blk_cell BK759.out 1).trans rfl; have hcz2_2 : w1.cell? ⟨gb759, 2, none⟩ = some (.int .i64 0) := (blk_cell BK759.out 2).trans rfl; have hcz2_3 : w1.cell? ⟨gb759, 3, none⟩ = some (.int .i64 0) := (blk_cell BK759.out 3).trans rfl; have hfz2_0 := blk_frozen BK759.out 0; have hfz2_1 := blk_frozen BK759.out 1; have hfz2_2 := blk_frozen BK759.out 2; have hfz2_3 := blk_frozen BK759.out 3))
  all_goals refine bodyPost_ret (results_cell_row rfl _ _ gb759 29 #[.int .i64 1, .int .i64 3, .int .i64 0, .int .i64 5] (0, 0) _ rfl (by (with_reducible repeat (first | refine blk_drewN ?_ _ | refine blk_drew ?_ | refine blk_alloc ?_ _)); refine blk_put (cs := #[.int .i64 1, .int .i64 3, .int .i64 0, .int .i64 0]) ?_ 3 _ rfl; (with_reducible repeat (first | refine blk_drewN ?_ _ | refine blk_drew ?_ | refine blk_alloc ?_ _)); refine blk_put (cs := #[.int .i64 1, .int .i64 3, .int .i64 0, .int .i64 0]) ?_ 2 _ rfl; (with_reducible repeat (first | refine blk_drewN ?_ _ | refine blk_drew ?_ | refine blk_alloc ?_ _)); refine blk_put (cs := #[.int .i64 1, .int .i64 0, .int .i64 0, .int .i64 0]) ?_ 1 _ rfl; (with_reducible repeat (first | refine blk_drewN ?_ _ | refine blk_drew ?_ | refine blk_alloc ?_ _)); refine blk_put (cs := #[.int .i64 0, .int .i64 0, .int .i64 0, .int .i64 0]) ?_ 0 _ rfl; (with_reducible repeat (first | refine blk_drewN ?_ _ | refine blk_drew ?_ | refine blk_alloc ?_ _)); exact BK759.out) Try.underlying29 rfl (by kernel_rfl)) rfl ?_
  all_goals exact ⟨by first | rfl | (simp [errW_none, errW_some] <;> rfl) | (simp [*, errW_none, errW_some] <;> rfl), by repeat (first | (with_reducible first | exact HB.out | apply below_alloc | apply pw_below_drewN | apply below_drew1 | refine below_set ?_ GE759.out) | exact HB.out)⟩


end Go.Proofs.Ytmfbpkjhabdcgaa.F
end
section
-- Written by fork.py (this session's program over the kit's print.py). Not trusted: Lean checks it.
namespace Go.Proofs.Ytmfbpkjhabdcgaa.F
open Go.RowKit Go.Proofs.YtmfbpkjhabdcgaaW.PrintWords Go.Proofs.YtmfbpkjhabdcgaaW.PrintLast Go.Proofs.YtmfbpkjhabdcgaaW.PrintMore
attribute [local go_sem] max2_int min2_int max_two min_two max_three min_three max_four min_four
set_option linter.unusedVariables false
set_option linter.unusedSimpArgs false

attribute [local go_sem high] eqA29
/-! ### L28_d1: function 72 -/
def L28_d1.f  : Option (Int × Int × Int × Int) := some (2, 1, 0, 6)
set_option maxHeartbeats 8000000 in
set_option maxRecDepth 100000 in
theorem L28_d1.calls  (r1 : Int) (r2 : Int) (r3 : Int) (r4 : Int) (w : World) (h : L28_d1.f  = some (r1, r2, r3, r4)) :
    Calls Try.prog 72 #[] w fun e w' => e = .returned (.agg #[.int .i64 r1, .int .i64 r2, .int .i64 r3, .int .i64 r4]) ∧ Below w.heap.size w w' := by
  have hu29 := Try.underlying29
  have HB := Aside0.mk (Below.refl w.heap.size w)
  have H : (some (2, 1, 0, 6)) = some (r1, r2, r3, r4) := h
  clear h
  simp only [Option.some.injEq, Prod.mk.injEq] at H
  obtain ⟨rfl, rfl, rfl, rfl⟩ := H
  go_enter Try.func72, Try.ntmps72
  go_wp2_with (first | ((with_reducible refine gate_dst (N := 0) rfl ?_); refine box_event ?hg (N := 0) ?hd (cs := #[.int .i64 0, .int .i64 0, .int .i64 0, .int .i64 0]) (t := 29) ?hr ?_; (case hd => rfl); (case hg => rfl); (case hr => first | (go_simp; done) | (go_simp; rfl)); intro gb760 hg w1 hbox hb; have n0_ := Aside0.mk (below_step (by repeat (first | (with_reducible first | exact HB.out | apply below_alloc | apply pw_below_drewN | apply below_drew1) | exact HB.out)) hb); have n1_ := Aside0.mk (hbox); have n2_ := Aside0.mk ((by rw [hg]; exact (below_size (by repeat (first | (with_reducible first | exact HB.out | apply below_alloc | apply pw_below_drewN | apply below_drew1) | exact HB.out))) : w.heap.size ≤ gb760)); have n3_ := Aside0.mk ((by rw [hg]; exact (below_size (by repeat (first | (with_reducible first | exact HB.out | apply below_alloc | apply pw_below_drewN | apply below_drew1) | exact HB.out))) : w.heap.size ≤ gb760)); clear HB; have HB := n0_; have BK760 := n1_; have GW760 := n2_; have GE760 := n3_; clear n0_ n1_ n2_ n3_; clear hb hbox hg; have hcz2_0 : w1.cell? ⟨gb760, 0, none⟩ = some (.int .i64 0) := (blk_cell BK760.out 0).trans rfl; have hcz2_1 : w1.cell? ⟨gb760, 1, none⟩ = some (.int .i64 0) := (blk_cell BK760.out 1).trans rfl; have hcz2_2 : w1.cell? ⟨gb760, 2, none⟩ = some (.int .i64 0) := (blk_cell BK760.out 2).trans rfl; have hcz2_3 : w1.cell? ⟨gb760, 3, none⟩ = some (.int .i64 0) := (blk_cell BK760.out 3).trans rfl; have hfz2_0 := blk_frozen BK760.out 0; have hfz2_1 := blk_frozen BK760.out 1; have hfz2_2 := blk_frozen BK760.out 2; have hfz2_3 := blk_frozen BK760.out 3))
  all_goals refine bodyPost_ret (results_cell_row rfl _ _ gb760 29 #[.int .i64 2, .int .i64 1, .int .i64 0, .int .i64 6] (0, 0) _ rfl (by (with_reducible repeat (first | refine blk_drewN ?_ _ | refine blk_drew ?_ | refine blk_alloc ?_ _)); refine blk_put (cs := #[.int .i64 2, .int .i64 1, .int .i64 0, .int .i64 0]) ?_ 3 _ rfl; (with_reducible repeat (first | refine blk_drewN ?_ _ | refine blk_drew ?_ | refine blk_alloc ?_ _)); refine blk_put (cs := #[.int .i64 2, .int .i64 1, .int .i64 0, .int .i64 0]) ?_ 2 _ rfl; (with_reducible repeat (first | refine blk_drewN ?_ _ | refine blk_drew ?_ | refine blk_alloc ?_ _)); refine blk_put (cs := #[.int .i64 2, .int .i64 0, .int .i64 0, .int .i64 0]) ?_ 1 _ rfl; (with_reducible repeat (first | refine blk_drewN ?_ _ | refine blk_drew ?_ | refine blk_alloc ?_ _)); refine blk_put (cs := #[.int .i64 0, .int .i64 0, .int .i64 0, .int .i64 0]) ?_ 0 _ rfl; (with_reducible repeat (first | refine blk_drewN ?_ _ | refine blk_drew ?_ | refine blk_alloc ?_ _)); exact BK760.out) Try.underlying29 rfl (by kernel_rfl)) rfl ?_
  all_goals exact ⟨by first | rfl | (simp [errW_none, errW_some] <;> rfl) | (simp [*, errW_none, errW_some] <;> rfl), by repeat (first | (with_reducible first | exact HB.out | apply below_alloc | apply pw_below_drewN | apply below_drew1 | refine below_set ?_ GE760.out) | exact HB.out)⟩


end Go.Proofs.Ytmfbpkjhabdcgaa.F
end
section
-- Written by fork.py (this session's program over the kit's print.py). Not trusted: Lean checks it.
namespace Go.Proofs.Ytmfbpkjhabdcgaa.F
open Go.RowKit Go.Proofs.YtmfbpkjhabdcgaaW.PrintWords Go.Proofs.YtmfbpkjhabdcgaaW.PrintLast Go.Proofs.YtmfbpkjhabdcgaaW.PrintMore
attribute [local go_sem] max2_int min2_int max_two min_two max_three min_three max_four min_four
set_option linter.unusedVariables false
set_option linter.unusedSimpArgs false

attribute [local go_sem high] eqA29
/-! ### L28_c0: function 73 -/
def L28_c0.f  : Option (Int × Int × Int × Int) := some (3, 0, 1, 7)
set_option maxHeartbeats 8000000 in
set_option maxRecDepth 100000 in
theorem L28_c0.calls  (r1 : Int) (r2 : Int) (r3 : Int) (r4 : Int) (w : World) (h : L28_c0.f  = some (r1, r2, r3, r4)) :
    Calls Try.prog 73 #[] w fun e w' => e = .returned (.agg #[.int .i64 r1, .int .i64 r2, .int .i64 r3, .int .i64 r4]) ∧ Below w.heap.size w w' := by
  have hu29 := Try.underlying29
  have HB := Aside0.mk (Below.refl w.heap.size w)
  have H : (some (3, 0, 1, 7)) = some (r1, r2, r3, r4) := h
  clear h
  simp only [Option.some.injEq, Prod.mk.injEq] at H
  obtain ⟨rfl, rfl, rfl, rfl⟩ := H
  go_enter Try.func73, Try.ntmps73
  go_wp2_with (first | ((with_reducible refine gate_dst (N := 0) rfl ?_); refine box_event ?hg (N := 0) ?hd (cs := #[.int .i64 0, .int .i64 0, .int .i64 0, .int .i64 0]) (t := 29) ?hr ?_; (case hd => rfl); (case hg => rfl); (case hr => first | (go_simp; done) | (go_simp; rfl)); intro gb761 hg w1 hbox hb; have n0_ := Aside0.mk (below_step (by repeat (first | (with_reducible first | exact HB.out | apply below_alloc | apply pw_below_drewN | apply below_drew1) | exact HB.out)) hb); have n1_ := Aside0.mk (hbox); have n2_ := Aside0.mk ((by rw [hg]; exact (below_size (by repeat (first | (with_reducible first | exact HB.out | apply below_alloc | apply pw_below_drewN | apply below_drew1) | exact HB.out))) : w.heap.size ≤ gb761)); have n3_ := Aside0.mk ((by rw [hg]; exact (below_size (by repeat (first | (with_reducible first | exact HB.out | apply below_alloc | apply pw_below_drewN | apply below_drew1) | exact HB.out))) : w.heap.size ≤ gb761)); clear HB; have HB := n0_; have BK761 := n1_; have GW761 := n2_; have GE761 := n3_; clear n0_ n1_ n2_ n3_; clear hb hbox hg; have hcz2_0 : w1.cell? ⟨gb761, 0, none⟩ = some (.int .i64 0) := (blk_cell BK761.out 0).trans rfl; have hcz2_1 : w1.cell? ⟨gb761, 1, none⟩ = some (.int .i64 0) := (blk_cell BK761.out 1).trans rfl; have hcz2_2 : w1.cell? ⟨gb761, 2, none⟩ = some (.int .i64 0) := (blk_cell BK761.out 2).trans rfl; have hcz2_3 : w1.cell? ⟨gb761, 3, none⟩ = some (.int .i64 0) := (blk_cell BK761.out 3).trans rfl; have hfz2_0 := blk_frozen BK761.out 0; have hfz2_1 := blk_frozen BK761.out 1; have hfz2_2 := blk_frozen BK761.out 2; have hfz2_3 := blk_frozen BK761.out 3))
  all_goals refine bodyPost_ret (results_cell_row rfl _ _ gb761 29 #[.int .i64 3, .int .i64 0, .int .i64 1, .int .i64 7] (0, 0) _ rfl (by (with_reducible repeat (first | refine blk_drewN ?_ _ | refine blk_drew ?_ | refine blk_alloc ?_ _)); refine blk_put (cs := #[.int .i64 3, .int .i64 0, .int .i64 1, .int .i64 0]) ?_ 3 _ rfl; (with_reducible repeat (first | refine blk_drewN ?_ _ | refine blk_drew ?_ | refine blk_alloc ?_ _)); refine blk_put (cs := #[.int .i64 3, .int .i64 0, .int .i64 0, .int .i64 0]) ?_ 2 _ rfl; (with_reducible repeat (first | refine blk_drewN ?_ _ | refine blk_drew ?_ | refine blk_alloc ?_ _)); refine blk_put (cs := #[.int .i64 3, .int .i64 0, .int .i64 0, .int .i64 0]) ?_ 1 _ rfl; (with_reducible repeat (first | refine blk_drewN ?_ _ | refine blk_drew ?_ | refine blk_alloc ?_ _)); refine blk_put (cs := #[.int .i64 0, .int .i64 0, .int .i64 0, .int .i64 0]) ?_ 0 _ rfl; (with_reducible repeat (first | refine blk_drewN ?_ _ | refine blk_drew ?_ | refine blk_alloc ?_ _)); exact BK761.out) Try.underlying29 rfl (by kernel_rfl)) rfl ?_
  all_goals exact ⟨by first | rfl | (simp [errW_none, errW_some] <;> rfl) | (simp [*, errW_none, errW_some] <;> rfl), by repeat (first | (with_reducible first | exact HB.out | apply below_alloc | apply pw_below_drewN | apply below_drew1 | refine below_set ?_ GE761.out) | exact HB.out)⟩


end Go.Proofs.Ytmfbpkjhabdcgaa.F
end
section
-- Written by fork.py (this session's program over the kit's print.py). Not trusted: Lean checks it.
namespace Go.Proofs.Ytmfbpkjhabdcgaa.F
open Go.RowKit Go.Proofs.YtmfbpkjhabdcgaaW.PrintWords Go.Proofs.YtmfbpkjhabdcgaaW.PrintLast Go.Proofs.YtmfbpkjhabdcgaaW.PrintMore
attribute [local go_sem] max2_int min2_int max_two min_two max_three min_three max_four min_four
set_option linter.unusedVariables false
set_option linter.unusedSimpArgs false

attribute [local go_sem high] eqA29
/-! ### L28_c7: function 161 -/
def L28_c7.f  : Option (Int × Int × Int × Int) := some (3, 7, 2, 6)
set_option maxHeartbeats 8000000 in
set_option maxRecDepth 100000 in
theorem L28_c7.calls  (r1 : Int) (r2 : Int) (r3 : Int) (r4 : Int) (w : World) (h : L28_c7.f  = some (r1, r2, r3, r4)) :
    Calls Try.prog 161 #[] w fun e w' => e = .returned (.agg #[.int .i64 r1, .int .i64 r2, .int .i64 r3, .int .i64 r4]) ∧ Below w.heap.size w w' := by
  have hu29 := Try.underlying29
  have HB := Aside0.mk (Below.refl w.heap.size w)
  have H : (some (3, 7, 2, 6)) = some (r1, r2, r3, r4) := h
  clear h
  simp only [Option.some.injEq, Prod.mk.injEq] at H
  obtain ⟨rfl, rfl, rfl, rfl⟩ := H
  go_enter Try.func161, Try.ntmps161
  go_wp2_with (first | ((with_reducible refine gate_dst (N := 0) rfl ?_); refine box_event ?hg (N := 0) ?hd (cs := #[.int .i64 0, .int .i64 0, .int .i64 0, .int .i64 0]) (t := 29) ?hr ?_; (case hd => rfl); (case hg => rfl); (case hr => first | (go_simp; done) | (go_simp; rfl)); intro gb762 hg w1 hbox hb; have n0_ := Aside0.mk (below_step (by repeat (first | (with_reducible first | exact HB.out | apply below_alloc | apply pw_below_drewN | apply below_drew1) | exact HB.out)) hb); have n1_ := Aside0.mk (hbox); have n2_ := Aside0.mk ((by rw [hg]; exact (below_size (by repeat (first | (with_reducible first | exact HB.out | apply below_alloc | apply pw_below_drewN | apply below_drew1) | exact HB.out))) : w.heap.size ≤ gb762)); have n3_ := Aside0.mk ((by rw [hg]; exact (below_size (by repeat (first | (with_reducible first | exact HB.out | apply below_alloc | apply pw_below_drewN | apply below_drew1) | exact HB.out))) : w.heap.size ≤ gb762)); clear HB; have HB := n0_; have BK762 := n1_; have GW762 := n2_; have GE762 := n3_; clear n0_ n1_ n2_ n3_; clear hb hbox hg; have hcz2_0 : w1.cell? ⟨gb762, 0, none⟩ = some (.int .i64 0) := (blk_cell BK762.out 0).trans rfl; have hcz2_1 : w1.cell? ⟨gb762, 1, none⟩ = some (.int .i64 0) := (blk_cell BK762.out 1).trans rfl; have hcz2_2 : w1.cell? ⟨gb762, 2, none⟩ = some (.int .i64 0) := (blk_cell BK762.out 2).trans rfl; have hcz2_3 : w1.cell? ⟨gb762, 3, none⟩ = some (.int .i64 0) := (blk_cell BK762.out 3).trans rfl; have hfz2_0 := blk_frozen BK762.out 0; have hfz2_1 := blk_frozen BK762.out 1; have hfz2_2 := blk_frozen BK762.out 2; have hfz2_3 := blk_frozen BK762.out 3))
  all_goals refine bodyPost_ret (results_cell_row rfl _ _ gb762 29 #[.int .i64 3, .int .i64 7, .int .i64 2, .int .i64 6] (0, 0) _ rfl (by (with_reducible repeat (first | refine blk_drewN ?_ _ | refine blk_drew ?_ | refine blk_alloc ?_ _)); refine blk_put (cs := #[.int .i64 3, .int .i64 7, .int .i64 2, .int .i64 0]) ?_ 3 _ rfl; (with_reducible repeat (first | refine blk_drewN ?_ _ | refine blk_drew ?_ | refine blk_alloc ?_ _)); refine blk_put (cs := #[.int .i64 3, .int .i64 7, .int .i64 0, .int .i64 0]) ?_ 2 _ rfl; (with_reducible repeat (first | refine blk_drewN ?_ _ | refine blk_drew ?_ | refine blk_alloc ?_ _)); refine blk_put (cs := #[.int .i64 3, .int .i64 0, .int .i64 0, .int .i64 0]) ?_ 1 _ rfl; (with_reducible repeat (first | refine blk_drewN ?_ _ | refine blk_drew ?_ | refine blk_alloc ?_ _)); refine blk_put (cs := #[.int .i64 0, .int .i64 0, .int .i64 0, .int .i64 0]) ?_ 0 _ rfl; (with_reducible repeat (first | refine blk_drewN ?_ _ | refine blk_drew ?_ | refine blk_alloc ?_ _)); exact BK762.out) Try.underlying29 rfl (by kernel_rfl)) rfl ?_
  all_goals exact ⟨by first | rfl | (simp [errW_none, errW_some] <;> rfl) | (simp [*, errW_none, errW_some] <;> rfl), by repeat (first | (with_reducible first | exact HB.out | apply below_alloc | apply pw_below_drewN | apply below_drew1 | refine below_set ?_ GE762.out) | exact HB.out)⟩


end Go.Proofs.Ytmfbpkjhabdcgaa.F
end
section
-- Written by fork.py (this session's program over the kit's print.py). Not trusted: Lean checks it.
namespace Go.Proofs.Ytmfbpkjhabdcgaa.F
open Go.RowKit Go.Proofs.YtmfbpkjhabdcgaaW.PrintWords Go.Proofs.YtmfbpkjhabdcgaaW.PrintLast Go.Proofs.YtmfbpkjhabdcgaaW.PrintMore
attribute [local go_sem] max2_int min2_int max_two min_two max_three min_three max_four min_four
set_option linter.unusedVariables false
set_option linter.unusedSimpArgs false

attribute [local go_sem high] eqA29
/-! ### L28_four: function 75 -/
def L28_four.f  : Option (Int × (List (S29))) := (L28_u3.f).bind fun bt764 => ((L28_d1.f).bind fun bt768 => ((L28_c7.f).bind fun bt772 => ((L28_c0.f).bind fun bt776 => (some (8, (([(⟨bt764.1, bt764.2.1, bt764.2.2.1, bt764.2.2.2⟩ : S29), (⟨bt768.1, bt768.2.1, bt768.2.2.1, bt768.2.2.2⟩ : S29), (⟨bt772.1, bt772.2.1, bt772.2.2.1, bt772.2.2.2⟩ : S29), (⟨bt776.1, bt776.2.1, bt776.2.2.1, bt776.2.2.2⟩ : S29)] : List (S29))))))))
set_option maxHeartbeats 8000000 in
set_option maxRecDepth 100000 in
theorem L28_four.calls  (r1 : Int) (r2 : List (S29)) (w : World) (h : L28_four.f  = some (r1, r2)) :
    Calls Try.prog 75 #[] w fun e w' => ∃ v1_ : Value, e = .returned (.agg #[.int .i64 r1, v1_]) ∧ Kd.R k29 29 w' w.heap.size (fun _ => True) v1_ r2 ∧ Below w.heap.size w w' := by
  have hu25 := Try.underlying25
  have HB := Aside0.mk (Below.refl w.heap.size w)
  have H : ((L28_u3.f).bind fun bt764 => ((L28_d1.f).bind fun bt768 => ((L28_c7.f).bind fun bt772 => ((L28_c0.f).bind fun bt776 => (some (8, (([(⟨bt764.1, bt764.2.1, bt764.2.2.1, bt764.2.2.2⟩ : S29), (⟨bt768.1, bt768.2.1, bt768.2.2.1, bt768.2.2.2⟩ : S29), (⟨bt772.1, bt772.2.1, bt772.2.2.1, bt772.2.2.2⟩ : S29), (⟨bt776.1, bt776.2.1, bt776.2.2.1, bt776.2.2.2⟩ : S29)] : List (S29))))))))) = some (r1, r2) := h
  clear h
  replace H := Option.bind_eq_some_iff.mp H
  obtain ⟨⟨t764, t765, t766, t767⟩, A10, H⟩ := H
  replace H : ((L28_d1.f).bind fun bt768 => ((L28_c7.f).bind fun bt772 => ((L28_c0.f).bind fun bt776 => (some (8, (([(⟨t764, t765, t766, t767⟩ : S29), (⟨bt768.1, bt768.2.1, bt768.2.2.1, bt768.2.2.2⟩ : S29), (⟨bt772.1, bt772.2.1, bt772.2.2.1, bt772.2.2.2⟩ : S29), (⟨bt776.1, bt776.2.1, bt776.2.2.1, bt776.2.2.2⟩ : S29)] : List (S29)))))))) = some (r1, r2) := H
  have A1 := Aside0.mk A10
  clear A10
  replace H := Option.bind_eq_some_iff.mp H
  obtain ⟨⟨t768, t769, t770, t771⟩, A20, H⟩ := H
  replace H : ((L28_c7.f).bind fun bt772 => ((L28_c0.f).bind fun bt776 => (some (8, (([(⟨t764, t765, t766, t767⟩ : S29), (⟨t768, t769, t770, t771⟩ : S29), (⟨bt772.1, bt772.2.1, bt772.2.2.1, bt772.2.2.2⟩ : S29), (⟨bt776.1, bt776.2.1, bt776.2.2.1, bt776.2.2.2⟩ : S29)] : List (S29))))))) = some (r1, r2) := H
  have A2 := Aside0.mk A20
  clear A20
  replace H := Option.bind_eq_some_iff.mp H
  obtain ⟨⟨t772, t773, t774, t775⟩, A30, H⟩ := H
  replace H : ((L28_c0.f).bind fun bt776 => (some (8, (([(⟨t764, t765, t766, t767⟩ : S29), (⟨t768, t769, t770, t771⟩ : S29), (⟨t772, t773, t774, t775⟩ : S29), (⟨bt776.1, bt776.2.1, bt776.2.2.1, bt776.2.2.2⟩ : S29)] : List (S29)))))) = some (r1, r2) := H
  have A3 := Aside0.mk A30
  clear A30
  replace H := Option.bind_eq_some_iff.mp H
  obtain ⟨⟨t776, t777, t778, t779⟩, A40, H⟩ := H
  replace H : (some (8, (([(⟨t764, t765, t766, t767⟩ : S29), (⟨t768, t769, t770, t771⟩ : S29), (⟨t772, t773, t774, t775⟩ : S29), (⟨t776, t777, t778, t779⟩ : S29)] : List (S29))))) = some (r1, r2) := H
  have A4 := Aside0.mk A40
  clear A40
  obtain ⟨y780, hy780⟩ : ∃ y_ : List (S29), y_ = (([(⟨t764, t765, t766, t767⟩ : S29), (⟨t768, t769, t770, t771⟩ : S29), (⟨t772, t773, t774, t775⟩ : S29), (⟨t776, t777, t778, t779⟩ : S29)] : List (S29))) := ⟨_, rfl⟩
  replace H : (some (8, y780)) = some (r1, r2) := by first | (rw [hy780]; with_reducible exact H) | (have H2_ := (Option.bind_some _ _).symm.trans H; rw [hy780]; with_reducible exact H2_) | (have H2_ := (Option.bind_some _ _).symm.trans H; with_reducible exact H2_) | with_reducible exact H | (rw [hy780]; exact H) | exact H
  have Ny780 := Aside0.mk hy780
  clear hy780
  simp only [Option.some.injEq, Prod.mk.injEq] at H
  obtain ⟨rfl, rfl⟩ := H
  go_enter Try.func75, Try.ntmps75
  go_wp2_with (first | ((with_reducible refine gate_dst (N := 0) rfl ?_); refine box_event ?hg (N := 0) ?hd (cs := #[.int .i64 0, .slice none 0 0]) (t := 25) ?hr ?_; (case hd => rfl); (case hg => rfl); (case hr => first | (go_simp; done) | (go_simp; rfl)); intro gb763 hg w5 hbox hb; have n0_ := Aside0.mk (below_step (by repeat (first | (with_reducible first | exact HB.out | apply below_alloc | apply pw_below_drewN | apply below_drew1) | exact HB.out)) hb); have n1_ := Aside0.mk (hbox); have n2_ := Aside0.mk ((by rw [hg]; exact (below_size (by repeat (first | (with_reducible first | exact HB.out | apply below_alloc | apply pw_below_drewN | apply below_drew1) | exact HB.out))) : w.heap.size ≤ gb763)); have n3_ := Aside0.mk ((by rw [hg]; exact (below_size (by repeat (first | (with_reducible first | exact HB.out | apply below_alloc | apply pw_below_drewN | apply below_drew1) | exact HB.out))) : w.heap.size ≤ gb763)); clear HB; have HB := n0_; have BK763 := n1_; have GW763 := n2_; have GE763 := n3_; clear n0_ n1_ n2_ n3_; clear hb hbox hg) | ((with_reducible refine gate_callee (f := 71) rfl ?_); refine goesL_ (some 1) rfl rfl Try.func71 (by kernel_rfl) rfl #[] rfl (by (try simp only [List.map_toArray, List.map_cons, List.map_nil]); first | done | rfl | (simp only [List.length_drop, List.length_take]; rfl)) ?_; (with_reducible refine (L28_u3.calls  t764 t765 t766 t767 _ A1.out).mono ?_); rintro e w6 ⟨rfl, hb⟩; refine ⟨_, rfl, ?_⟩; have n0_ := Aside0.mk (blk_below (g := gb763) (o := .cells #[.int .i64 0, .slice none 0 0] 25 (0, 0)) (by (with_reducible repeat (first | refine blk_drewN ?_ _ | refine blk_drew ?_ | refine blk_alloc ?_ _)); exact BK763.out) hb); have n1_ := Aside0.mk (below_step (by repeat (first | (with_reducible first | exact HB.out | apply below_alloc | apply pw_below_drewN | apply below_drew1 | refine below_set ?_ GE763.out) | exact HB.out)) hb); clear BK763; clear HB; have BK763 := n0_; have HB := n1_; clear n0_ n1_; (try clear hb); (try clear hb2); (try clear hk); (try clear hi)) | ((with_reducible refine gate_callee (f := 72) rfl ?_); refine goesL_ (some 2) rfl rfl Try.func72 (by kernel_rfl) rfl #[] rfl (by (try simp only [List.map_toArray, List.map_cons, List.map_nil]); first | done | rfl | (simp only [List.length_drop, List.length_take]; rfl)) ?_; (with_reducible refine (L28_d1.calls  t768 t769 t770 t771 _ A2.out).mono ?_); rintro e w7 ⟨rfl, hb⟩; refine ⟨_, rfl, ?_⟩; have n0_ := Aside0.mk (blk_below (g := gb763) (o := .cells #[.int .i64 0, .slice none 0 0] 25 (0, 0)) (by (with_reducible repeat (first | refine blk_drewN ?_ _ | refine blk_drew ?_ | refine blk_alloc ?_ _)); exact BK763.out) hb); have n1_ := Aside0.mk (below_step (by repeat (first | (with_reducible first | exact HB.out | apply below_alloc | apply pw_below_drewN | apply below_drew1 | refine below_set ?_ GE763.out) | exact HB.out)) hb); clear BK763; clear HB; have BK763 := n0_; have HB := n1_; clear n0_ n1_; (try clear hb); (try clear hb2); (try clear hk); (try clear hi)) | ((with_reducible refine gate_callee (f := 161) rfl ?_); refine goesL_ (some 3) rfl rfl Try.func161 (by kernel_rfl) rfl #[] rfl (by (try simp only [List.map_toArray, List.map_cons, List.map_nil]); first | done | rfl | (simp only [List.length_drop, List.length_take]; rfl)) ?_; (with_reducible refine (L28_c7.calls  t772 t773 t774 t775 _ A3.out).mono ?_); rintro e w8 ⟨rfl, hb⟩; refine ⟨_, rfl, ?_⟩; have n0_ := Aside0.mk (blk_below (g := gb763) (o := .cells #[.int .i64 0, .slice none 0 0] 25 (0, 0)) (by (with_reducible repeat (first | refine blk_drewN ?_ _ | refine blk_drew ?_ | refine blk_alloc ?_ _)); exact BK763.out) hb); have n1_ := Aside0.mk (below_step (by repeat (first | (with_reducible first | exact HB.out | apply below_alloc | apply pw_below_drewN | apply below_drew1 | refine below_set ?_ GE763.out) | exact HB.out)) hb); clear BK763; clear HB; have BK763 := n0_; have HB := n1_; clear n0_ n1_; (try clear hb); (try clear hb2); (try clear hk); (try clear hi)) | ((with_reducible refine gate_callee (f := 73) rfl ?_); refine goesL_ (some 4) rfl rfl Try.func73 (by kernel_rfl) rfl #[] rfl (by (try simp only [List.map_toArray, List.map_cons, List.map_nil]); first | done | rfl | (simp only [List.length_drop, List.length_take]; rfl)) ?_; (with_reducible refine (L28_c0.calls  t776 t777 t778 t779 _ A4.out).mono ?_); rintro e w9 ⟨rfl, hb⟩; refine ⟨_, rfl, ?_⟩; have n0_ := Aside0.mk (blk_below (g := gb763) (o := .cells #[.int .i64 0, .slice none 0 0] 25 (0, 0)) (by (with_reducible repeat (first | refine blk_drewN ?_ _ | refine blk_drew ?_ | refine blk_alloc ?_ _)); exact BK763.out) hb); have n1_ := Aside0.mk (below_step (by repeat (first | (with_reducible first | exact HB.out | apply below_alloc | apply pw_below_drewN | apply below_drew1 | refine below_set ?_ GE763.out) | exact HB.out)) hb); clear BK763; clear HB; have BK763 := n0_; have HB := n1_; clear n0_ n1_; (try clear hb); (try clear hb2); (try clear hk); (try clear hi)) | ((with_reducible refine gate_dst (N := 5) rfl ?_); refine Kd.R_lit k29 _ 29 ?hg (N := 5) ?hd (xs := ([(⟨t764, t765, t766, t767⟩ : S29), (⟨t768, t769, t770, t771⟩ : S29), (⟨t772, t773, t774, t775⟩ : S29), (⟨t776, t777, t778, t779⟩ : S29)] : List (S29))) (inner := [.int .i64 t764, .int .i64 t765, .int .i64 t766, .int .i64 t767, .int .i64 t768, .int .i64 t769, .int .i64 t770, .int .i64 t771, .int .i64 t772, .int .i64 t773, .int .i64 t774, .int .i64 t775, .int .i64 t776, .int .i64 t777, .int .i64 t778, .int .i64 t779]) (ok := fun _ => True) (okp := fun _ => True) ?hr ?hp (fun _ hk => hk) trivial (Below.refl _ _) (Nat.le_refl _) (by simp) ?_; (case hd => rfl); (case hg => rfl); (case hr => first | (go_simp; done) | (go_simp; rfl)); (case hp => exact (Reps.c4 (show Kd.M k29 _ _ _ (⟨t764, t765, t766, t767⟩ : S29) [.int .i64 t764, .int .i64 t765, .int .i64 t766, .int .i64 t767] from (k29_mkM _ _ _ (⟨t764, t765, t766, t767⟩ : S29) )) (Reps.c4 (show Kd.M k29 _ _ _ (⟨t768, t769, t770, t771⟩ : S29) [.int .i64 t768, .int .i64 t769, .int .i64 t770, .int .i64 t771] from (k29_mkM _ _ _ (⟨t768, t769, t770, t771⟩ : S29) )) (Reps.c4 (show Kd.M k29 _ _ _ (⟨t772, t773, t774, t775⟩ : S29) [.int .i64 t772, .int .i64 t773, .int .i64 t774, .int .i64 t775] from (k29_mkM _ _ _ (⟨t772, t773, t774, t775⟩ : S29) )) (Reps.c4 (show Kd.M k29 _ _ _ (⟨t776, t777, t778, t779⟩ : S29) [.int .i64 t776, .int .i64 t777, .int .i64 t778, .int .i64 t779] from (k29_mkM _ _ _ (⟨t776, t777, t778, t779⟩ : S29) )) (Reps.none _ _)))))); intro v781 w10 ho11 hb hg_ hnew_; clear hg_ hnew_; (first | rw [← Ny780.out] at ho11 | (simp only [Int.reduceToNat] at ho11; rw [← Ny780.out] at ho11)); have n0_ := Aside0.mk (Kd.R_lower ho11 (below_size (by repeat (first | (with_reducible first | exact HB.out | apply below_alloc | apply pw_below_drewN | apply below_drew1 | refine below_set ?_ GE763.out) | exact HB.out)))); have n1_ := Aside0.mk (blk_below (g := gb763) (o := .cells #[.int .i64 0, .slice none 0 0] 25 (0, 0)) (by (with_reducible repeat (first | refine blk_drewN ?_ _ | refine blk_drew ?_ | refine blk_alloc ?_ _)); exact BK763.out) hb); have n2_ := Aside0.mk (below_step (by repeat (first | (with_reducible first | exact HB.out | apply below_alloc | apply pw_below_drewN | apply below_drew1 | refine below_set ?_ GE763.out) | exact HB.out)) hb); clear BK763; clear HB; have HO782 := n0_; have BK763 := n1_; have HB := n2_; clear n0_ n1_ n2_; clear hb ho11; obtain ⟨Ao12, co12, eo12⟩ := Kd.R_slice HO782.out; subst eo12; have hcz13_0 : w10.cell? ⟨gb763, 0, none⟩ = some (.int .i64 0) := (blk_cell BK763.out 0).trans rfl; have hcz13_1 : w10.cell? ⟨gb763, 1, none⟩ = some (.slice none 0 0) := (blk_cell BK763.out 1).trans rfl; have hfz13_0 := blk_frozen BK763.out 0; have hfz13_1 := blk_frozen BK763.out 1))
  all_goals refine bodyPost_ret (results_cell_row rfl _ _ gb763 25 #[.int .i64 8, .slice Ao12 y780.length co12] (0, 0) _ rfl (by (with_reducible repeat (first | refine blk_drewN ?_ _ | refine blk_drew ?_ | refine blk_alloc ?_ _)); refine blk_put (cs := #[.int .i64 8, .slice none 0 0]) ?_ 1 _ rfl; (with_reducible repeat (first | refine blk_drewN ?_ _ | refine blk_drew ?_ | refine blk_alloc ?_ _)); refine blk_put (cs := #[.int .i64 0, .slice none 0 0]) ?_ 0 _ rfl; (with_reducible repeat (first | refine blk_drewN ?_ _ | refine blk_drew ?_ | refine blk_alloc ?_ _)); exact BK763.out) Try.underlying25 rfl (by kernel_rfl)) rfl ?_
  all_goals exact ⟨_, by first | rfl | (simp [errW_none, errW_some] <;> rfl) | (simp [*, errW_none, errW_some] <;> rfl), by (with_reducible repeat (first | apply Kd.R_alloc | apply Kd.R_drewN | apply Kd.R_drew)); exact Kd.R_mono (Kd.R_far (p := ⟨gb763, 1, none⟩) (Kd.R_far (p := ⟨gb763, 0, none⟩) (Kd.R_types HO782.out BK763.out (by decide)) (fun _ hk => hk.2) (.int .i64 8)) (fun _ hk => hk.2) (.slice Ao12 y780.length co12)) (fun _ hk => trivial), by repeat (first | (with_reducible first | exact HB.out | apply below_alloc | apply pw_below_drewN | apply below_drew1 | refine below_set ?_ GE763.out) | exact HB.out)⟩


end Go.Proofs.Ytmfbpkjhabdcgaa.F
end
section
-- Written by fork.py (this session's program over the kit's print.py). Not trusted: Lean checks it.
namespace Go.Proofs.Ytmfbpkjhabdcgaa.F
open Go.RowKit Go.Proofs.YtmfbpkjhabdcgaaW.PrintWords Go.Proofs.YtmfbpkjhabdcgaaW.PrintLast Go.Proofs.YtmfbpkjhabdcgaaW.PrintMore
attribute [local go_sem] max2_int min2_int max_two min_two max_three min_three max_four min_four
set_option linter.unusedVariables false
set_option linter.unusedSimpArgs false

attribute [local go_sem high] eqA29
/-! ### pick_of: function 160 -/
def pick_of.f (a0_0 : Int) (a0_1 : Int) (a0_2 : Int) (a0_3 : Int) : Option (Int × Int × Int) := some (a0_0, a0_1, a0_2)
set_option maxHeartbeats 8000000 in
set_option maxRecDepth 100000 in
theorem pick_of.calls (a0_0 : Int) (a0_1 : Int) (a0_2 : Int) (a0_3 : Int) (r1 : Int) (r2 : Int) (r3 : Int) (w : World) (h : pick_of.f a0_0 a0_1 a0_2 a0_3 = some (r1, r2, r3)) :
    Calls Try.prog 160 #[.agg #[.int .i64 a0_0, .int .i64 a0_1, .int .i64 a0_2, .int .i64 a0_3]] w fun e w' => e = .returned (.agg #[.int .i64 r1, .int .i64 r2, .int .i64 r3]) ∧ Below w.heap.size w w' := by
  have hu29 := Try.underlying29
  have hu157 := Try.underlying157
  have HB := Aside0.mk (Below.refl w.heap.size w)
  have H : (some (a0_0, a0_1, a0_2)) = some (r1, r2, r3) := h
  clear h
  simp only [Option.some.injEq, Prod.mk.injEq] at H
  obtain ⟨rfl, rfl, rfl⟩ := H
  go_enter Try.func160, Try.ntmps160
  go_wp2_with (first | ((with_reducible refine gate_dst (N := 1) rfl ?_); refine box_event ?hg (N := 1) ?hd (cs := #[.int .i64 a0_0, .int .i64 a0_1, .int .i64 a0_2, .int .i64 a0_3]) (t := 29) ?hr ?_; (case hd => rfl); (case hg => rfl); (case hr => first | (go_simp; done) | (go_simp; rfl)); intro gb1023 hg w2 hbox hb; have n0_ := Aside0.mk (below_step (by repeat (first | (with_reducible first | exact HB.out | apply below_alloc | apply pw_below_drewN | apply below_drew1) | exact HB.out)) hb); have n1_ := Aside0.mk (hbox); have n2_ := Aside0.mk ((by rw [hg]; exact (below_size (by repeat (first | (with_reducible first | exact HB.out | apply below_alloc | apply pw_below_drewN | apply below_drew1) | exact HB.out))) : w.heap.size ≤ gb1023)); have n3_ := Aside0.mk ((by rw [hg]; exact (below_size (by repeat (first | (with_reducible first | exact HB.out | apply below_alloc | apply pw_below_drewN | apply below_drew1) | exact HB.out))) : w.heap.size ≤ gb1023)); clear HB; have HB := n0_; have BK1023 := n1_; have GW1023 := n2_; have GE1023 := n3_; clear n0_ n1_ n2_ n3_; clear hb hbox hg) | ((with_reducible refine gate_dst (N := 2) rfl ?_); refine box_event ?hg (N := 2) ?hd (cs := #[.int .i64 0, .int .i64 0, .int .i64 0]) (t := 157) ?hr ?_; (case hd => rfl); (case hg => rfl); (case hr => first | (go_simp; done) | (go_simp; rfl)); intro gb1024 hg w3 hbox hb; have n0_ := Aside0.mk (blk_below (g := gb1023) (o := .cells #[.int .i64 a0_0, .int .i64 a0_1, .int .i64 a0_2, .int .i64 a0_3] 29 (0, 0)) (by (with_reducible repeat (first | refine blk_drewN ?_ _ | refine blk_drew ?_ | refine blk_alloc ?_ _)); exact BK1023.out) hb); have n1_ := Aside0.mk (below_step (by repeat (first | (with_reducible first | exact HB.out | apply below_alloc | apply pw_below_drewN | apply below_drew1 | refine below_set ?_ GE1023.out) | exact HB.out)) hb); have n2_ := Aside0.mk (hbox); have n3_ := Aside0.mk ((by rw [hg]; exact (below_size (by repeat (first | (with_reducible first | exact HB.out | apply below_alloc | apply pw_below_drewN | apply below_drew1 | refine below_set ?_ GE1023.out) | exact HB.out))) : w.heap.size ≤ gb1024)); have n4_ := Aside0.mk ((by rw [hg]; exact (below_size (by repeat (first | (with_reducible first | exact HB.out | apply below_alloc | apply pw_below_drewN | apply below_drew1 | refine below_set ?_ GE1023.out) | exact HB.out))) : w.heap.size ≤ gb1024)); have n5_ := Aside0.mk ((by rw [hg]; exact Nat.ne_of_lt (blk_lt (g := gb1023) (o := .cells #[.int .i64 a0_0, .int .i64 a0_1, .int .i64 a0_2, .int .i64 a0_3] 29 (0, 0)) (by (with_reducible repeat (first | refine blk_drewN ?_ _ | refine blk_drew ?_ | refine blk_alloc ?_ _)); exact BK1023.out)) : gb1023 ≠ gb1024)); have n6_ := Aside0.mk ((by rw [hg]; exact Nat.ne_of_gt (blk_lt (g := gb1023) (o := .cells #[.int .i64 a0_0, .int .i64 a0_1, .int .i64 a0_2, .int .i64 a0_3] 29 (0, 0)) (by (with_reducible repeat (first | refine blk_drewN ?_ _ | refine blk_drew ?_ | refine blk_alloc ?_ _)); exact BK1023.out)) : gb1024 ≠ gb1023)); clear BK1023; clear HB; have BK1023 := n0_; have HB := n1_; have BK1024 := n2_; have GW1024 := n3_; have GE1024 := n4_; have NB1023_1024 := n5_; have NB1024_1023 := n6_; clear n0_ n1_ n2_ n3_ n4_ n5_ n6_; clear hb hbox hg; have hnb4 := NB1023_1024.out; have hnc4 := NB1024_1023.out; have hcz5_0 : w3.cell? ⟨gb1023, 0, none⟩ = some (.int .i64 a0_0) := (blk_cell BK1023.out 0).trans rfl; have hcz5_1 : w3.cell? ⟨gb1023, 1, none⟩ = some (.int .i64 a0_1) := (blk_cell BK1023.out 1).trans rfl; have hcz5_2 : w3.cell? ⟨gb1023, 2, none⟩ = some (.int .i64 a0_2) := (blk_cell BK1023.out 2).trans rfl; have hcz5_3 : w3.cell? ⟨gb1023, 3, none⟩ = some (.int .i64 a0_3) := (blk_cell BK1023.out 3).trans rfl; have hfz5_0 := blk_frozen BK1023.out 0; have hfz5_1 := blk_frozen BK1023.out 1; have hfz5_2 := blk_frozen BK1023.out 2; have hfz5_3 := blk_frozen BK1023.out 3; have hcz6_0 : w3.cell? ⟨gb1024, 0, none⟩ = some (.int .i64 0) := (blk_cell BK1024.out 0).trans rfl; have hcz6_1 : w3.cell? ⟨gb1024, 1, none⟩ = some (.int .i64 0) := (blk_cell BK1024.out 1).trans rfl; have hcz6_2 : w3.cell? ⟨gb1024, 2, none⟩ = some (.int .i64 0) := (blk_cell BK1024.out 2).trans rfl; have hfz6_0 := blk_frozen BK1024.out 0; have hfz6_1 := blk_frozen BK1024.out 1; have hfz6_2 := blk_frozen BK1024.out 2))
  all_goals refine bodyPost_ret (results_cell_row rfl _ _ gb1024 157 #[.int .i64 a0_0, .int .i64 a0_1, .int .i64 a0_2] (0, 0) _ rfl (by (with_reducible repeat (first | refine blk_drewN ?_ _ | refine blk_drew ?_ | refine blk_alloc ?_ _)); refine blk_put (cs := #[.int .i64 a0_0, .int .i64 a0_1, .int .i64 0]) ?_ 2 _ rfl; (with_reducible repeat (first | refine blk_drewN ?_ _ | refine blk_drew ?_ | refine blk_alloc ?_ _)); refine blk_put (cs := #[.int .i64 a0_0, .int .i64 0, .int .i64 0]) ?_ 1 _ rfl; (with_reducible repeat (first | refine blk_drewN ?_ _ | refine blk_drew ?_ | refine blk_alloc ?_ _)); refine blk_put (cs := #[.int .i64 0, .int .i64 0, .int .i64 0]) ?_ 0 _ rfl; (with_reducible repeat (first | refine blk_drewN ?_ _ | refine blk_drew ?_ | refine blk_alloc ?_ _)); exact BK1024.out) Try.underlying157 rfl (by kernel_rfl)) rfl ?_
  all_goals exact ⟨by first | rfl | (simp [errW_none, errW_some] <;> rfl) | (simp [*, errW_none, errW_some] <;> rfl), by repeat (first | (with_reducible first | exact HB.out | apply below_alloc | apply pw_below_drewN | apply below_drew1 | refine below_set ?_ GE1023.out | refine below_set ?_ GE1024.out) | exact HB.out)⟩


end Go.Proofs.Ytmfbpkjhabdcgaa.F
end
section
namespace Go.Proofs.Ytmfbpkjhabdcgaa.F
open Go.RowKit Go.Proofs.YtmfbpkjhabdcgaaW.PrintWords Go.Proofs.YtmfbpkjhabdcgaaW.PrintLast Go.Proofs.YtmfbpkjhabdcgaaW.PrintMore
set_option linter.unusedVariables false
set_option linter.unusedSimpArgs false
def wfK (x : S29) : Bool := (Lit.int .i64 x.f0).wf && (Lit.int .i64 x.f1).wf && (Lit.int .i64 x.f2).wf
end Go.Proofs.Ytmfbpkjhabdcgaa.F
end
section
namespace Go.Proofs.Ytmfbpkjhabdcgaa.F
open Go.RowKit Go.Proofs.YtmfbpkjhabdcgaaW.PrintWords Go.Proofs.YtmfbpkjhabdcgaaW.PrintLast Go.Proofs.YtmfbpkjhabdcgaaW.PrintMore
set_option linter.unusedVariables false
set_option linter.unusedSimpArgs false
theorem wfK_of {y0 y1 y2 y3 : Int} (h : wfK ⟨y0, y1, y2, y3⟩ = true) : Wf3 y0 y1 y2 := by
  unfold wfK at h
  simp only [Bool.and_eq_true] at h
  exact ⟨h.1.1, h.1.2, h.2⟩
end Go.Proofs.Ytmfbpkjhabdcgaa.F
end
section
namespace Go.Proofs.Ytmfbpkjhabdcgaa.F
open Go.RowKit Go.Proofs.YtmfbpkjhabdcgaaW.PrintWords Go.Proofs.YtmfbpkjhabdcgaaW.PrintLast Go.Proofs.YtmfbpkjhabdcgaaW.PrintMore
set_option linter.unusedVariables false
set_option linter.unusedSimpArgs false
/-- The keys of the calls that are taken. -/
def takenRun : List S29 → List (Int × Int × Int) → Option (List (Int × Int × Int))
  | [], L => some L
  | x :: r, L => if wfK x = true then takenRun r ((x.f0, x.f1, x.f2) :: L) else none
end Go.Proofs.Ytmfbpkjhabdcgaa.F
end
section
namespace Go.Proofs.Ytmfbpkjhabdcgaa.F
open Go.RowKit Go.Proofs.YtmfbpkjhabdcgaaW.PrintWords Go.Proofs.YtmfbpkjhabdcgaaW.PrintLast Go.Proofs.YtmfbpkjhabdcgaaW.PrintMore
set_option linter.unusedVariables false
set_option linter.unusedSimpArgs false
/-- The loop over the table. -/
def hallRun (now cycle : Int) (K : List (Int × Int × Int)) : List S29 → S29 → Bool → Option (S29 × Bool)
  | [], f, s => some (f, s)
  | x :: r, f, s => if x.f0 = 3 then hallRun now cycle K r f s else if cycle ≤ wrap64 (now - x.f3) then some (x, true) else if wfK x = true then (if (x.f0, x.f1, x.f2) ∈ K then hallRun now cycle K r f s else if s = true then hallRun now cycle K r f s else hallRun now cycle K r x true) else none
end Go.Proofs.Ytmfbpkjhabdcgaa.F
end
section
namespace Go.Proofs.Ytmfbpkjhabdcgaa.F
open Go.RowKit Go.Proofs.YtmfbpkjhabdcgaaW.PrintWords Go.Proofs.YtmfbpkjhabdcgaaW.PrintLast Go.Proofs.YtmfbpkjhabdcgaaW.PrintMore
set_option linter.unusedVariables false
set_option linter.unusedSimpArgs false
def pick_byHall.f (a0_0 : Int) (l0_1 : List (S29)) (a1 : Int) (a2 : Int) (l3 : List (S29)) : Option (Int × Int × Int × Int × Bool) :=
  (takenRun l3 []).bind fun K => (hallRun a1 a2 K l0_1 ⟨0, 0, 0, 0⟩ false).bind fun q => some (q.1.f0, q.1.f1, q.1.f2, q.1.f3, q.2)
end Go.Proofs.Ytmfbpkjhabdcgaa.F
end
section
namespace Go.Proofs.Ytmfbpkjhabdcgaa.F
open Go.RowKit Go.Proofs.YtmfbpkjhabdcgaaW.PrintWords Go.Proofs.YtmfbpkjhabdcgaaW.PrintLast Go.Proofs.YtmfbpkjhabdcgaaW.PrintMore
set_option linter.unusedVariables false
set_option linter.unusedSimpArgs false
set_option maxHeartbeats 4000000 in
set_option maxRecDepth 100000 in
theorem pick_byHall.calls (a0_0 : Int) (A0_1 : Option Addr) (c0_1 : Nat) (l0_1 : List (S29)) (a1 : Int) (a2 : Int) (A3 : Option Addr) (c3 : Nat) (l3 : List (S29)) (r1 : Int) (r2 : Int) (r3 : Int) (r4 : Int) (r5 : Bool) (w : World) (hr0_1 : Kd.C k29 w A0_1 l0_1.length l0_1) (hc0_1 : l0_1.length ≤ c0_1) (hr3 : Kd.C k29 w A3 l3.length l3) (hc3 : l3.length ≤ c3) (h : pick_byHall.f a0_0 l0_1 a1 a2 l3 = some (r1, r2, r3, r4, r5)) :
    Calls Try.prog 149 #[.agg #[.int .i64 a0_0, .slice A0_1 l0_1.length c0_1], .int .i64 a1, .int .i64 a2, .slice A3 l3.length c3] w fun e w' => e = .returned (.tuple #[.agg #[.int .i64 r1, .int .i64 r2, .int .i64 r3, .int .i64 r4], .bool r5]) ∧ Below w.heap.size w w' := by
  have hu25 := Try.underlying25
  have hu29 := Try.underlying29
  have HC0 := Aside0.mk hr0_1
  have HC3 := Aside0.mk hr3
  have HL3 := Aside0.mk (C_len hr3).2
  have HL0 := Aside0.mk (C_len hr0_1).2
  clear hr0_1 hr3
  unfold pick_byHall.f at h
  obtain ⟨K, hK, h⟩ := Option.bind_eq_some_iff.mp h
  obtain ⟨⟨q, qb⟩, hq, h⟩ := Option.bind_eq_some_iff.mp h
  simp only [Option.some.injEq, Prod.mk.injEq] at h
  obtain ⟨rfl, rfl, rfl, rfl, rfl⟩ := h
  obtain ⟨r1, r2, r3, r4⟩ := q
  generalize qb = r5 at hq
  have HK0 := Aside0.mk hK
  have HQ0 := Aside0.mk hq
  clear hK hq
  have hmm := @run_makeMap Try.prog
  go_enter Try.func149, Try.ntmps149
  go_wp2_with (first | ((with_reducible refine gate_dst (N := 4) rfl ?_); refine box_event ?hg (N := 4) ?hd (cs := #[.int .i64 a0_0, .slice A0_1 l0_1.length c0_1]) (t := 25) ?hr ?_; (case hd => rfl); (case hg => rfl); (case hr => first | (go_simp; done) | (go_simp; rfl)); intro gt hg_ w1 hx_ hb_; have HB1 := Aside0.mk hb_; have HX1 := Aside0.mk hx_; clear hg_ hb_ hx_) | ((with_reducible refine gate_dst (N := 8) rfl ?_); refine box_event ?hg (N := 8) ?hd (cs := #[.int .i64 0, .int .i64 0, .int .i64 0, .int .i64 0]) (t := 29) ?hr ?_; (case hd => rfl); (case hg => rfl); (case hr => first | (go_simp; done) | (go_simp; rfl)); intro g8 hg_ w2 hx_ hb_; have HB2 := Aside0.mk (below_then HB1.out HB1.out.size hb_); have H82 := Aside0.mk hx_; have HX2 := Aside0.mk (blk_below HX1.out hb_); have HG8 := Aside0.mk (show w.heap.size ≤ g8 by rw [hg_]; exact HB1.out.size); have HN48 := Aside0.mk (show gt ≠ g8 by rw [hg_]; exact Nat.ne_of_lt (blk_lt HX1.out)); clear hg_ hb_ hx_))
  have HS0 := Aside0.mk (seenP_made w2)
  have HX3 := Aside0.mk (blk_alloc HX2.out (.map #[] 0))
  have H83 := Aside0.mk (blk_alloc H82.out (.map #[] 0))
  have HB3 := Aside0.mk (HB2.out.alloc HB2.out.size (.map #[] 0))
  have HM := Aside0.mk (HB2.out.size)
  have HGM := Aside0.mk (show gt ≠ w2.heap.size from Nat.ne_of_lt (blk_lt HX2.out))
  have H8M := Aside0.mk (show g8 ≠ w2.heap.size from Nat.ne_of_lt (blk_lt H82.out))
  obtain ⟨mb, hmb⟩ : ∃ mb, mb = w2.heap.size := ⟨_, rfl⟩
  rw [← hmb] at HS0 HM HGM H8M ⊢
  generalize w2.alloc (.map #[] 0) = w3 at HS0 HX3 H83 HB3 ⊢
  clear HB1 HX1 HB2 HX2 H82 hmb hmm
  go_loopg [22] l3.length (fun gg v22 wr => ∃ (i : Nat) (L : List (Int × Int × Int)), v22 = .int .i64 i ∧ i ≤ l3.length ∧ l3.length - i ≤ gg ∧ L.length ≤ i ∧ Aside0 (takenRun (l3.drop i) L = some K) ∧ Aside0 (SeenP wr mb L) ∧ Aside0 (wr.heap[gt]? = some (.cells #[.int .i64 a0_0, .slice A0_1 l0_1.length c0_1] 25 (0, 0))) ∧ Aside0 (wr.heap[g8]? = some (.cells #[.int .i64 0, .int .i64 0, .int .i64 0, .int .i64 0] 29 (0, 0))) ∧ Aside0 (Below w.heap.size w wr))
  case atStart => exact ⟨0, [], by go_num, Nat.zero_le _, by omega, Nat.le_refl _, HK0, HS0, HX3, H83, HB3⟩
  case round =>
    obtain ⟨i, L, rfl, hi, hgg, hLi, HR, HS, HX, H8, HB⟩ := hrel
    clear HK0 HS0 HX3 H83 HB3
    by_cases hlt : i < l3.length
    · have hltz : (i : Int) < (l3.length : Int) := by omega
      obtain ⟨ad, hA, q0, q1, q2, q3⟩ := at_T29 (Kd.C_below HC3.out HB.out) i (by omega) hltz
      subst hA
      simp only [Int.toNat_natCast] at q0 q1 q2 q3
      have H := HR.out
      rw [List.drop_eq_getElem_cons hlt, takenRun] at H
      have hel : l3[i] = rd_T29 l3 (i : Int) := by simp [rd_T29, List.getD_eq_getElem?_getD, List.getElem?_eq_getElem hlt]
      rw [hel] at H
      obtain ⟨y0, y1, y2, y3, hy⟩ : ∃ y0 y1 y2 y3, rd_T29 l3 (i : Int) = ⟨y0, y1, y2, y3⟩ := ⟨_, _, _, _, rfl⟩
      rw [hy] at q0 q1 q2 q3 H
      split at H
      case isFalse => cases H
      case isTrue hwf =>
      have hw3 : Wf3 y0 y1 y2 := wfK_of hwf
      have HH := Aside0.mk H
      have hLm : L.length < maxLen := by have := HL3.out; unfold maxLen; omega
      clear H hel hy HR hwf
      have hltd : decide ((i : Int) < (l3.length : Int)) = true := decide_eq_true hltz
      go_wp2_with (first | ((with_reducible refine gate_dst (N := 12) rfl ?_); refine box_event ?hg (N := 12) ?hd (cs := #[.int .i64 0, .int .i64 0, .int .i64 0, .int .i64 0]) (t := 29) ?hr ?_; (case hd => rfl); (case hg => rfl); (case hr => first | (go_simp; done) | (go_simp; rfl)); intro g12 hg_ wa hx_ hb_; have HBa := Aside0.mk (below_then HB.out HB.out.size hb_); have HKa := Aside0.mk hx_; have HXa := Aside0.mk (blk_below HX.out hb_); have H8a := Aside0.mk (blk_below H8.out hb_); have HSa := Aside0.mk (HS.out.kept (grown_of_below hb_ none) (fun e => by cases e)); have HG12 := Aside0.mk (show w.heap.size ≤ g12 by rw [hg_]; exact HB.out.size); have HNx := Aside0.mk (show gt ≠ g12 by rw [hg_]; exact Nat.ne_of_lt (blk_lt HX.out)); have HN8 := Aside0.mk (show g8 ≠ g12 by rw [hg_]; exact Nat.ne_of_lt (blk_lt H8.out)); have HNm := Aside0.mk (show mb ≠ g12 by rw [hg_]; exact Nat.ne_of_lt (seenP_lt HS.out)); clear hg_ hb_ hx_) | ((with_reducible refine gate_store (t := 29) (p := 12) (v := .tmp 25) rfl ?_); refine box_store rfl rfl 29 (.tmp 12) (.tmp 25) rfl [.int .i64 y0, .int .i64 y1, .int .i64 y2, .int .i64 y3] _ rfl rfl rfl (by rfl) (by simp [Value.oneCell']) HKa.out rfl ?_; intro wb hbk hgb hszb; have HKb := Aside0.mk hbk; have HBb := Aside0.mk (HBa.out.grown hgb HBa.out.size (fun k hk => by have := HG12.out; have h9 := Option.some.inj hk; omega)); have HXb := Aside0.mk ((hgb.block gt (blk_lt HXa.out) (fun e => HNx.out (Option.some.inj e))).trans HXa.out); have H8b := Aside0.mk ((hgb.block g8 (blk_lt H8a.out) (fun e => HN8.out (Option.some.inj e))).trans H8a.out); have HSb := Aside0.mk (HSa.out.kept hgb (fun e => HNm.out (Option.some.inj e))); have k0 := (blk_cell hbk 0).trans rfl; have k1 := (blk_cell hbk 1).trans rfl; have k2 := (blk_cell hbk 2).trans rfl; have k3 := (blk_cell hbk 3).trans rfl; clear hbk hgb hszb) | (go_at_call 160; refine (pick_of.calls _ _ _ _ _ _ _ _ rfl).mono ?_; rintro e wc ⟨rfl, hb_⟩; have HBc := Aside0.mk (below_then HBb.out HBb.out.size hb_); have HXc := Aside0.mk (blk_below HXb.out hb_); have H8c := Aside0.mk (blk_below H8b.out hb_); have HSc := Aside0.mk (HSb.out.kept (grown_of_below hb_ none) (fun e => by cases e)); clear hb_) | (at_mapUpdate; refine wpList_seenP_put _ rfl _ _ _ rfl mb L HSc.out y0 y1 y2 hw3 hLm rfl rfl rfl ?_; intro wd hs_ hgd; have HSd := Aside0.mk hs_; have HXd := Aside0.mk ((hgd.block gt (blk_lt HXc.out) (fun e => HGM.out (Option.some.inj e))).trans HXc.out); have H8d := Aside0.mk ((hgd.block g8 (blk_lt H8c.out) (fun e => H8M.out (Option.some.inj e))).trans H8c.out); have HBd := Aside0.mk (HBc.out.grown hgd HBc.out.size (fun k hk => by have := HM.out; have h9 := Option.some.inj hk; omega)); clear hs_ hgd))
      have hl3 := HL3.out
      go_roundg (l3.length - (i + 1))
      · exact ⟨i + 1, (y0, y1, y2) :: L, congrArg (Value.int .i64) (by (try rw [i64_w]); unfold wrap64; omega), by omega, Nat.le_refl _, by simp; omega, HH, HSd, HXd, H8d, HBd⟩
      · omega
    · have hltz : ¬ (i : Int) < (l3.length : Int) := by omega
      have H := HR.out
      rw [List.drop_eq_nil_iff.2 (by omega), takenRun] at H
      obtain rfl : K = L := (Option.some.inj H).symm
      have hltd : decide ((i : Int) < (l3.length : Int)) = false := decide_eq_false hltz
      clear HR H hLi
      go_wp2_with (first | ((with_reducible refine gate_dst (N := 13) rfl ?_); refine box_event ?hg (N := 13) ?hd (cs := #[.int .i64 0, .int .i64 0, .int .i64 0, .int .i64 0]) (t := 29) ?hr ?_; (case hd => rfl); (case hg => rfl); (case hr => first | (go_simp; done) | (go_simp; rfl)); intro g13 hg_ we hx_ hb_; have HBe := Aside0.mk (below_then HB.out HB.out.size hb_); have HFe := Aside0.mk hx_; have HXe := Aside0.mk (blk_below HX.out hb_); have H8e := Aside0.mk (blk_below H8.out hb_); have HSe := Aside0.mk (HS.out.kept (grown_of_below hb_ none) (fun e => by cases e)); have HG13 := Aside0.mk (show w.heap.size ≤ g13 by rw [hg_]; exact HB.out.size); have HNx13 := Aside0.mk (show gt ≠ g13 by rw [hg_]; exact Nat.ne_of_lt (blk_lt HX.out)); have HN813 := Aside0.mk (show g8 ≠ g13 by rw [hg_]; exact Nat.ne_of_lt (blk_lt H8.out)); have HNm13 := Aside0.mk (show mb ≠ g13 by rw [hg_]; exact Nat.ne_of_lt (seenP_lt HS.out)); have ra := (blk_cell HXe.out 0).trans rfl; have rb := (blk_cell HXe.out 1).trans rfl; clear hg_ hb_ hx_))
      go_loopg [14, 33] l0_1.length (fun gg v14 v33 wr => ∃ (j : Nat) (f0 f1 f2 f3 : Int) (s : Bool), v33 = .int .i64 j ∧ v14 = .bool s ∧ j ≤ l0_1.length ∧ l0_1.length - j ≤ gg ∧ Aside0 (hallRun a1 a2 K (l0_1.drop j) ⟨f0, f1, f2, f3⟩ s = some (⟨r1, r2, r3, r4⟩, r5)) ∧ Aside0 (SeenP wr mb K) ∧ Aside0 (wr.heap[gt]? = some (.cells #[.int .i64 a0_0, .slice A0_1 l0_1.length c0_1] 25 (0, 0))) ∧ Aside0 (wr.heap[g8]? = some (.cells #[.int .i64 0, .int .i64 0, .int .i64 0, .int .i64 0] 29 (0, 0))) ∧ Aside0 (wr.heap[g13]? = some (.cells #[.int .i64 f0, .int .i64 f1, .int .i64 f2, .int .i64 f3] 29 (0, 0))) ∧ Aside0 (Below w.heap.size w wr))
      case atStart => exact ⟨0, 0, 0, 0, 0, false, by go_num, rfl, Nat.zero_le _, by omega, HQ0, HSe, HXe, H8e, HFe, HBe⟩
      case round =>
        obtain ⟨j, f0, f1, f2, f3, s, rfl, rfl, hj, hgg2, HR, HS', HX', H8', HF, HB'⟩ := hrel
        clear HQ0 HS HX H8 HB HSe HXe H8e HFe HBe
        have HS := HS'
        have HX := HX'
        have H8 := H8'
        have HB := HB'
        clear HS' HX' H8' HB'
        by_cases hlt2 : j < l0_1.length
        · have hltz2 : (j : Int) < (l0_1.length : Int) := by omega
          obtain ⟨ad, hA, q0, q1, q2, q3⟩ := at_T29 (Kd.C_below HC0.out HB.out) j (by omega) hltz2
          subst hA
          simp only [Int.toNat_natCast] at q0 q1 q2 q3
          have H := HR.out
          rw [List.drop_eq_getElem_cons hlt2, hallRun] at H
          have hel : l0_1[j] = rd_T29 l0_1 (j : Int) := by simp [rd_T29, List.getD_eq_getElem?_getD, List.getElem?_eq_getElem hlt2]
          rw [hel] at H
          obtain ⟨y0, y1, y2, y3, hy⟩ : ∃ y0 y1 y2 y3, rd_T29 l0_1 (j : Int) = ⟨y0, y1, y2, y3⟩ := ⟨_, _, _, _, rfl⟩
          rw [hy] at q0 q1 q2 q3 H
          clear hel hy HR
          have hltd2 : decide ((j : Int) < (l0_1.length : Int)) = true := decide_eq_true hltz2
          by_cases h3 : y0 = 3
          · rw [if_pos h3] at H
            have d0 : (y0 != 3) = false := bne_eq_false_iff_eq.mpr h3
            have HH := Aside0.mk H
            clear H h3
            go_wp2_with (first | ((with_reducible refine gate_dst (N := 16) rfl ?_); refine box_event ?hg (N := 16) ?hd (cs := #[.int .i64 0, .int .i64 0, .int .i64 0, .int .i64 0]) (t := 29) ?hr ?_; (case hd => rfl); (case hg => rfl); (case hr => first | (go_simp; done) | (go_simp; rfl)); intro g16 hg_ wa hx_ hb_; have HBa := Aside0.mk (below_then HB.out HB.out.size hb_); have HKa := Aside0.mk hx_; have HXa := Aside0.mk (blk_below HX.out hb_); have H8a := Aside0.mk (blk_below H8.out hb_); have HFa := Aside0.mk (blk_below HF.out hb_); have HSa := Aside0.mk (HS.out.kept (grown_of_below hb_ none) (fun e => by cases e)); have HG16 := Aside0.mk (show w.heap.size ≤ g16 by rw [hg_]; exact HB.out.size); have HNx := Aside0.mk (show gt ≠ g16 by rw [hg_]; exact Nat.ne_of_lt (blk_lt HX.out)); have HN8 := Aside0.mk (show g8 ≠ g16 by rw [hg_]; exact Nat.ne_of_lt (blk_lt H8.out)); have HN13 := Aside0.mk (show g13 ≠ g16 by rw [hg_]; exact Nat.ne_of_lt (blk_lt HF.out)); have HNm := Aside0.mk (show mb ≠ g16 by rw [hg_]; exact Nat.ne_of_lt (seenP_lt HS.out)); clear hg_ hb_ hx_) | ((with_reducible refine gate_store (t := 29) (p := 16) (v := .tmp 36) rfl ?_); refine box_store rfl rfl 29 (.tmp 16) (.tmp 36) rfl [.int .i64 y0, .int .i64 y1, .int .i64 y2, .int .i64 y3] _ rfl rfl rfl (by rfl) (by simp [Value.oneCell']) HKa.out rfl ?_; intro wb hbk hgb hszb; have HKb := Aside0.mk hbk; have HBb := Aside0.mk (HBa.out.grown hgb HBa.out.size (fun k hk => by have := HG16.out; have h9 := Option.some.inj hk; omega)); have HXb := Aside0.mk ((hgb.block gt (blk_lt HXa.out) (fun e => HNx.out (Option.some.inj e))).trans HXa.out); have H8b := Aside0.mk ((hgb.block g8 (blk_lt H8a.out) (fun e => HN8.out (Option.some.inj e))).trans H8a.out); have HFb := Aside0.mk ((hgb.block g13 (blk_lt HFa.out) (fun e => HN13.out (Option.some.inj e))).trans HFa.out); have HSb := Aside0.mk (HSa.out.kept hgb (fun e => HNm.out (Option.some.inj e))); have k0 := (blk_cell hbk 0).trans rfl; have k1 := (blk_cell hbk 1).trans rfl; have k2 := (blk_cell hbk 2).trans rfl; have k3 := (blk_cell hbk 3).trans rfl; clear hbk hgb hszb) | (go_at_call 199; refine (pick_hall.calls _ _ _ _ _ _ rfl).mono ?_; rintro e wc ⟨rfl, hb_⟩; have HBc := Aside0.mk (below_then HBb.out HBb.out.size hb_); have HXc := Aside0.mk (blk_below HXb.out hb_); have H8c := Aside0.mk (blk_below H8b.out hb_); have HFc := Aside0.mk (blk_below HFb.out hb_); have HKc := Aside0.mk (blk_below HKb.out hb_); have HSc := Aside0.mk (HSb.out.kept (grown_of_below hb_ none) (fun e => by cases e)); have u0 := (blk_cell HKc.out 0).trans rfl; have u1 := (blk_cell HKc.out 1).trans rfl; have u2 := (blk_cell HKc.out 2).trans rfl; have u3 := (blk_cell HKc.out 3).trans rfl; clear hb_))
            have hl0 := HL0.out
            go_roundg (l0_1.length - (j + 1))
            · exact ⟨j + 1, f0, f1, f2, f3, s, congrArg (Value.int .i64) (by (try rw [i64_w]); unfold wrap64; omega), rfl, by omega, Nat.le_refl _, HH, HSc, HXc, H8c, HFc, HBc⟩
            · omega
          · rw [if_neg h3] at H
            have d0 : (y0 != 3) = true := bne_iff_ne.mpr h3
            clear h3
            rw [← i64_w] at H
            generalize hz : IntKind.i64.wrap (a1 - y3) = z at H
            by_cases hc : a2 ≤ z
            · rw [if_pos hc] at H
              have d1 : decide (a2 ≤ z) = true := decide_eq_true hc
              simp only [Option.some.injEq, Prod.mk.injEq, S29.mk.injEq] at H
              obtain ⟨⟨rfl, rfl, rfl, rfl⟩, rfl⟩ := H
              clear hc
              go_wp2_with (first | ((with_reducible refine gate_dst (N := 16) rfl ?_); refine box_event ?hg (N := 16) ?hd (cs := #[.int .i64 0, .int .i64 0, .int .i64 0, .int .i64 0]) (t := 29) ?hr ?_; (case hd => rfl); (case hg => rfl); (case hr => first | (go_simp; done) | (go_simp; rfl)); intro g16 hg_ wa hx_ hb_; have HBa := Aside0.mk (below_then HB.out HB.out.size hb_); have HKa := Aside0.mk hx_; have HXa := Aside0.mk (blk_below HX.out hb_); have H8a := Aside0.mk (blk_below H8.out hb_); have HFa := Aside0.mk (blk_below HF.out hb_); have HSa := Aside0.mk (HS.out.kept (grown_of_below hb_ none) (fun e => by cases e)); have HG16 := Aside0.mk (show w.heap.size ≤ g16 by rw [hg_]; exact HB.out.size); have HNx := Aside0.mk (show gt ≠ g16 by rw [hg_]; exact Nat.ne_of_lt (blk_lt HX.out)); have HN8 := Aside0.mk (show g8 ≠ g16 by rw [hg_]; exact Nat.ne_of_lt (blk_lt H8.out)); have HN13 := Aside0.mk (show g13 ≠ g16 by rw [hg_]; exact Nat.ne_of_lt (blk_lt HF.out)); have HNm := Aside0.mk (show mb ≠ g16 by rw [hg_]; exact Nat.ne_of_lt (seenP_lt HS.out)); clear hg_ hb_ hx_) | ((with_reducible refine gate_store (t := 29) (p := 16) (v := .tmp 36) rfl ?_); refine box_store rfl rfl 29 (.tmp 16) (.tmp 36) rfl [.int .i64 y0, .int .i64 y1, .int .i64 y2, .int .i64 y3] _ rfl rfl rfl (by rfl) (by simp [Value.oneCell']) HKa.out rfl ?_; intro wb hbk hgb hszb; have HKb := Aside0.mk hbk; have HBb := Aside0.mk (HBa.out.grown hgb HBa.out.size (fun k hk => by have := HG16.out; have h9 := Option.some.inj hk; omega)); have HXb := Aside0.mk ((hgb.block gt (blk_lt HXa.out) (fun e => HNx.out (Option.some.inj e))).trans HXa.out); have H8b := Aside0.mk ((hgb.block g8 (blk_lt H8a.out) (fun e => HN8.out (Option.some.inj e))).trans H8a.out); have HFb := Aside0.mk ((hgb.block g13 (blk_lt HFa.out) (fun e => HN13.out (Option.some.inj e))).trans HFa.out); have HSb := Aside0.mk (HSa.out.kept hgb (fun e => HNm.out (Option.some.inj e))); have k0 := (blk_cell hbk 0).trans rfl; have k1 := (blk_cell hbk 1).trans rfl; have k2 := (blk_cell hbk 2).trans rfl; have k3 := (blk_cell hbk 3).trans rfl; clear hbk hgb hszb) | (go_at_call 199; refine (pick_hall.calls _ _ _ _ _ _ rfl).mono ?_; rintro e wc ⟨rfl, hb_⟩; have HBc := Aside0.mk (below_then HBb.out HBb.out.size hb_); have HXc := Aside0.mk (blk_below HXb.out hb_); have H8c := Aside0.mk (blk_below H8b.out hb_); have HFc := Aside0.mk (blk_below HFb.out hb_); have HKc := Aside0.mk (blk_below HKb.out hb_); have HSc := Aside0.mk (HSb.out.kept (grown_of_below hb_ none) (fun e => by cases e)); have u0 := (blk_cell HKc.out 0).trans rfl; have u1 := (blk_cell HKc.out 1).trans rfl; have u2 := (blk_cell HKc.out 2).trans rfl; have u3 := (blk_cell HKc.out 3).trans rfl; clear hb_) | ((with_reducible refine gate_store (t := 29) (p := 8) (v := .tmp 46) rfl ?_); refine box_store rfl rfl 29 (.tmp 8) (.tmp 46) rfl [.int .i64 y0, .int .i64 y1, .int .i64 y2, .int .i64 y3] _ rfl rfl rfl (by rfl) (by simp [Value.oneCell']) H8c.out rfl ?_; intro wz hbk hgz hszz; have H8z := Aside0.mk hbk; have HBz := Aside0.mk (HBc.out.grown hgz HBc.out.size (fun k hk => by have := HG8.out; have h9 := Option.some.inj hk; omega)); clear hbk hgz hszz))
              refine bodyPost_ret (results_ct rfl _ _ g8 29 #[.int .i64 y0, .int .i64 y1, .int .i64 y2, .int .i64 y3] (0, 0) _ rfl H8z.out Try.underlying29 rfl (by kernel_rfl)) rfl ?_
              exact ⟨rfl, HBz.out⟩
            · rw [if_neg hc] at H
              have d1 : decide (a2 ≤ z) = false := decide_eq_false hc
              clear hc
              split at H
              case isFalse => cases H
              case isTrue hwf =>
              have hw3 : Wf3 y0 y1 y2 := wfK_of hwf
              clear hwf
              by_cases hm : (y0, y1, y2) ∈ K
              · rw [if_pos hm] at H
                have dm : decide ((y0, y1, y2) ∈ K) = true := decide_eq_true hm
                have HH := Aside0.mk H
                clear H hm
                go_wp2_with (first | ((with_reducible refine gate_dst (N := 16) rfl ?_); refine box_event ?hg (N := 16) ?hd (cs := #[.int .i64 0, .int .i64 0, .int .i64 0, .int .i64 0]) (t := 29) ?hr ?_; (case hd => rfl); (case hg => rfl); (case hr => first | (go_simp; done) | (go_simp; rfl)); intro g16 hg_ wa hx_ hb_; have HBa := Aside0.mk (below_then HB.out HB.out.size hb_); have HKa := Aside0.mk hx_; have HXa := Aside0.mk (blk_below HX.out hb_); have H8a := Aside0.mk (blk_below H8.out hb_); have HFa := Aside0.mk (blk_below HF.out hb_); have HSa := Aside0.mk (HS.out.kept (grown_of_below hb_ none) (fun e => by cases e)); have HG16 := Aside0.mk (show w.heap.size ≤ g16 by rw [hg_]; exact HB.out.size); have HNx := Aside0.mk (show gt ≠ g16 by rw [hg_]; exact Nat.ne_of_lt (blk_lt HX.out)); have HN8 := Aside0.mk (show g8 ≠ g16 by rw [hg_]; exact Nat.ne_of_lt (blk_lt H8.out)); have HN13 := Aside0.mk (show g13 ≠ g16 by rw [hg_]; exact Nat.ne_of_lt (blk_lt HF.out)); have HNm := Aside0.mk (show mb ≠ g16 by rw [hg_]; exact Nat.ne_of_lt (seenP_lt HS.out)); clear hg_ hb_ hx_) | ((with_reducible refine gate_store (t := 29) (p := 16) (v := .tmp 36) rfl ?_); refine box_store rfl rfl 29 (.tmp 16) (.tmp 36) rfl [.int .i64 y0, .int .i64 y1, .int .i64 y2, .int .i64 y3] _ rfl rfl rfl (by rfl) (by simp [Value.oneCell']) HKa.out rfl ?_; intro wb hbk hgb hszb; have HKb := Aside0.mk hbk; have HBb := Aside0.mk (HBa.out.grown hgb HBa.out.size (fun k hk => by have := HG16.out; have h9 := Option.some.inj hk; omega)); have HXb := Aside0.mk ((hgb.block gt (blk_lt HXa.out) (fun e => HNx.out (Option.some.inj e))).trans HXa.out); have H8b := Aside0.mk ((hgb.block g8 (blk_lt H8a.out) (fun e => HN8.out (Option.some.inj e))).trans H8a.out); have HFb := Aside0.mk ((hgb.block g13 (blk_lt HFa.out) (fun e => HN13.out (Option.some.inj e))).trans HFa.out); have HSb := Aside0.mk (HSa.out.kept hgb (fun e => HNm.out (Option.some.inj e))); have k0 := (blk_cell hbk 0).trans rfl; have k1 := (blk_cell hbk 1).trans rfl; have k2 := (blk_cell hbk 2).trans rfl; have k3 := (blk_cell hbk 3).trans rfl; clear hbk hgb hszb) | (go_at_call 199; refine (pick_hall.calls _ _ _ _ _ _ rfl).mono ?_; rintro e wc ⟨rfl, hb_⟩; have HBc := Aside0.mk (below_then HBb.out HBb.out.size hb_); have HXc := Aside0.mk (blk_below HXb.out hb_); have H8c := Aside0.mk (blk_below H8b.out hb_); have HFc := Aside0.mk (blk_below HFb.out hb_); have HKc := Aside0.mk (blk_below HKb.out hb_); have HSc := Aside0.mk (HSb.out.kept (grown_of_below hb_ none) (fun e => by cases e)); have u0 := (blk_cell HKc.out 0).trans rfl; have u1 := (blk_cell HKc.out 1).trans rfl; have u2 := (blk_cell HKc.out 2).trans rfl; have u3 := (blk_cell HKc.out 3).trans rfl; clear hb_) | (go_at_call 160; refine (pick_of.calls _ _ _ _ _ _ _ _ rfl).mono ?_; rintro e wd ⟨rfl, hb_⟩; have HBd := Aside0.mk (below_then HBc.out HBc.out.size hb_); have HXd := Aside0.mk (blk_below HXc.out hb_); have H8d := Aside0.mk (blk_below H8c.out hb_); have HFd := Aside0.mk (blk_below HFc.out hb_); have HKd := Aside0.mk (blk_below HKc.out hb_); have HSd := Aside0.mk (HSc.out.kept (grown_of_below hb_ none) (fun e => by cases e)); have v0 := (blk_cell HKd.out 0).trans rfl; have v1 := (blk_cell HKd.out 1).trans rfl; have v2 := (blk_cell HKd.out 2).trans rfl; have v3 := (blk_cell HKd.out 3).trans rfl; have hlk := (seenP_look_ok HSd.out hw3 (Try.zeroValue4 _)).trans (by rw [dm]); clear hb_))
                have hl0 := HL0.out
                go_roundg (l0_1.length - (j + 1))
                · exact ⟨j + 1, f0, f1, f2, f3, s, congrArg (Value.int .i64) (by (try rw [i64_w]); unfold wrap64; omega), rfl, by omega, Nat.le_refl _, HH, HSd, HXd, H8d, HFd, HBd⟩
                · omega
              · rw [if_neg hm] at H
                have dm : decide ((y0, y1, y2) ∈ K) = false := decide_eq_false hm
                clear hm
                by_cases hs : s = true
                · rw [if_pos hs] at H
                  subst hs
                  have HH := Aside0.mk H
                  clear H
                  go_wp2_with (first | ((with_reducible refine gate_dst (N := 16) rfl ?_); refine box_event ?hg (N := 16) ?hd (cs := #[.int .i64 0, .int .i64 0, .int .i64 0, .int .i64 0]) (t := 29) ?hr ?_; (case hd => rfl); (case hg => rfl); (case hr => first | (go_simp; done) | (go_simp; rfl)); intro g16 hg_ wa hx_ hb_; have HBa := Aside0.mk (below_then HB.out HB.out.size hb_); have HKa := Aside0.mk hx_; have HXa := Aside0.mk (blk_below HX.out hb_); have H8a := Aside0.mk (blk_below H8.out hb_); have HFa := Aside0.mk (blk_below HF.out hb_); have HSa := Aside0.mk (HS.out.kept (grown_of_below hb_ none) (fun e => by cases e)); have HG16 := Aside0.mk (show w.heap.size ≤ g16 by rw [hg_]; exact HB.out.size); have HNx := Aside0.mk (show gt ≠ g16 by rw [hg_]; exact Nat.ne_of_lt (blk_lt HX.out)); have HN8 := Aside0.mk (show g8 ≠ g16 by rw [hg_]; exact Nat.ne_of_lt (blk_lt H8.out)); have HN13 := Aside0.mk (show g13 ≠ g16 by rw [hg_]; exact Nat.ne_of_lt (blk_lt HF.out)); have HNm := Aside0.mk (show mb ≠ g16 by rw [hg_]; exact Nat.ne_of_lt (seenP_lt HS.out)); clear hg_ hb_ hx_) | ((with_reducible refine gate_store (t := 29) (p := 16) (v := .tmp 36) rfl ?_); refine box_store rfl rfl 29 (.tmp 16) (.tmp 36) rfl [.int .i64 y0, .int .i64 y1, .int .i64 y2, .int .i64 y3] _ rfl rfl rfl (by rfl) (by simp [Value.oneCell']) HKa.out rfl ?_; intro wb hbk hgb hszb; have HKb := Aside0.mk hbk; have HBb := Aside0.mk (HBa.out.grown hgb HBa.out.size (fun k hk => by have := HG16.out; have h9 := Option.some.inj hk; omega)); have HXb := Aside0.mk ((hgb.block gt (blk_lt HXa.out) (fun e => HNx.out (Option.some.inj e))).trans HXa.out); have H8b := Aside0.mk ((hgb.block g8 (blk_lt H8a.out) (fun e => HN8.out (Option.some.inj e))).trans H8a.out); have HFb := Aside0.mk ((hgb.block g13 (blk_lt HFa.out) (fun e => HN13.out (Option.some.inj e))).trans HFa.out); have HSb := Aside0.mk (HSa.out.kept hgb (fun e => HNm.out (Option.some.inj e))); have k0 := (blk_cell hbk 0).trans rfl; have k1 := (blk_cell hbk 1).trans rfl; have k2 := (blk_cell hbk 2).trans rfl; have k3 := (blk_cell hbk 3).trans rfl; clear hbk hgb hszb) | (go_at_call 199; refine (pick_hall.calls _ _ _ _ _ _ rfl).mono ?_; rintro e wc ⟨rfl, hb_⟩; have HBc := Aside0.mk (below_then HBb.out HBb.out.size hb_); have HXc := Aside0.mk (blk_below HXb.out hb_); have H8c := Aside0.mk (blk_below H8b.out hb_); have HFc := Aside0.mk (blk_below HFb.out hb_); have HKc := Aside0.mk (blk_below HKb.out hb_); have HSc := Aside0.mk (HSb.out.kept (grown_of_below hb_ none) (fun e => by cases e)); have u0 := (blk_cell HKc.out 0).trans rfl; have u1 := (blk_cell HKc.out 1).trans rfl; have u2 := (blk_cell HKc.out 2).trans rfl; have u3 := (blk_cell HKc.out 3).trans rfl; clear hb_) | (go_at_call 160; refine (pick_of.calls _ _ _ _ _ _ _ _ rfl).mono ?_; rintro e wd ⟨rfl, hb_⟩; have HBd := Aside0.mk (below_then HBc.out HBc.out.size hb_); have HXd := Aside0.mk (blk_below HXc.out hb_); have H8d := Aside0.mk (blk_below H8c.out hb_); have HFd := Aside0.mk (blk_below HFc.out hb_); have HKd := Aside0.mk (blk_below HKc.out hb_); have HSd := Aside0.mk (HSc.out.kept (grown_of_below hb_ none) (fun e => by cases e)); have v0 := (blk_cell HKd.out 0).trans rfl; have v1 := (blk_cell HKd.out 1).trans rfl; have v2 := (blk_cell HKd.out 2).trans rfl; have v3 := (blk_cell HKd.out 3).trans rfl; have hlk := (seenP_look_ok HSd.out hw3 (Try.zeroValue4 _)).trans (by rw [dm]); clear hb_))
                  have hl0 := HL0.out
                  go_roundg (l0_1.length - (j + 1))
                  · exact ⟨j + 1, f0, f1, f2, f3, true, congrArg (Value.int .i64) (by (try rw [i64_w]); unfold wrap64; omega), rfl, by omega, Nat.le_refl _, HH, HSd, HXd, H8d, HFd, HBd⟩
                  · omega
                · rw [if_neg hs] at H
                  have hs' : s = false := by simpa using hs
                  subst hs'
                  have HH := Aside0.mk H
                  clear H hs
                  go_wp2_with (first | ((with_reducible refine gate_dst (N := 16) rfl ?_); refine box_event ?hg (N := 16) ?hd (cs := #[.int .i64 0, .int .i64 0, .int .i64 0, .int .i64 0]) (t := 29) ?hr ?_; (case hd => rfl); (case hg => rfl); (case hr => first | (go_simp; done) | (go_simp; rfl)); intro g16 hg_ wa hx_ hb_; have HBa := Aside0.mk (below_then HB.out HB.out.size hb_); have HKa := Aside0.mk hx_; have HXa := Aside0.mk (blk_below HX.out hb_); have H8a := Aside0.mk (blk_below H8.out hb_); have HFa := Aside0.mk (blk_below HF.out hb_); have HSa := Aside0.mk (HS.out.kept (grown_of_below hb_ none) (fun e => by cases e)); have HG16 := Aside0.mk (show w.heap.size ≤ g16 by rw [hg_]; exact HB.out.size); have HNx := Aside0.mk (show gt ≠ g16 by rw [hg_]; exact Nat.ne_of_lt (blk_lt HX.out)); have HN8 := Aside0.mk (show g8 ≠ g16 by rw [hg_]; exact Nat.ne_of_lt (blk_lt H8.out)); have HN13 := Aside0.mk (show g13 ≠ g16 by rw [hg_]; exact Nat.ne_of_lt (blk_lt HF.out)); have HNm := Aside0.mk (show mb ≠ g16 by rw [hg_]; exact Nat.ne_of_lt (seenP_lt HS.out)); clear hg_ hb_ hx_) | ((with_reducible refine gate_store (t := 29) (p := 16) (v := .tmp 36) rfl ?_); refine box_store rfl rfl 29 (.tmp 16) (.tmp 36) rfl [.int .i64 y0, .int .i64 y1, .int .i64 y2, .int .i64 y3] _ rfl rfl rfl (by rfl) (by simp [Value.oneCell']) HKa.out rfl ?_; intro wb hbk hgb hszb; have HKb := Aside0.mk hbk; have HBb := Aside0.mk (HBa.out.grown hgb HBa.out.size (fun k hk => by have := HG16.out; have h9 := Option.some.inj hk; omega)); have HXb := Aside0.mk ((hgb.block gt (blk_lt HXa.out) (fun e => HNx.out (Option.some.inj e))).trans HXa.out); have H8b := Aside0.mk ((hgb.block g8 (blk_lt H8a.out) (fun e => HN8.out (Option.some.inj e))).trans H8a.out); have HFb := Aside0.mk ((hgb.block g13 (blk_lt HFa.out) (fun e => HN13.out (Option.some.inj e))).trans HFa.out); have HSb := Aside0.mk (HSa.out.kept hgb (fun e => HNm.out (Option.some.inj e))); have k0 := (blk_cell hbk 0).trans rfl; have k1 := (blk_cell hbk 1).trans rfl; have k2 := (blk_cell hbk 2).trans rfl; have k3 := (blk_cell hbk 3).trans rfl; clear hbk hgb hszb) | (go_at_call 199; refine (pick_hall.calls _ _ _ _ _ _ rfl).mono ?_; rintro e wc ⟨rfl, hb_⟩; have HBc := Aside0.mk (below_then HBb.out HBb.out.size hb_); have HXc := Aside0.mk (blk_below HXb.out hb_); have H8c := Aside0.mk (blk_below H8b.out hb_); have HFc := Aside0.mk (blk_below HFb.out hb_); have HKc := Aside0.mk (blk_below HKb.out hb_); have HSc := Aside0.mk (HSb.out.kept (grown_of_below hb_ none) (fun e => by cases e)); have u0 := (blk_cell HKc.out 0).trans rfl; have u1 := (blk_cell HKc.out 1).trans rfl; have u2 := (blk_cell HKc.out 2).trans rfl; have u3 := (blk_cell HKc.out 3).trans rfl; clear hb_) | (go_at_call 160; refine (pick_of.calls _ _ _ _ _ _ _ _ rfl).mono ?_; rintro e wd ⟨rfl, hb_⟩; have HBd := Aside0.mk (below_then HBc.out HBc.out.size hb_); have HXd := Aside0.mk (blk_below HXc.out hb_); have H8d := Aside0.mk (blk_below H8c.out hb_); have HFd := Aside0.mk (blk_below HFc.out hb_); have HKd := Aside0.mk (blk_below HKc.out hb_); have HSd := Aside0.mk (HSc.out.kept (grown_of_below hb_ none) (fun e => by cases e)); have v0 := (blk_cell HKd.out 0).trans rfl; have v1 := (blk_cell HKd.out 1).trans rfl; have v2 := (blk_cell HKd.out 2).trans rfl; have v3 := (blk_cell HKd.out 3).trans rfl; have hlk := (seenP_look_ok HSd.out hw3 (Try.zeroValue4 _)).trans (by rw [dm]); clear hb_) | ((with_reducible refine gate_store (t := 29) (p := 13) (v := .tmp 60) rfl ?_); refine box_store rfl rfl 29 (.tmp 13) (.tmp 60) rfl [.int .i64 y0, .int .i64 y1, .int .i64 y2, .int .i64 y3] _ rfl rfl rfl (by rfl) (by simp [Value.oneCell']) HFd.out rfl ?_; intro wz hbk hgz hszz; have HFz := Aside0.mk hbk; have HBz := Aside0.mk (HBd.out.grown hgz HBd.out.size (fun k hk => by have := HG13.out; have h9 := Option.some.inj hk; omega)); have HXz := Aside0.mk ((hgz.block gt (blk_lt HXd.out) (fun e => HNx13.out (Option.some.inj e))).trans HXd.out); have H8z := Aside0.mk ((hgz.block g8 (blk_lt H8d.out) (fun e => HN813.out (Option.some.inj e))).trans H8d.out); have HSz := Aside0.mk (HSd.out.kept hgz (fun e => HNm13.out (Option.some.inj e))); clear hbk hgz hszz))
                  have hl0 := HL0.out
                  go_roundg (l0_1.length - (j + 1))
                  · exact ⟨j + 1, y0, y1, y2, y3, true, congrArg (Value.int .i64) (by (try rw [i64_w]); unfold wrap64; omega), rfl, by omega, Nat.le_refl _, HH, HSz, HXz, H8z, HFz, HBz⟩
                  · omega
        · have hltz2 : ¬ (j : Int) < (l0_1.length : Int) := by omega
          have H := HR.out
          rw [List.drop_eq_nil_iff.2 (by omega), hallRun] at H
          simp only [Option.some.injEq, Prod.mk.injEq, S29.mk.injEq] at H
          obtain ⟨⟨rfl, rfl, rfl, rfl⟩, rfl⟩ := H
          have hltd2 : decide ((j : Int) < (l0_1.length : Int)) = false := decide_eq_false hltz2
          have k0 := (blk_cell HF.out 0).trans rfl
          have k1 := (blk_cell HF.out 1).trans rfl
          have k2 := (blk_cell HF.out 2).trans rfl
          have k3 := (blk_cell HF.out 3).trans rfl
          go_wp2_with (first | ((with_reducible refine gate_store (t := 29) (p := 8) (v := .tmp 62) rfl ?_); refine box_store rfl rfl 29 (.tmp 8) (.tmp 62) rfl [.int .i64 f0, .int .i64 f1, .int .i64 f2, .int .i64 f3] _ rfl rfl rfl (by rfl) (by simp [Value.oneCell']) H8.out rfl ?_; intro wz hbk hgz hszz; have H8z := Aside0.mk hbk; have HBz := Aside0.mk (HB.out.grown hgz HB.out.size (fun k hk => by have := HG8.out; have h9 := Option.some.inj hk; omega)); clear hbk hgz hszz))
          refine bodyPost_ret (results_ct rfl _ _ g8 29 #[.int .i64 f0, .int .i64 f1, .int .i64 f2, .int .i64 f3] (0, 0) _ rfl H8z.out Try.underlying29 rfl (by kernel_rfl)) rfl ?_
          exact ⟨rfl, HBz.out⟩

end Go.Proofs.Ytmfbpkjhabdcgaa.F
end
section
namespace Go.Proofs.Ytmfbpkjhabdcgaa.F
open Go.RowKit Go.Proofs.YtmfbpkjhabdcgaaW.PrintWords Go.Proofs.YtmfbpkjhabdcgaaW.PrintLast Go.Proofs.YtmfbpkjhabdcgaaW.PrintMore
set_option linter.unusedVariables false
set_option linter.unusedSimpArgs false
def ownQ (car : Int) (x : S29) : Bool := !(x.f0 != 3) && x.f2 == car
end Go.Proofs.Ytmfbpkjhabdcgaa.F
end
section
namespace Go.Proofs.Ytmfbpkjhabdcgaa.F
open Go.RowKit Go.Proofs.YtmfbpkjhabdcgaaW.PrintWords Go.Proofs.YtmfbpkjhabdcgaaW.PrintLast Go.Proofs.YtmfbpkjhabdcgaaW.PrintMore
set_option linter.unusedVariables false
set_option linter.unusedSimpArgs false
set_option maxHeartbeats 1000000 in
set_option maxRecDepth 100000 in
theorem own1_pred (w : World) (row : Option Nat) (gc : Nat) (car : Int) (hb : w.heap[gc]? = some (.cells #[.int .i64 car] 3 (0, 0))) (hne : some gc ≠ row) :
    PredG 201 #[.pointer (some ⟨gc, 0, none⟩)] (ownQ car) w row := by
  intro W x0 x1 x2 x3 hW
  have HC := Aside0.mk (cell_grown hb hne hW)
  clear hb hne hW
  show Calls Try.prog 201 #[.agg #[.int .i64 x0, .int .i64 x1, .int .i64 x2, .int .i64 x3], .pointer (some ⟨gc, 0, none⟩)] W _
  have e0 : ownQ car ⟨x0, x1, x2, x3⟩ = (!(x0 != 3) && x2 == car) := rfl
  rw [e0]
  cases h1 : (x0 != 3) with
  | false =>
    go_enter Try.func201, Try.ntmps201
    go_wp2_with (first | ((with_reducible refine gate_dst (N := 2) rfl ?_); refine box_event ?hg (N := 2) ?hd (cs := #[.int .i64 x0, .int .i64 x1, .int .i64 x2, .int .i64 x3]) (t := 29) ?hr ?_; (case hd => rfl); (case hg => rfl); (case hr => first | (go_simp; done) | (go_simp; rfl)); intro gb hg_ w3 hx_ hb_; have HB3 := Aside0.mk hb_; have HX := Aside0.mk hx_; have HC3 := Aside0.mk (blk_below HC.out hb_); have b0 := (blk_cell hx_ 0).trans rfl; have b1 := (blk_cell hx_ 1).trans rfl; have b2 := (blk_cell hx_ 2).trans rfl; have b3 := (blk_cell hx_ 3).trans rfl; clear hg_ hb_ hx_) | (go_at_call 199; refine (pick_hall.calls _ _ _ _ _ _ rfl).mono ?_; rintro e w5 ⟨rfl, hb_⟩; have HB5 := Aside0.mk (below_then HB3.out HB3.out.size hb_); have HX5 := blk_below HX.out hb_; have HC5 := blk_below HC3.out hb_; have c0 := (blk_cell HC5 0).trans rfl; have d2 := (blk_cell HX5 2).trans rfl; clear hb_ HX5 HC5))
    go_ret
    exact ⟨rfl, HB5.out⟩
  | true =>
    go_enter Try.func201, Try.ntmps201
    go_wp2_with (first | ((with_reducible refine gate_dst (N := 2) rfl ?_); refine box_event ?hg (N := 2) ?hd (cs := #[.int .i64 x0, .int .i64 x1, .int .i64 x2, .int .i64 x3]) (t := 29) ?hr ?_; (case hd => rfl); (case hg => rfl); (case hr => first | (go_simp; done) | (go_simp; rfl)); intro gb hg_ w3 hx_ hb_; have HB3 := Aside0.mk hb_; have HX := Aside0.mk hx_; have HC3 := Aside0.mk (blk_below HC.out hb_); have b0 := (blk_cell hx_ 0).trans rfl; have b1 := (blk_cell hx_ 1).trans rfl; have b2 := (blk_cell hx_ 2).trans rfl; have b3 := (blk_cell hx_ 3).trans rfl; clear hg_ hb_ hx_) | (go_at_call 199; refine (pick_hall.calls _ _ _ _ _ _ rfl).mono ?_; rintro e w5 ⟨rfl, hb_⟩; have HB5 := Aside0.mk (below_then HB3.out HB3.out.size hb_); have HX5 := blk_below HX.out hb_; have HC5 := blk_below HC3.out hb_; have c0 := (blk_cell HC5 0).trans rfl; have d2 := (blk_cell HX5 2).trans rfl; clear hb_ HX5 HC5))
    go_ret
    exact ⟨rfl, HB5.out⟩
end Go.Proofs.Ytmfbpkjhabdcgaa.F
end
section
namespace Go.Proofs.Ytmfbpkjhabdcgaa.F
open Go.RowKit Go.Proofs.YtmfbpkjhabdcgaaW.PrintWords Go.Proofs.YtmfbpkjhabdcgaaW.PrintLast Go.Proofs.YtmfbpkjhabdcgaaW.PrintMore
set_option linter.unusedVariables false
set_option linter.unusedSimpArgs false
def pick_byOwn.f (a0_0 : Int) (l0_1 : List (S29)) (a1 : Int) : Option (Int × Int × Int × Int × Bool) :=
  if idxOf (ownQ a1) l0_1 < 0 then some (0, 0, 0, 0, false) else some ((rd_T29 l0_1 (idxOf (ownQ a1) l0_1)).f0, (rd_T29 l0_1 (idxOf (ownQ a1) l0_1)).f1, (rd_T29 l0_1 (idxOf (ownQ a1) l0_1)).f2, (rd_T29 l0_1 (idxOf (ownQ a1) l0_1)).f3, true)
end Go.Proofs.Ytmfbpkjhabdcgaa.F
end
section
namespace Go.Proofs.Ytmfbpkjhabdcgaa.F
open Go.RowKit Go.Proofs.YtmfbpkjhabdcgaaW.PrintWords Go.Proofs.YtmfbpkjhabdcgaaW.PrintLast Go.Proofs.YtmfbpkjhabdcgaaW.PrintMore
set_option linter.unusedVariables false
set_option linter.unusedSimpArgs false
set_option maxHeartbeats 2000000 in
set_option maxRecDepth 100000 in
theorem pick_byOwn.calls (a0_0 : Int) (A0_1 : Option Addr) (c0_1 : Nat) (l0_1 : List (S29)) (a1 : Int) (r1 : Int) (r2 : Int) (r3 : Int) (r4 : Int) (r5 : Bool) (w : World) (hr0_1 : Kd.C k29 w A0_1 l0_1.length l0_1) (hc0_1 : l0_1.length ≤ c0_1) (h : pick_byOwn.f a0_0 l0_1 a1 = some (r1, r2, r3, r4, r5)) :
    Calls Try.prog 153 #[.agg #[.int .i64 a0_0, .slice A0_1 l0_1.length c0_1], .int .i64 a1] w fun e w' => e = .returned (.tuple #[.agg #[.int .i64 r1, .int .i64 r2, .int .i64 r3, .int .i64 r4], .bool r5]) ∧ Below w.heap.size w w' := by
  have hu25 := Try.underlying25
  have hu29 := Try.underlying29
  have hu3 := Try.underlying3
  have HC0 := Aside0.mk hr0_1
  clear hr0_1
  unfold pick_byOwn.f at h
  have hb1 : idxOf (ownQ a1) l0_1 < (l0_1.length : Int) := by unfold idxOf; split <;> omega
  obtain ⟨z, hz⟩ : ∃ z, z = idxOf (ownQ a1) l0_1 := ⟨_, rfl⟩
  rw [← hz] at h hb1
  have HZZ := Aside0.mk hz
  clear hz
  by_cases c : z < 0
  · rw [if_pos c] at h
    simp only [Option.some.injEq, Prod.mk.injEq] at h
    obtain ⟨rfl, rfl, rfl, rfl, rfl⟩ := h
    have d : decide (z < 0) = true := decide_eq_true c
    clear c hb1
    go_enter Try.func153, Try.ntmps153
    go_wp2_with (first | ((with_reducible refine gate_dst (N := 2) rfl ?_); refine box_event ?hg (N := 2) ?hd (cs := #[.int .i64 a0_0, .slice A0_1 l0_1.length c0_1]) (t := 25) ?hr ?_; (case hd => rfl); (case hg => rfl); (case hr => first | (go_simp; done) | (go_simp; rfl)); intro gt hg_ w1 hx_ hb_; have HB1 := Aside0.mk hb_; have HX1 := Aside0.mk hx_; clear hg_ hb_ hx_) | ((with_reducible refine gate_dst (N := 3) rfl ?_); refine box_event ?hg (N := 3) ?hd (cs := #[.int .i64 a1]) (t := 3) ?hr ?_; (case hd => rfl); (case hg => rfl); (case hr => first | (go_simp; done) | (go_simp; rfl)); intro gc hg_ w2 hx_ hb_; have HB2 := Aside0.mk (below_then HB1.out HB1.out.size hb_); have HX2 := Aside0.mk (blk_below HX1.out hb_); have HC2 := Aside0.mk hx_; clear hg_ hb_ hx_) | ((with_reducible refine gate_dst (N := 4) rfl ?_); refine box_event ?hg (N := 4) ?hd (cs := #[.int .i64 0, .int .i64 0, .int .i64 0, .int .i64 0]) (t := 29) ?hr ?_; (case hd => rfl); (case hg => rfl); (case hr => first | (go_simp; done) | (go_simp; rfl)); intro g4 hg_ w3 hx_ hb_; have HB3 := Aside0.mk (below_then HB2.out HB2.out.size hb_); have HX3 := Aside0.mk (blk_below HX2.out hb_); have HC3 := Aside0.mk (blk_below HC2.out hb_); have H43 := Aside0.mk hx_; have HG4 := Aside0.mk (show w.heap.size ≤ g4 by rw [hg_]; exact HB2.out.size); have ra := (blk_cell HX3.out 0).trans rfl; have rb := (blk_cell HX3.out 1).trans rfl; clear hg_ hb_ hx_) | (go_at_call 196; refine (indexFunc_calls 201 _ (enters_of Try.func201 (by kernel_rfl) rfl) (ownQ a1) A0_1 c0_1 l0_1 _ none (Kd.C_below HC0.out HB3.out) hc0_1 (own1_pred _ none gc a1 HC3.out (fun e => by cases e))).mono ?_; rw [← HZZ.out]; rintro e w4 ⟨rfl, hb_⟩; have HB4 := Aside0.mk (below_then HB3.out HB3.out.size hb_); have HX4 := Aside0.mk (blk_below HX3.out hb_); have H44 := Aside0.mk (blk_below H43.out hb_); have sa := (blk_cell HX4.out 0).trans rfl; have sb := (blk_cell HX4.out 1).trans rfl;  clear hb_) | ((with_reducible refine gate_store (t := 29) (p := 4) (v := .tmp 13) rfl ?_); refine box_store rfl rfl 29 (.tmp 4) (.tmp 13) rfl [.int .i64 0, .int .i64 0, .int .i64 0, .int .i64 0] _ rfl rfl rfl (by rfl) (by simp [Value.oneCell']) H44.out rfl ?_; intro wz hbk hgz hszz; have H4z := Aside0.mk hbk; have HBz := Aside0.mk (HB4.out.grown hgz HB4.out.size (fun k hk => by have := HG4.out; have h9 := Option.some.inj hk; omega)); clear hbk hgz hszz))
    refine bodyPost_ret (results_ct rfl _ _ g4 29 #[.int .i64 0, .int .i64 0, .int .i64 0, .int .i64 0] (0, 0) _ rfl H4z.out Try.underlying29 rfl (by kernel_rfl)) rfl ?_
    exact ⟨rfl, HBz.out⟩
  · rw [if_neg c] at h
    simp only [Option.some.injEq, Prod.mk.injEq] at h
    obtain ⟨rfl, rfl, rfl, rfl, rfl⟩ := h
    have d : decide (z < 0) = false := decide_eq_false c
    have hz0 : 0 ≤ z := by omega
    have p1 : decide (0 ≤ z) = true := decide_eq_true hz0
    have p2 : decide (z < (l0_1.length : Int)) = true := decide_eq_true hb1
    obtain ⟨y0, y1, y2, y3, hy⟩ : ∃ y0 y1 y2 y3, rd_T29 l0_1 z = ⟨y0, y1, y2, y3⟩ := ⟨_, _, _, _, rfl⟩
    have HZ0 := Aside0.mk hz0
    have HZ1 := Aside0.mk hb1
    have p3 := eq_true hz0
    have p4 := eq_true hb1
    rw [hy]
    have HY := Aside0.mk hy
    clear c hb1 hz0 hy
    go_enter Try.func153, Try.ntmps153
    go_wp2_with (first | ((with_reducible refine gate_dst (N := 2) rfl ?_); refine box_event ?hg (N := 2) ?hd (cs := #[.int .i64 a0_0, .slice A0_1 l0_1.length c0_1]) (t := 25) ?hr ?_; (case hd => rfl); (case hg => rfl); (case hr => first | (go_simp; done) | (go_simp; rfl)); intro gt hg_ w1 hx_ hb_; have HB1 := Aside0.mk hb_; have HX1 := Aside0.mk hx_; clear hg_ hb_ hx_) | ((with_reducible refine gate_dst (N := 3) rfl ?_); refine box_event ?hg (N := 3) ?hd (cs := #[.int .i64 a1]) (t := 3) ?hr ?_; (case hd => rfl); (case hg => rfl); (case hr => first | (go_simp; done) | (go_simp; rfl)); intro gc hg_ w2 hx_ hb_; have HB2 := Aside0.mk (below_then HB1.out HB1.out.size hb_); have HX2 := Aside0.mk (blk_below HX1.out hb_); have HC2 := Aside0.mk hx_; clear hg_ hb_ hx_) | ((with_reducible refine gate_dst (N := 4) rfl ?_); refine box_event ?hg (N := 4) ?hd (cs := #[.int .i64 0, .int .i64 0, .int .i64 0, .int .i64 0]) (t := 29) ?hr ?_; (case hd => rfl); (case hg => rfl); (case hr => first | (go_simp; done) | (go_simp; rfl)); intro g4 hg_ w3 hx_ hb_; have HB3 := Aside0.mk (below_then HB2.out HB2.out.size hb_); have HX3 := Aside0.mk (blk_below HX2.out hb_); have HC3 := Aside0.mk (blk_below HC2.out hb_); have H43 := Aside0.mk hx_; have HG4 := Aside0.mk (show w.heap.size ≤ g4 by rw [hg_]; exact HB2.out.size); have ra := (blk_cell HX3.out 0).trans rfl; have rb := (blk_cell HX3.out 1).trans rfl; clear hg_ hb_ hx_) | (go_at_call 196; refine (indexFunc_calls 201 _ (enters_of Try.func201 (by kernel_rfl) rfl) (ownQ a1) A0_1 c0_1 l0_1 _ none (Kd.C_below HC0.out HB3.out) hc0_1 (own1_pred _ none gc a1 HC3.out (fun e => by cases e))).mono ?_; rw [← HZZ.out]; rintro e w4 ⟨rfl, hb_⟩; have HB4 := Aside0.mk (below_then HB3.out HB3.out.size hb_); have HX4 := Aside0.mk (blk_below HX3.out hb_); have H44 := Aside0.mk (blk_below H43.out hb_); have sa := (blk_cell HX4.out 0).trans rfl; have sb := (blk_cell HX4.out 1).trans rfl; obtain ⟨ad, hA, q0, q1, q2, q3⟩ := at_T29 (Kd.C_below HC0.out HB4.out) z HZ0.out HZ1.out; cases hA; rw [HY.out] at q0 q1 q2 q3; clear hb_) | ((with_reducible refine gate_store (t := 29) (p := 4) (v := .tmp 18) rfl ?_); refine box_store rfl rfl 29 (.tmp 4) (.tmp 18) rfl [.int .i64 y0, .int .i64 y1, .int .i64 y2, .int .i64 y3] _ rfl rfl rfl (by rfl) (by simp [Value.oneCell']) H44.out rfl ?_; intro wz hbk hgz hszz; have H4z := Aside0.mk hbk; have HBz := Aside0.mk (HB4.out.grown hgz HB4.out.size (fun k hk => by have := HG4.out; have h9 := Option.some.inj hk; omega)); clear hbk hgz hszz))
    refine bodyPost_ret (results_ct rfl _ _ g4 29 #[.int .i64 y0, .int .i64 y1, .int .i64 y2, .int .i64 y3] (0, 0) _ rfl H4z.out Try.underlying29 rfl (by kernel_rfl)) rfl ?_
    exact ⟨rfl, HBz.out⟩
end Go.Proofs.Ytmfbpkjhabdcgaa.F
end
section
namespace Go.Proofs.Ytmfbpkjhabdcgaa.F
open Go.RowKit Go.Proofs.YtmfbpkjhabdcgaaW.PrintWords Go.Proofs.YtmfbpkjhabdcgaaW.PrintLast Go.Proofs.YtmfbpkjhabdcgaaW.PrintMore
set_option linter.unusedVariables false
set_option linter.unusedSimpArgs false
set_option maxHeartbeats 2000000 in
set_option maxRecDepth 100000 in
theorem by1_calls (gt ga : Nat) (a0_0 : Int) (A0_1 : Option Addr) (c0_1 : Nat) (l0_1 : List (S29)) (a1_0 : Int) (a1_1 : Int) (a1_2 : Int) (a1_3 : Int) (a1_4 : Int) (a1_5 : Int) (a1_6 : Int) (a1_7 : Int) (a1_8 : Int) (A1_9 : Option Addr) (c1_9 : Nat) (l1_9 : List (S29)) (q0 q1 q2 q3 : Int) (qb : Bool) (w : World) (hr0_1 : Kd.C k29 w A0_1 l0_1.length l0_1) (hc0_1 : l0_1.length ≤ c0_1) (hr1_9 : Kd.C k29 w A1_9 l1_9.length l1_9) (hc1_9 : l1_9.length ≤ c1_9) (hT : w.heap[gt]? = some (.cells #[.int .i64 a0_0, .slice A0_1 l0_1.length c0_1] 25 (0, 0))) (hA : w.heap[ga]? = some (.cells #[.int .i64 a1_0, .int .i64 a1_1, .int .i64 a1_2, .int .i64 a1_3, .int .i64 a1_4, .int .i64 a1_5, .int .i64 a1_6, .int .i64 a1_7, .int .i64 a1_8, .slice A1_9 l1_9.length c1_9] 60 (0, 0))) (h : pick_byHall.f a0_0 l0_1 a1_3 a1_4 l1_9 = some (q0, q1, q2, q3, qb)) :
    Calls Try.prog 197 #[.pointer (some ⟨gt, 0, none⟩), .pointer (some ⟨ga, 0, none⟩)] w fun e w' => e = .returned (.tuple #[.agg #[.int .i64 q0, .int .i64 q1, .int .i64 q2, .int .i64 q3], .bool qb]) ∧ Below w.heap.size w w' := by
  have hu25 := Try.underlying25
  have hu29 := Try.underlying29
  have hu60 := Try.underlying60
  have HC0 := Aside0.mk hr0_1
  have HC9 := Aside0.mk hr1_9
  have HT := Aside0.mk hT
  have HA := Aside0.mk hA
  have HQ := Aside0.mk h
  clear hr0_1 hr1_9 hT hA h
  go_enter Try.func197, Try.ntmps197
  go_wp2_with (first | ((with_reducible refine gate_dst (N := 2) rfl ?_); refine box_event ?hg (N := 2) ?hd (cs := #[.int .i64 0, .int .i64 0, .int .i64 0, .int .i64 0]) (t := 29) ?hr ?_; (case hd => rfl); (case hg => rfl); (case hr => first | (go_simp; done) | (go_simp; rfl)); intro g2 hg_ w1 hx_ hb_; have HB1 := Aside0.mk hb_; have H21 := Aside0.mk hx_; have HG2 := Aside0.mk (show w.heap.size ≤ g2 by rw [hg_]; exact Nat.le_refl _); have HT1 := Aside0.mk (blk_below HT.out hb_); have HA1 := Aside0.mk (blk_below HA.out hb_); have ra := (blk_cell HT1.out 0).trans rfl; have rb := (blk_cell HT1.out 1).trans rfl; have s0 := (blk_cell HA1.out 0).trans rfl; have s3 := (blk_cell HA1.out 3).trans rfl; have s4 := (blk_cell HA1.out 4).trans rfl; have s9 := (blk_cell HA1.out 9).trans rfl; clear hg_ hb_ hx_) | (go_at_call 149; refine (pick_byHall.calls a0_0 A0_1 c0_1 l0_1 a1_3 a1_4 A1_9 c1_9 l1_9 q0 q1 q2 q3 qb _ (Kd.C_below HC0.out HB1.out) hc0_1 (Kd.C_below HC9.out HB1.out) hc1_9 HQ.out).mono ?_; rintro e w2 ⟨rfl, hb_⟩; have HB2 := Aside0.mk (below_then HB1.out HB1.out.size hb_); have H22 := Aside0.mk (blk_below H21.out hb_); clear hb_) | ((with_reducible refine gate_store (t := 29) (p := 2) (v := .tmp 12) rfl ?_); refine box_store rfl rfl 29 (.tmp 2) (.tmp 12) rfl [.int .i64 q0, .int .i64 q1, .int .i64 q2, .int .i64 q3] _ rfl rfl rfl (by rfl) (by simp [Value.oneCell']) H22.out rfl ?_; intro wz hbk hgz hszz; have H2z := Aside0.mk hbk; have HBz := Aside0.mk (HB2.out.grown hgz HB2.out.size (fun k hk => by have := HG2.out; have h9 := Option.some.inj hk; omega)); clear hbk hgz hszz))
  refine bodyPost_ret (results_ct rfl _ _ g2 29 #[.int .i64 q0, .int .i64 q1, .int .i64 q2, .int .i64 q3] (0, 0) _ rfl H2z.out Try.underlying29 rfl (by kernel_rfl)) rfl ?_
  exact ⟨rfl, HBz.out⟩
end Go.Proofs.Ytmfbpkjhabdcgaa.F
end
section
namespace Go.Proofs.Ytmfbpkjhabdcgaa.F
open Go.RowKit Go.Proofs.YtmfbpkjhabdcgaaW.PrintWords Go.Proofs.YtmfbpkjhabdcgaaW.PrintLast Go.Proofs.YtmfbpkjhabdcgaaW.PrintMore
set_option linter.unusedVariables false
set_option linter.unusedSimpArgs false
set_option maxHeartbeats 2000000 in
set_option maxRecDepth 100000 in
theorem by2_calls (gt ga : Nat) (a0_0 : Int) (A0_1 : Option Addr) (c0_1 : Nat) (l0_1 : List (S29)) (a1_0 : Int) (a1_1 : Int) (a1_2 : Int) (a1_3 : Int) (a1_4 : Int) (a1_5 : Int) (a1_6 : Int) (a1_7 : Int) (a1_8 : Int) (A1_9 : Option Addr) (c1_9 : Nat) (l1_9 : List (S29)) (q0 q1 q2 q3 : Int) (qb : Bool) (w : World) (hr0_1 : Kd.C k29 w A0_1 l0_1.length l0_1) (hc0_1 : l0_1.length ≤ c0_1) (hr1_9 : Kd.C k29 w A1_9 l1_9.length l1_9) (hc1_9 : l1_9.length ≤ c1_9) (hT : w.heap[gt]? = some (.cells #[.int .i64 a0_0, .slice A0_1 l0_1.length c0_1] 25 (0, 0))) (hA : w.heap[ga]? = some (.cells #[.int .i64 a1_0, .int .i64 a1_1, .int .i64 a1_2, .int .i64 a1_3, .int .i64 a1_4, .int .i64 a1_5, .int .i64 a1_6, .int .i64 a1_7, .int .i64 a1_8, .slice A1_9 l1_9.length c1_9] 60 (0, 0))) (h : pick_byOwn.f a0_0 l0_1 a1_0 = some (q0, q1, q2, q3, qb)) :
    Calls Try.prog 198 #[.pointer (some ⟨gt, 0, none⟩), .pointer (some ⟨ga, 0, none⟩)] w fun e w' => e = .returned (.tuple #[.agg #[.int .i64 q0, .int .i64 q1, .int .i64 q2, .int .i64 q3], .bool qb]) ∧ Below w.heap.size w w' := by
  have hu25 := Try.underlying25
  have hu29 := Try.underlying29
  have hu60 := Try.underlying60
  have HC0 := Aside0.mk hr0_1
  have HC9 := Aside0.mk hr1_9
  have HT := Aside0.mk hT
  have HA := Aside0.mk hA
  have HQ := Aside0.mk h
  clear hr0_1 hr1_9 hT hA h
  go_enter Try.func198, Try.ntmps198
  go_wp2_with (first | ((with_reducible refine gate_dst (N := 2) rfl ?_); refine box_event ?hg (N := 2) ?hd (cs := #[.int .i64 0, .int .i64 0, .int .i64 0, .int .i64 0]) (t := 29) ?hr ?_; (case hd => rfl); (case hg => rfl); (case hr => first | (go_simp; done) | (go_simp; rfl)); intro g2 hg_ w1 hx_ hb_; have HB1 := Aside0.mk hb_; have H21 := Aside0.mk hx_; have HG2 := Aside0.mk (show w.heap.size ≤ g2 by rw [hg_]; exact Nat.le_refl _); have HT1 := Aside0.mk (blk_below HT.out hb_); have HA1 := Aside0.mk (blk_below HA.out hb_); have ra := (blk_cell HT1.out 0).trans rfl; have rb := (blk_cell HT1.out 1).trans rfl; have s0 := (blk_cell HA1.out 0).trans rfl; have s3 := (blk_cell HA1.out 3).trans rfl; have s4 := (blk_cell HA1.out 4).trans rfl; have s9 := (blk_cell HA1.out 9).trans rfl; clear hg_ hb_ hx_) | (go_at_call 153; refine (pick_byOwn.calls a0_0 A0_1 c0_1 l0_1 a1_0 q0 q1 q2 q3 qb _ (Kd.C_below HC0.out HB1.out) hc0_1 HQ.out).mono ?_; rintro e w2 ⟨rfl, hb_⟩; have HB2 := Aside0.mk (below_then HB1.out HB1.out.size hb_); have H22 := Aside0.mk (blk_below H21.out hb_); clear hb_) | ((with_reducible refine gate_store (t := 29) (p := 2) (v := .tmp 8) rfl ?_); refine box_store rfl rfl 29 (.tmp 2) (.tmp 8) rfl [.int .i64 q0, .int .i64 q1, .int .i64 q2, .int .i64 q3] _ rfl rfl rfl (by rfl) (by simp [Value.oneCell']) H22.out rfl ?_; intro wz hbk hgz hszz; have H2z := Aside0.mk hbk; have HBz := Aside0.mk (HB2.out.grown hgz HB2.out.size (fun k hk => by have := HG2.out; have h9 := Option.some.inj hk; omega)); clear hbk hgz hszz))
  refine bodyPost_ret (results_ct rfl _ _ g2 29 #[.int .i64 q0, .int .i64 q1, .int .i64 q2, .int .i64 q3] (0, 0) _ rfl H2z.out Try.underlying29 rfl (by kernel_rfl)) rfl ?_
  exact ⟨rfl, HBz.out⟩
end Go.Proofs.Ytmfbpkjhabdcgaa.F
end
section
namespace Go.Proofs.Ytmfbpkjhabdcgaa.F
open Go.RowKit Go.Proofs.YtmfbpkjhabdcgaaW.PrintWords Go.Proofs.YtmfbpkjhabdcgaaW.PrintLast Go.Proofs.YtmfbpkjhabdcgaaW.PrintMore
set_option linter.unusedVariables false
set_option linter.unusedSimpArgs false
theorem ix0 (x y : Nat) (p q : Array Value) (w : World) : (Instr.index 183 (.agg #[.func (.func x) #[] p, .func (.func y) #[] q]) (.int .i64 0)).run Try.prog w = .ok (.func (.func x) #[] p) w := by
  simp [Instr.index, run_underlying Try.underlying183, asIntOf, go_sem]
end Go.Proofs.Ytmfbpkjhabdcgaa.F
end
section
namespace Go.Proofs.Ytmfbpkjhabdcgaa.F
open Go.RowKit Go.Proofs.YtmfbpkjhabdcgaaW.PrintWords Go.Proofs.YtmfbpkjhabdcgaaW.PrintLast Go.Proofs.YtmfbpkjhabdcgaaW.PrintMore
set_option linter.unusedVariables false
set_option linter.unusedSimpArgs false
theorem ix1 (x y : Nat) (p q : Array Value) (w : World) : (Instr.index 183 (.agg #[.func (.func x) #[] p, .func (.func y) #[] q]) (.int .i64 1)).run Try.prog w = .ok (.func (.func y) #[] q) w := by
  simp [Instr.index, run_underlying Try.underlying183, asIntOf, go_sem]
end Go.Proofs.Ytmfbpkjhabdcgaa.F
end
section
namespace Go.Proofs.Ytmfbpkjhabdcgaa.F
open Go.RowKit Go.Proofs.YtmfbpkjhabdcgaaW.PrintWords Go.Proofs.YtmfbpkjhabdcgaaW.PrintLast Go.Proofs.YtmfbpkjhabdcgaaW.PrintMore
set_option linter.unusedVariables false
set_option linter.unusedSimpArgs false
attribute [local go_sem] ix0 ix1
abbrev Way := Option (Int × Int × Int × Int × Bool)
end Go.Proofs.Ytmfbpkjhabdcgaa.F
end
section
namespace Go.Proofs.Ytmfbpkjhabdcgaa.F
open Go.RowKit Go.Proofs.YtmfbpkjhabdcgaaW.PrintWords Go.Proofs.YtmfbpkjhabdcgaaW.PrintLast Go.Proofs.YtmfbpkjhabdcgaaW.PrintMore
set_option linter.unusedVariables false
set_option linter.unusedSimpArgs false
attribute [local go_sem] ix0 ix1
/-- The ways from the j-th on. -/
def waysRun (x y : Way) : Nat → Way
  | 0 => x.bind fun p => if p.2.2.2.2 = true then some p else y.bind fun q => if q.2.2.2.2 = true then some q else some (0, 0, 0, 0, false)
  | 1 => y.bind fun q => if q.2.2.2.2 = true then some q else some (0, 0, 0, 0, false)
  | _ => some (0, 0, 0, 0, false)
end Go.Proofs.Ytmfbpkjhabdcgaa.F
end
section
namespace Go.Proofs.Ytmfbpkjhabdcgaa.F
open Go.RowKit Go.Proofs.YtmfbpkjhabdcgaaW.PrintWords Go.Proofs.YtmfbpkjhabdcgaaW.PrintLast Go.Proofs.YtmfbpkjhabdcgaaW.PrintMore
set_option linter.unusedVariables false
set_option linter.unusedSimpArgs false
attribute [local go_sem] ix0 ix1
def pick_by.f (a0_0 : Int) (l0_1 : List (S29)) (a1_0 : Int) (a1_1 : Int) (a1_2 : Int) (a1_3 : Int) (a1_4 : Int) (a1_5 : Int) (a1_6 : Int) (a1_7 : Int) (a1_8 : Int) (l1_9 : List (S29)) : Option (Int × Int × Int × Int × Bool) :=
  if a1_1 = 1 then pick_byOwn.f a0_0 l0_1 a1_0 else if a1_1 = 0 then (if Int.tmod a1_2 2 = 1 then waysRun (pick_byOwn.f a0_0 l0_1 a1_0) (pick_byHall.f a0_0 l0_1 a1_3 a1_4 l1_9) 0 else waysRun (pick_byHall.f a0_0 l0_1 a1_3 a1_4 l1_9) (pick_byOwn.f a0_0 l0_1 a1_0) 0) else some (0, 0, 0, 0, false)
end Go.Proofs.Ytmfbpkjhabdcgaa.F
end
