/- Part 2 of TableServes: what the functions reckon, step by step, and plain laws. No condition. -/
import Derived.Test.YtmfbpkjhabdcgaaKTableServesx1
section
-- Written by fork.py (this session's program over the kit's print.py). Not trusted: Lean checks it.
namespace Go.Proofs.Ytmfbpkjhabdcgaa.F
open Go.RowKit Go.Proofs.YtmfbpkjhabdcgaaW.PrintWords Go.Proofs.YtmfbpkjhabdcgaaW.PrintLast Go.Proofs.YtmfbpkjhabdcgaaW.PrintMore
attribute [local go_sem] max2_int min2_int max_two min_two max_three min_three max_four min_four
set_option linter.unusedVariables false
set_option linter.unusedSimpArgs false

/-! ### R21_Wipe: function 39 -/
def R21_Wipe.l0 : Nat → List (S29) → Int → Int → List (S29) → Int → List (S29) → Option (Int × (List (S29)) × (List (S29)) × Int)
  | 0, _, _, _, _, _, _ => none
  | k + 1, x8, x9, x298000, x298001, x302000, x302001 => if x9 < (x298001.length : Int) then (if 0 ≤ x9 then ((R21_hall.f ((rd_T29 x298001 x9).f0) ((rd_T29 x298001 x9).f1) ((rd_T29 x298001 x9).f2) ((rd_T29 x298001 x9).f3)).bind fun t303 => (if t303 = true then (if x302001.length < 4398046511104 then (R21_Wipe.l0 k x8 (wrap64 (x9 + 1)) x298000 x298001 x302000 (x302001 ++ [(⟨(rd_T29 x298001 x9).f0, (rd_T29 x298001 x9).f1, (rd_T29 x298001 x9).f2, (rd_T29 x298001 x9).f3⟩ : S29)])) else (none)) else (if x8.length < 4398046511104 then (R21_Wipe.l0 k (x8 ++ [(⟨(rd_T29 x298001 x9).f0, (rd_T29 x298001 x9).f1, (rd_T29 x298001 x9).f2, (rd_T29 x298001 x9).f3⟩ : S29)]) (wrap64 (x9 + 1)) x298000 x298001 x302000 x302001) else (none)))) else (none)) else (some (x302000, x302001, x8, 0))
def R21_Wipe.f (k : Nat) (a0_0 : Int) (l0_1 : List (S29)) : Option (Int × (List (S29)) × (List (S29)) × Int) := (R21_Check.f k a0_0 l0_1).bind fun bt299 => (if bt299.1 = 0 then (R21_Wipe.l0 k ([] : List (S29)) 0 a0_0 l0_1 a0_0 ([] : List (S29))) else (some (0, ([] : List (S29)), ([] : List (S29)), bt299.1)))
theorem R21_Wipe.mono_l : ∀ k, (∀ y0 y1 y2 y3 y4 y5, LeO (R21_Wipe.l0 k y0 y1 y2 y3 y4 y5) (R21_Wipe.l0 (k + 1) y0 y1 y2 y3 y4 y5))
  | 0 => fun _ _ _ _ _ _ r h => by simp [R21_Wipe.l0] at h
  | k + 1 => by
    have ih0 := R21_Wipe.mono_l k
    · intro y0 y1 y2 y3 y4 y5
      unfold R21_Wipe.l0
      repeat' first
      | (with_reducible exact ih0 _ _ _ _ _ _)
      | (with_reducible exact R21_Check.mono _ _ _)
      | (with_reducible exact LeO.refl _)
      | (with_reducible exact LeO.none _)
      | (with_reducible refine LeO.ite ?_ ?_)
      | (with_reducible refine LeO.bind ?_ (fun _ => ?_))
      | exact ih0 _ _ _ _ _ _
      | exact R21_Check.mono _ _ _
      | exact LeO.none _
      | refine LeO.ite ?_ ?_
      | refine LeO.bind ?_ (fun _ => ?_)
theorem R21_Wipe.mono : ∀ a0 a1 k, LeO (R21_Wipe.f k a0 a1) (R21_Wipe.f (k + 1) a0 a1) := by
  intro a0 a1 k
  have ih0 := R21_Wipe.mono_l k
  unfold R21_Wipe.f
  repeat' first
      | (with_reducible exact ih0 _ _ _ _ _ _)
      | (with_reducible exact R21_Check.mono _ _ _)
      | (with_reducible exact LeO.refl _)
      | (with_reducible exact LeO.none _)
      | (with_reducible refine LeO.ite ?_ ?_)
      | (with_reducible refine LeO.bind ?_ (fun _ => ?_))
      | exact ih0 _ _ _ _ _ _
      | exact R21_Check.mono _ _ _
      | exact LeO.none _
      | refine LeO.ite ?_ ?_
      | refine LeO.bind ?_ (fun _ => ?_)
def R21_Wipe.T10 : Bool × List (List Nat × List Nat) := (true, [([], []), ([0], [0]), ([], []), ([2], [2]), ([], []), ([3, 4], [3, 4]), ([5], [5]), ([6], [6]), ([1, 7], [1, 7]), ([0, 1, 2, 3, 4, 5, 6, 7, 8], []), ([9, 8, 8, 0, 1, 2, 3, 4, 5, 6, 7, 8], [8, 9])])
def R21_Wipe.B10 : List Nat := [0, 1, 0, 4, 0, 28, 60, 124, 255, 511, 1023]
theorem R21_Wipe.tab10 : rtab .any (opsOf Try.f39 10) = R21_Wipe.T10 := by kernel_rfl
theorem R21_Wipe.bits10 : waitsOk R21_Wipe.T10.2 R21_Wipe.B10 = true := by kernel_rfl
set_option maxHeartbeats 8000000 in
set_option maxRecDepth 100000 in
theorem R21_Wipe.calls (k : Nat) (a0_0 : Int) (A0_1 : Option Addr) (c0_1 : Nat) (l0_1 : List (S29)) (r1 : Int) (r2 : List (S29)) (r3 : List (S29)) (r4 : Int) (w : World) (hr0_1 : Kd.C k29 w A0_1 l0_1.length l0_1) (hc0_1 : l0_1.length ≤ c0_1) (h : R21_Wipe.f k a0_0 l0_1 = some (r1, r2, r3, r4)) :
    Calls Try.prog 39 #[.agg #[.int .i64 a0_0, .slice A0_1 l0_1.length c0_1]] w fun e w' => ∃ v1_ v2_ : Value, e = .returned (.tuple #[.agg #[.int .i64 r1, v1_], v2_, .int .i64 r4]) ∧ Kd.R k29 29 w' w.heap.size (fun k_ => some k_ ≠ (v2_ : Value).ownBlock) v1_ r2 ∧ Kd.R k29 29 w' w.heap.size (fun k_ => some k_ ≠ (v1_ : Value).ownBlock) v2_ r3 ∧ Below w.heap.size w w' := by
  have hu25 := Try.underlying25
  have hu29 := Try.underlying29
  have HR0_1 := Aside0.mk hr0_1
  have HC0_1 := Aside0.mk hc0_1
  clear hr0_1 hc0_1
  have HB := Aside0.mk (Below.refl w.heap.size w)
  have H : ((R21_Check.f k a0_0 l0_1).bind fun bt299 => (if bt299.1 = 0 then (R21_Wipe.l0 k ([] : List (S29)) 0 a0_0 l0_1 a0_0 ([] : List (S29))) else (some (0, ([] : List (S29)), ([] : List (S29)), bt299.1)))) = some (r1, r2, r3, r4) := h
  clear h
  replace H := Option.bind_eq_some_iff.mp H
  obtain ⟨⟨t299, t300⟩, A20, H⟩ := H
  replace H : (if t299 = 0 then (R21_Wipe.l0 k ([] : List (S29)) 0 a0_0 l0_1 a0_0 ([] : List (S29))) else (some (0, ([] : List (S29)), ([] : List (S29)), t299))) = some (r1, r2, r3, r4) := H
  have A2 := Aside0.mk A20
  clear A20
  by_cases c3 : t299 = 0
  · rw [if_pos c3] at H
    have c3b0 : (t299 == 0) = true := beq_iff_eq.mpr c3
    have c3b1 : (t299 != 0) = false := bne_eq_false_iff_eq.mpr c3
    clear c3
    have H' := Aside0.mk H
    clear H
    go_enter Try.func39, Try.ntmps39
    go_wp2_with (first | ((with_reducible refine gate_dst (N := 1) rfl ?_); refine box_event ?hg (N := 1) ?hd (cs := #[.int .i64 a0_0, .slice A0_1 l0_1.length c0_1]) (t := 25) ?hr ?_; (case hd => rfl); (case hg => rfl); (case hr => first | (go_simp; done) | (go_simp; rfl)); intro gb297 hg w4 hbox hb; have n0_ := Aside0.mk (below_step (by repeat (first | (with_reducible first | exact HB.out | apply below_alloc | apply pw_below_drewN | apply below_drew1) | exact HB.out)) hb); have n1_ := Aside0.mk (hbox); have n2_ := Aside0.mk ((by rw [hg]; exact (below_size (by repeat (first | (with_reducible first | exact HB.out | apply below_alloc | apply pw_below_drewN | apply below_drew1) | exact HB.out))) : w.heap.size ≤ gb297)); have n3_ := Aside0.mk ((by rw [hg]; exact (below_size (by repeat (first | (with_reducible first | exact HB.out | apply below_alloc | apply pw_below_drewN | apply below_drew1) | exact HB.out))) : w.heap.size ≤ gb297)); clear HB; have HB := n0_; have BK297 := n1_; have GW297 := n2_; have GE297 := n3_; clear n0_ n1_ n2_ n3_; clear hb hbox hg) | ((with_reducible refine gate_dst (N := 2) rfl ?_); refine box_event ?hg (N := 2) ?hd (cs := #[.int .i64 0, .slice none 0 0]) (t := 25) ?hr ?_; (case hd => rfl); (case hg => rfl); (case hr => first | (go_simp; done) | (go_simp; rfl)); intro gb298 hg w5 hbox hb; have n0_ := Aside0.mk (blk_below (g := gb297) (o := .cells #[.int .i64 a0_0, .slice A0_1 l0_1.length c0_1] 25 (0, 0)) (by (with_reducible repeat (first | refine blk_drewN ?_ _ | refine blk_drew ?_ | refine blk_alloc ?_ _)); exact BK297.out) hb); have n1_ := Aside0.mk (below_step (by repeat (first | (with_reducible first | exact HB.out | apply below_alloc | apply pw_below_drewN | apply below_drew1 | refine below_set ?_ GE297.out) | exact HB.out)) hb); have n2_ := Aside0.mk (hbox); have n3_ := Aside0.mk ((by rw [hg]; exact (below_size (by repeat (first | (with_reducible first | exact HB.out | apply below_alloc | apply pw_below_drewN | apply below_drew1 | refine below_set ?_ GE297.out) | exact HB.out))) : w.heap.size ≤ gb298)); have n4_ := Aside0.mk ((by rw [hg]; exact (below_size (by repeat (first | (with_reducible first | exact HB.out | apply below_alloc | apply pw_below_drewN | apply below_drew1 | refine below_set ?_ GE297.out) | exact HB.out))) : w.heap.size ≤ gb298)); have n5_ := Aside0.mk ((by rw [hg]; exact Nat.ne_of_lt (blk_lt (g := gb297) (o := .cells #[.int .i64 a0_0, .slice A0_1 l0_1.length c0_1] 25 (0, 0)) (by (with_reducible repeat (first | refine blk_drewN ?_ _ | refine blk_drew ?_ | refine blk_alloc ?_ _)); exact BK297.out)) : gb297 ≠ gb298)); have n6_ := Aside0.mk ((by rw [hg]; exact Nat.ne_of_gt (blk_lt (g := gb297) (o := .cells #[.int .i64 a0_0, .slice A0_1 l0_1.length c0_1] 25 (0, 0)) (by (with_reducible repeat (first | refine blk_drewN ?_ _ | refine blk_drew ?_ | refine blk_alloc ?_ _)); exact BK297.out)) : gb298 ≠ gb297)); clear BK297; clear HB; have BK297 := n0_; have HB := n1_; have BK298 := n2_; have GW298 := n3_; have GE298 := n4_; have NB297_298 := n5_; have NB298_297 := n6_; clear n0_ n1_ n2_ n3_ n4_ n5_ n6_; clear hb hbox hg; have hnb6 := NB297_298.out; have hnc6 := NB298_297.out; have hcz7_0 : w5.cell? ⟨gb297, 0, none⟩ = some (.int .i64 a0_0) := (blk_cell BK297.out 0).trans rfl; have hcz7_1 : w5.cell? ⟨gb297, 1, none⟩ = some (.slice A0_1 l0_1.length c0_1) := (blk_cell BK297.out 1).trans rfl; have hfz7_0 := blk_frozen BK297.out 0; have hfz7_1 := blk_frozen BK297.out 1) | ((with_reducible refine gate_callee (f := 135) rfl ?_); refine goesL_ (some 12) rfl rfl Try.func135 (by kernel_rfl) rfl #[.agg #[.int .i64 a0_0, .slice A0_1 l0_1.length c0_1]] rfl (by (try simp only [List.map_toArray, List.map_cons, List.map_nil]); first | done | rfl | (simp only [List.length_drop, List.length_take]; rfl)) ?_; (with_reducible refine (R21_Check.calls k a0_0 _ _ l0_1 t299 t300 _ ?side1 ?side2 A2.out).mono ?_); (case side1 => repeat (first | exact (Kd.C_below HR0_1.out HB.out) | (with_reducible refine Kd.C_alloc ?_ _) | (with_reducible refine Kd.C_drewN ?_ _) | (with_reducible refine Kd.C_drew ?_))); (case side2 => exact HC0_1.out); rintro e w8 ⟨rfl, hb⟩; refine ⟨_, rfl, ?_⟩; have n0_ := Aside0.mk (blk_below (g := gb297) (o := .cells #[.int .i64 a0_0, .slice A0_1 l0_1.length c0_1] 25 (0, 0)) (by (with_reducible repeat (first | refine blk_drewN ?_ _ | refine blk_drew ?_ | refine blk_alloc ?_ _)); exact BK297.out) hb); have n1_ := Aside0.mk (blk_below (g := gb298) (o := .cells #[.int .i64 0, .slice none 0 0] 25 (0, 0)) (by (with_reducible repeat (first | refine blk_drewN ?_ _ | refine blk_drew ?_ | refine blk_alloc ?_ _)); exact BK298.out) hb); have n2_ := Aside0.mk (below_step (by repeat (first | (with_reducible first | exact HB.out | apply below_alloc | apply pw_below_drewN | apply below_drew1 | refine below_set ?_ GE297.out | refine below_set ?_ GE298.out) | exact HB.out)) hb); clear BK297; clear BK298; clear HB; have BK297 := n0_; have BK298 := n1_; have HB := n2_; clear n0_ n1_ n2_; (try clear hb); (try clear hb2); (try clear hk); (try clear hi); have hcz9_0 : w8.cell? ⟨gb297, 0, none⟩ = some (.int .i64 a0_0) := (blk_cell BK297.out 0).trans rfl; have hcz9_1 : w8.cell? ⟨gb297, 1, none⟩ = some (.slice A0_1 l0_1.length c0_1) := (blk_cell BK297.out 1).trans rfl; have hfz9_0 := blk_frozen BK297.out 0; have hfz9_1 := blk_frozen BK297.out 1) | ((with_reducible refine gate_dst (N := 7) rfl ?_); refine box_event ?hg (N := 7) ?hd (cs := #[.int .i64 0, .slice none 0 0]) (t := 25) ?hr ?_; (case hd => rfl); (case hg => rfl); (case hr => first | (go_simp; done) | (go_simp; rfl)); intro gb301 hg w10 hbox hb; have n0_ := Aside0.mk (blk_below (g := gb297) (o := .cells #[.int .i64 a0_0, .slice A0_1 l0_1.length c0_1] 25 (0, 0)) (by (with_reducible repeat (first | refine blk_drewN ?_ _ | refine blk_drew ?_ | refine blk_alloc ?_ _)); exact BK297.out) hb); have n1_ := Aside0.mk (blk_below (g := gb298) (o := .cells #[.int .i64 0, .slice none 0 0] 25 (0, 0)) (by (with_reducible repeat (first | refine blk_drewN ?_ _ | refine blk_drew ?_ | refine blk_alloc ?_ _)); exact BK298.out) hb); have n2_ := Aside0.mk (below_step (by repeat (first | (with_reducible first | exact HB.out | apply below_alloc | apply pw_below_drewN | apply below_drew1 | refine below_set ?_ GE297.out | refine below_set ?_ GE298.out) | exact HB.out)) hb); have n3_ := Aside0.mk (hbox); have n4_ := Aside0.mk ((by rw [hg]; exact (below_size (by repeat (first | (with_reducible first | exact HB.out | apply below_alloc | apply pw_below_drewN | apply below_drew1 | refine below_set ?_ GE297.out | refine below_set ?_ GE298.out) | exact HB.out))) : w.heap.size ≤ gb301)); have n5_ := Aside0.mk ((by rw [hg]; exact (below_size (by repeat (first | (with_reducible first | exact HB.out | apply below_alloc | apply pw_below_drewN | apply below_drew1 | refine below_set ?_ GE297.out | refine below_set ?_ GE298.out) | exact HB.out))) : w.heap.size ≤ gb301)); have n6_ := Aside0.mk ((by rw [hg]; exact Nat.ne_of_lt (blk_lt (g := gb297) (o := .cells #[.int .i64 a0_0, .slice A0_1 l0_1.length c0_1] 25 (0, 0)) (by (with_reducible repeat (first | refine blk_drewN ?_ _ | refine blk_drew ?_ | refine blk_alloc ?_ _)); exact BK297.out)) : gb297 ≠ gb301)); have n7_ := Aside0.mk ((by rw [hg]; exact Nat.ne_of_gt (blk_lt (g := gb297) (o := .cells #[.int .i64 a0_0, .slice A0_1 l0_1.length c0_1] 25 (0, 0)) (by (with_reducible repeat (first | refine blk_drewN ?_ _ | refine blk_drew ?_ | refine blk_alloc ?_ _)); exact BK297.out)) : gb301 ≠ gb297)); have n8_ := Aside0.mk ((by rw [hg]; exact Nat.ne_of_lt (blk_lt (g := gb298) (o := .cells #[.int .i64 0, .slice none 0 0] 25 (0, 0)) (by (with_reducible repeat (first | refine blk_drewN ?_ _ | refine blk_drew ?_ | refine blk_alloc ?_ _)); exact BK298.out)) : gb298 ≠ gb301)); have n9_ := Aside0.mk ((by rw [hg]; exact Nat.ne_of_gt (blk_lt (g := gb298) (o := .cells #[.int .i64 0, .slice none 0 0] 25 (0, 0)) (by (with_reducible repeat (first | refine blk_drewN ?_ _ | refine blk_drew ?_ | refine blk_alloc ?_ _)); exact BK298.out)) : gb301 ≠ gb298)); clear BK297; clear BK298; clear HB; have BK297 := n0_; have BK298 := n1_; have HB := n2_; have BK301 := n3_; have GW301 := n4_; have GE301 := n5_; have NB297_301 := n6_; have NB301_297 := n7_; have NB298_301 := n8_; have NB301_298 := n9_; clear n0_ n1_ n2_ n3_ n4_ n5_ n6_ n7_ n8_ n9_; clear hb hbox hg; have hnb11 := NB301_297.out; have hnc11 := NB297_301.out; have hnb12 := NB301_298.out; have hnc12 := NB298_301.out; have hcz13_0 : w10.cell? ⟨gb301, 0, none⟩ = some (.int .i64 0) := (blk_cell BK301.out 0).trans rfl; have hcz13_1 : w10.cell? ⟨gb301, 1, none⟩ = some (.slice none 0 0) := (blk_cell BK301.out 1).trans rfl; have hfz13_0 := blk_frozen BK301.out 0; have hfz13_1 := blk_frozen BK301.out 1))
    go_loopg [8, 9] k (fun kq v8 v9 w' => ∃ (x8_1 : List (S29)) (x9_1 : Int) (x302001_1 : List (S29)) (u302001 : Value), v9 = .int .i64 x9_1 ∧ Aside0 (R21_Wipe.l0 kq x8_1 x9_1 a0_0 l0_1 a0_0 x302001_1 = some (r1, r2, r3, r4)) ∧ Aside0 (kq ≤ k) ∧ Aside0 (Kd.R k29 29 w' w.heap.size (fun k_ => some k_ ≠ (u302001 : Value).ownBlock) v8 x8_1) ∧ Aside0 (Kd.R k29 29 w' w.heap.size (fun k_ => some k_ ≠ (v8 : Value).ownBlock) u302001 x302001_1) ∧ Aside0 (w'.heap[gb297]? = some (.cells #[.int .i64 a0_0, (.slice A0_1 l0_1.length c0_1)] 25 (0, 0))) ∧ Aside0 (w'.heap[gb298]? = some (.cells #[.int .i64 0, (.slice none 0 0)] 25 (0, 0))) ∧ Aside0 (w'.heap[gb301]? = some (.cells #[.int .i64 a0_0, u302001] 25 (0, 0))) ∧ Aside0 (Below w.heap.size w w'))
    case atStart => exact ⟨(([] : List (S29))), (0), (([] : List (S29))), (.slice none 0 0), (by first | rfl | (simp; done) | (simp [*]; done)), H', ⟨Nat.le_refl _⟩, ⟨by first | exact Kd.R_nil _ _ _ _ _ | exact Kd.N_nil _ _ _ _ _ | exact Kd.V_nil _ _ _ _ _ | exact Kd.Q_nil _ _ _ _ _ | exact Kd.S_nil _ _ _ _ _⟩, ⟨by first | exact Kd.R_nil _ _ _ _ _ | exact Kd.N_nil _ _ _ _ _ | exact Kd.V_nil _ _ _ _ _ | exact Kd.Q_nil _ _ _ _ _ | exact Kd.S_nil _ _ _ _ _⟩, ⟨by (with_reducible repeat (first | refine blk_drewN ?_ _ | refine blk_drew ?_ | refine blk_alloc ?_ _)); refine blk_far ?_ NB297_301.out _; (with_reducible repeat (first | refine blk_drewN ?_ _ | refine blk_drew ?_ | refine blk_alloc ?_ _)); refine blk_far ?_ NB297_301.out _; (with_reducible repeat (first | refine blk_drewN ?_ _ | refine blk_drew ?_ | refine blk_alloc ?_ _)); exact BK297.out⟩, ⟨by (with_reducible repeat (first | refine blk_drewN ?_ _ | refine blk_drew ?_ | refine blk_alloc ?_ _)); refine blk_far ?_ NB298_301.out _; (with_reducible repeat (first | refine blk_drewN ?_ _ | refine blk_drew ?_ | refine blk_alloc ?_ _)); refine blk_far ?_ NB298_301.out _; (with_reducible repeat (first | refine blk_drewN ?_ _ | refine blk_drew ?_ | refine blk_alloc ?_ _)); exact BK298.out⟩, ⟨by (with_reducible repeat (first | refine blk_drewN ?_ _ | refine blk_drew ?_ | refine blk_alloc ?_ _)); refine blk_put (cs := #[.int .i64 a0_0, .slice none 0 0]) ?_ 1 _ rfl; (with_reducible repeat (first | refine blk_drewN ?_ _ | refine blk_drew ?_ | refine blk_alloc ?_ _)); refine blk_put (cs := #[.int .i64 0, .slice none 0 0]) ?_ 0 _ rfl; (with_reducible repeat (first | refine blk_drewN ?_ _ | refine blk_drew ?_ | refine blk_alloc ?_ _)); exact BK301.out⟩, ⟨by repeat (first | (with_reducible first | exact HB.out | apply below_alloc | apply pw_below_drewN | apply below_drew1 | refine below_set ?_ GE297.out | refine below_set ?_ GE298.out | refine below_set ?_ GE301.out) | exact HB.out)⟩⟩
    case round =>
      clear H'
      try clear c1
      try clear p2
      try clear c3
      try clear c3b0
      try clear c3b1
      try clear c6
      try clear c11
      try clear c12
      try clear c13
      try clear hcz13_0
      try clear hcz13_1
      try clear hcz7_0
      try clear hcz7_1
      try clear hcz9_0
      try clear hcz9_1
      try clear hfz13_0
      try clear hfz13_1
      try clear hfz7_0
      try clear hfz7_1
      try clear hfz9_0
      try clear hfz9_1
      obtain ⟨x8_1, x9_1, x302001_1, u302001, rfl, HA, HK1, HO_8, HO_302001, BK297, BK298, BK301, HB⟩ := hrel
      cases gk with
      | zero => exact absurd HA.out (by simp [R21_Wipe.l0])
      | succ k1 =>
        have H := HA.out
        clear HA
        simp only [R21_Wipe.l0] at H
        by_cases c14 : x9_1 < (l0_1.length : Int)
        · rw [if_pos c14] at H
          have c14b0 : decide (x9_1 < (l0_1.length : Int)) = true := decide_eq_true c14
          clear c14
          by_cases c15 : 0 ≤ x9_1
          · rw [if_pos c15] at H
            have c15b0 : decide (0 ≤ x9_1) = true := decide_eq_true c15
            clear c15
            replace H := Option.bind_eq_some_iff.mp H
            obtain ⟨t303, A160, H⟩ := H
            replace H : (if t303 = true then (if x302001_1.length < 4398046511104 then (R21_Wipe.l0 k1 x8_1 (wrap64 (x9_1 + 1)) a0_0 l0_1 a0_0 (x302001_1 ++ [(⟨(rd_T29 l0_1 x9_1).f0, (rd_T29 l0_1 x9_1).f1, (rd_T29 l0_1 x9_1).f2, (rd_T29 l0_1 x9_1).f3⟩ : S29)])) else (none)) else (if x8_1.length < 4398046511104 then (R21_Wipe.l0 k1 (x8_1 ++ [(⟨(rd_T29 l0_1 x9_1).f0, (rd_T29 l0_1 x9_1).f1, (rd_T29 l0_1 x9_1).f2, (rd_T29 l0_1 x9_1).f3⟩ : S29)]) (wrap64 (x9_1 + 1)) a0_0 l0_1 a0_0 x302001_1) else (none))) = some (r1, r2, r3, r4) := H
            have A16 := Aside0.mk A160
            clear A160
            by_cases c17 : t303 = true
            · subst c17
              have H1 : (if x302001_1.length < 4398046511104 then (R21_Wipe.l0 k1 x8_1 (wrap64 (x9_1 + 1)) a0_0 l0_1 a0_0 (x302001_1 ++ [(⟨(rd_T29 l0_1 x9_1).f0, (rd_T29 l0_1 x9_1).f1, (rd_T29 l0_1 x9_1).f2, (rd_T29 l0_1 x9_1).f3⟩ : S29)])) else (none)) = some (r1, r2, r3, r4) := by rw [if_pos rfl] at H; exact H
              clear H
              have H := H1
              clear H1
              by_cases c18 : x302001_1.length < 4398046511104
              · rw [if_pos c18] at H
                have LMc18 := Aside0.mk c18
                clear c18
                obtain ⟨y305, hy305⟩ : ∃ y_ : List (S29), y_ = (x302001_1 ++ [(⟨(rd_T29 l0_1 x9_1).f0, (rd_T29 l0_1 x9_1).f1, (rd_T29 l0_1 x9_1).f2, (rd_T29 l0_1 x9_1).f3⟩ : S29)]) := ⟨_, rfl⟩
                replace H : (R21_Wipe.l0 k1 x8_1 (wrap64 (x9_1 + 1)) a0_0 l0_1 a0_0 y305) = some (r1, r2, r3, r4) := by first | (rw [hy305]; with_reducible exact H) | (have H2_ := (Option.bind_some _ _).symm.trans H; rw [hy305]; with_reducible exact H2_) | (have H2_ := (Option.bind_some _ _).symm.trans H; with_reducible exact H2_) | with_reducible exact H | (rw [hy305]; exact H) | exact H
                have Ny305 := Aside0.mk hy305
                clear hy305
                have H' := Aside0.mk H
                clear H
                have hnb19 := NB297_298.out
                have hnc19 := NB298_297.out
                have hnb20 := NB297_301.out
                have hnc20 := NB301_297.out
                have hcz21_0 : wr.cell? ⟨gb297, 0, none⟩ = some (.int .i64 a0_0) := (blk_cell BK297.out 0).trans rfl
                have hcz21_1 : wr.cell? ⟨gb297, 1, none⟩ = some (.slice A0_1 l0_1.length c0_1) := (blk_cell BK297.out 1).trans rfl
                have hfz21_0 := blk_frozen BK297.out 0
                have hfz21_1 := blk_frozen BK297.out 1
                have p302 : 0 ≤ (x9_1 : Int) := of_decide_eq_true (by first | (with_reducible assumption) | assumption)
                have q302 : x9_1 < (l0_1.length : Int) := of_decide_eq_true (by first | (with_reducible assumption) | assumption)
                obtain ⟨ad302, e302, hx302_0, hx302_1, hx302_2, hx302_3⟩ := at_T29 HR0_1.out x9_1 p302 q302
                cases e302
                replace hx302_0 := (HB.out.cell (World.block_lt_of_cell? w _ hx302_0)).trans hx302_0
                replace hx302_1 := (HB.out.cell (World.block_lt_of_cell? w _ hx302_1)).trans hx302_1
                replace hx302_2 := (HB.out.cell (World.block_lt_of_cell? w _ hx302_2)).trans hx302_2
                replace hx302_3 := (HB.out.cell (World.block_lt_of_cell? w _ hx302_3)).trans hx302_3
                replace p302 := eq_true p302
                replace q302 := eq_true q302
                try go_wp2_with (first | ((with_reducible refine gate_callee (f := 136) rfl ?_); refine goesL_ (some 34) rfl rfl Try.func136 (by kernel_rfl) rfl #[.agg #[.int .i64 ((rd_T29 l0_1 x9_1).f0), .int .i64 ((rd_T29 l0_1 x9_1).f1), .int .i64 ((rd_T29 l0_1 x9_1).f2), .int .i64 ((rd_T29 l0_1 x9_1).f3)]] rfl (by (try simp only [List.map_toArray, List.map_cons, List.map_nil]); first | done | rfl | (simp only [List.length_drop, List.length_take]; rfl)) ?_; (with_reducible refine (R21_hall.calls ((rd_T29 l0_1 x9_1).f0) ((rd_T29 l0_1 x9_1).f1) ((rd_T29 l0_1 x9_1).f2) ((rd_T29 l0_1 x9_1).f3) true _ A16.out).mono ?_); rintro e w22 ⟨rfl, hb⟩; refine ⟨_, rfl, ?_⟩; have n0_ := Aside0.mk (Kd.R_below (by (with_reducible repeat (first | apply Kd.R_alloc | apply Kd.R_drewN | apply Kd.R_drew)); exact HO_8.out) hb); have n1_ := Aside0.mk (Kd.R_below (by (with_reducible repeat (first | apply Kd.R_alloc | apply Kd.R_drewN | apply Kd.R_drew)); exact HO_302001.out) hb); have n2_ := Aside0.mk (blk_below (g := gb297) (o := .cells #[.int .i64 a0_0, .slice (some ad302) l0_1.length c0_1] 25 (0, 0)) (by (with_reducible repeat (first | refine blk_drewN ?_ _ | refine blk_drew ?_ | refine blk_alloc ?_ _)); exact BK297.out) hb); have n3_ := Aside0.mk (blk_below (g := gb298) (o := .cells #[.int .i64 0, .slice none 0 0] 25 (0, 0)) (by (with_reducible repeat (first | refine blk_drewN ?_ _ | refine blk_drew ?_ | refine blk_alloc ?_ _)); exact BK298.out) hb); have n4_ := Aside0.mk (blk_below (g := gb301) (o := .cells #[.int .i64 a0_0, u302001] 25 (0, 0)) (by (with_reducible repeat (first | refine blk_drewN ?_ _ | refine blk_drew ?_ | refine blk_alloc ?_ _)); exact BK301.out) hb); have n5_ := Aside0.mk (below_step (by repeat (first | (with_reducible first | exact HB.out | apply below_alloc | apply pw_below_drewN | apply below_drew1 | refine below_set ?_ GE297.out | refine below_set ?_ GE298.out | refine below_set ?_ GE301.out) | exact HB.out)) hb); clear HO_8; clear HO_302001; clear BK297; clear BK298; clear BK301; clear HB; have HO_8 := n0_; have HO_302001 := n1_; have BK297 := n2_; have BK298 := n3_; have BK301 := n4_; have HB := n5_; clear n0_ n1_ n2_ n3_ n4_ n5_; (try clear hb); (try clear hb2); (try clear hk); (try clear hi)))
                have n0_ := Aside0.mk (Kd.R_drew HO_8.out)
                have n1_ := Aside0.mk (Kd.R_drew HO_302001.out)
                have n2_ := Aside0.mk (blk_drew BK297.out)
                have n3_ := Aside0.mk (blk_drew BK298.out)
                have n4_ := Aside0.mk (blk_drew BK301.out)
                have n5_ := Aside0.mk (below_drew1 HB.out)
                clear HO_8
                clear HO_302001
                clear BK297
                clear BK298
                clear BK301
                clear HB
                have HO_8 := n0_
                have HO_302001 := n1_
                have BK297 := n2_
                have BK298 := n3_
                have BK301 := n4_
                have HB := n5_
                clear n0_ n1_ n2_ n3_ n4_ n5_
                have p304 : 0 ≤ (x9_1 : Int) := of_decide_eq_true (by first | (with_reducible assumption) | assumption)
                have q304 : x9_1 < (l0_1.length : Int) := of_decide_eq_true (by first | (with_reducible assumption) | assumption)
                obtain ⟨ad304, e304, hx304_0, hx304_1, hx304_2, hx304_3⟩ := at_T29 HR0_1.out x9_1 p304 q304
                have hw304_3 := hx304_3
                have hw304_2 := hx304_2
                have hw304_1 := hx304_1
                have hw304_0 := hx304_0
                obtain rfl : ad302 = ad304 := (by injection e304)
                replace hx304_0 := (HB.out.cell (World.block_lt_of_cell? w _ hx304_0)).trans hx304_0
                replace hx304_1 := (HB.out.cell (World.block_lt_of_cell? w _ hx304_1)).trans hx304_1
                replace hx304_2 := (HB.out.cell (World.block_lt_of_cell? w _ hx304_2)).trans hx304_2
                replace hx304_3 := (HB.out.cell (World.block_lt_of_cell? w _ hx304_3)).trans hx304_3
                replace p304 := eq_true p304
                replace q304 := eq_true q304
                refine start_ (n := 11) (S := fun w' => w'.cell? ⟨gb301, 0, none⟩ = some (.int .i64 a0_0) ∧ w'.cell? ⟨gb301, 1, none⟩ = some (u302001) ∧ w'.cell? ⟨gb297, 0, none⟩ = some (.int .i64 a0_0) ∧ w'.cell? ⟨gb297, 1, none⟩ = some (.slice (some ad302) l0_1.length c0_1) ∧ w'.cell? (ad302.add ((x9_1).toNat * 4)) = some (.int .i64 ((rd_T29 l0_1 x9_1).f0)) ∧ w'.cell? ⟨(ad302.add ((x9_1).toNat * 4)).block, (ad302.add ((x9_1).toNat * 4)).off + 1, none⟩ = some (.int .i64 ((rd_T29 l0_1 x9_1).f1)) ∧ w'.cell? ⟨(ad302.add ((x9_1).toNat * 4)).block, (ad302.add ((x9_1).toNat * 4)).off + 2, none⟩ = some (.int .i64 ((rd_T29 l0_1 x9_1).f2)) ∧ w'.cell? ⟨(ad302.add ((x9_1).toNat * 4)).block, (ad302.add ((x9_1).toNat * 4)).off + 3, none⟩ = some (.int .i64 ((rd_T29 l0_1 x9_1).f3))) (ds := [10]) #[false, false, false, false, false, false, false, false, false, false, false] (by kernel_rfl) rfl rfl ⟨(blk_cell BK301.out 0).trans rfl, (blk_cell BK301.out 1).trans rfl, (blk_cell BK297.out 0).trans rfl, (blk_cell BK297.out 1).trans rfl, ((HB.out.cell (World.block_lt_of_cell? w _ hw304_0)).trans hw304_0), ((HB.out.cell (World.block_lt_of_cell? w _ hw304_1)).trans hw304_1), ((HB.out.cell (World.block_lt_of_cell? w _ hw304_2)).trans hw304_2), ((HB.out.cell (World.block_lt_of_cell? w _ hw304_3)).trans hw304_3)⟩ (fun hHeld => ?_); refine with_tabW R21_Wipe.tab10 R21_Wipe.bits10 (fun HT_ HW_ => ?_)
                generalize w22.drew = w23 at HO_8 HO_302001 BK297 BK298 BK301 HB hx304_0 hx304_1 hx304_2 hx304_3 hHeld ⊢
                refine pure_ (i := 0) (N := some 35) (v := ?_) (a' := ?_) #[true, false, false, false, false, false, false, false, false, false, false] rfl rfl (any_of HT_.out (by kernel_rfl)) (fun _ _ _ h => h) (Or.inl ⟨by rfl, ?_⟩) ?_ ?_
                rotate_left
                · intro w'
                  go_simp
                  with_reducible rfl
                rotate_left
                · simp only [Act.put, List.setIfInBounds_toArray, List.set_cons_zero, List.set_cons_succ, i64_w, i32_w]
                  rfl
                refine pure_ (i := 2) (N := some 37) (v := ?_) (a' := ?_) #[true, false, true, false, false, false, false, false, false, false, false] rfl rfl (any_of HT_.out (by kernel_rfl)) (fun _ _ _ h => h) (Or.inl ⟨by rfl, ?_⟩) ?_ ?_
                rotate_left
                · intro w'
                  go_simp
                  with_reducible rfl
                rotate_left
                · simp only [Act.put, List.setIfInBounds_toArray, List.set_cons_zero, List.set_cons_succ, i64_w, i32_w]
                  rfl
                refine pure_ (i := 4) (N := some 39) (v := ?_) (a' := ?_) #[true, false, true, false, true, false, false, false, false, false, false] rfl rfl (any_of HT_.out (by kernel_rfl)) (fun _ _ _ h => h) (Or.inl ⟨by rfl, ?_⟩) ?_ ?_
                rotate_left
                · intro w'
                  go_simp
                  with_reducible rfl
                rotate_left
                · simp only [Act.put, List.setIfInBounds_toArray, List.set_cons_zero, List.set_cons_succ, i64_w, i32_w]
                  rfl
                refine take_ (i := 1) (N := some 36) (v := ?_) (a' := ?_) #[true, true, true, false, true, false, false, false, false, false, false] rfl rfl (take_ofW HT_.out HW_.out (by kernel_rfl)) (fun _ _ _ h => h) (Or.inl ⟨by rfl, ?_⟩) hHeld ?_ ?_
                rotate_left
                · rintro w' ⟨s0, s1, s2, s3, s4, s5, s6, s7⟩
                  go_simp
                  with_reducible rfl
                rotate_left
                · simp only [Act.put, List.setIfInBounds_toArray, List.set_cons_zero, List.set_cons_succ, i64_w, i32_w]
                  rfl
                refine take_ (i := 3) (N := some 38) (v := ?_) (a' := ?_) #[true, true, true, true, true, false, false, false, false, false, false] rfl rfl (take_ofW HT_.out HW_.out (by kernel_rfl)) (fun _ _ _ h => h) (Or.inl ⟨by rfl, ?_⟩) hHeld ?_ ?_
                rotate_left
                · rintro w' ⟨s0, s1, s2, s3, s4, s5, s6, s7⟩
                  go_simp
                  with_reducible rfl
                rotate_left
                · simp only [Act.put, List.setIfInBounds_toArray, List.set_cons_zero, List.set_cons_succ, i64_w, i32_w]
                  rfl
                refine pure_ (i := 5) (N := some 40) (v := ?_) (a' := ?_) #[true, true, true, true, true, true, false, false, false, false, false] rfl rfl (any_of HT_.out (by kernel_rfl)) (fun _ _ _ h => h) (Or.inl ⟨by rfl, ?_⟩) ?_ ?_
                rotate_left
                · intro w'
                  go_simp
                  with_reducible rfl
                rotate_left
                · simp only [Act.put, List.setIfInBounds_toArray, List.set_cons_zero, List.set_cons_succ, i64_w, i32_w]
                  rfl
                refine take_ (i := 6) (N := some 41) (v := ?_) (a' := ?_) #[true, true, true, true, true, true, true, false, false, false, false] rfl rfl (take_ofW HT_.out HW_.out (by kernel_rfl)) (fun _ _ _ h => h) (Or.inl ⟨by rfl, ?_⟩) hHeld ?_ ?_
                rotate_left
                · rintro w' ⟨s0, s1, s2, s3, s4, s5, s6, s7⟩
                  go_simp
                  with_reducible rfl
                rotate_left
                · simp only [Act.put, List.setIfInBounds_toArray, List.set_cons_zero, List.set_cons_succ, i64_w, i32_w]
                  rfl
                refine one_ (i := 7) (N := some 42) #[true, true, true, true, true, true, true, true, false, false, false] rfl rfl (one_of HT_.out (by kernel_rfl)) (by decide) (fun K hK => ?_)
                refine value_ (w1 := ?_) (v := ?_) (by rfl) rfl ?_ ?_
                rotate_left 2
                · go_simp
                  constructor
                  · rfl
                  · rfl
                refine hK.out _ _ ⟨(blk_cell (blk_alloc BK301.out _) 0).trans rfl, (blk_cell (blk_alloc BK301.out _) 1).trans rfl, (blk_cell (blk_alloc BK297.out _) 0).trans rfl, (blk_cell (blk_alloc BK297.out _) 1).trans rfl, (World.cell?_alloc_lt _ _ _ (World.block_lt_of_cell? _ _ (((HB.out.cell (World.block_lt_of_cell? w _ hw304_0)).trans hw304_0)))).trans (((HB.out.cell (World.block_lt_of_cell? w _ hw304_0)).trans hw304_0)), (World.cell?_alloc_lt _ _ _ (World.block_lt_of_cell? _ _ (((HB.out.cell (World.block_lt_of_cell? w _ hw304_1)).trans hw304_1)))).trans (((HB.out.cell (World.block_lt_of_cell? w _ hw304_1)).trans hw304_1)), (World.cell?_alloc_lt _ _ _ (World.block_lt_of_cell? _ _ (((HB.out.cell (World.block_lt_of_cell? w _ hw304_2)).trans hw304_2)))).trans (((HB.out.cell (World.block_lt_of_cell? w _ hw304_2)).trans hw304_2)), (World.cell?_alloc_lt _ _ _ (World.block_lt_of_cell? _ _ (((HB.out.cell (World.block_lt_of_cell? w _ hw304_3)).trans hw304_3)))).trans (((HB.out.cell (World.block_lt_of_cell? w _ hw304_3)).trans hw304_3))⟩ (fun hHeld => ?_)
                clear hK K
                refine norm_ (a' := ?_) ?_ ?_
                rotate_left
                · show Act.put _ (some 42) _ = _
                  simp only [Act.put, List.setIfInBounds_toArray, List.set_cons_zero, List.set_cons_succ, i64_w, i32_w]
                  rfl
                refine one_ (i := 8) (N := some 43) #[true, true, true, true, true, true, true, true, true, false, false] rfl rfl (one_of HT_.out (by kernel_rfl)) (by decide) (fun K hK => ?_)
                refine Kd.R_append_step k29 (w0 := w) w.heap.size (by rfl) (.tmp 36) (.tmp 42) 23 29 (.agg #[(.int .i64 0), (.int .i64 0), (.int .i64 0), (.int .i64 0)]) 32 rfl Try.underlying23 info29 rfl (by decide) (by omega) u302001 x302001_1 (⟨(rd_T29 l0_1 x9_1).f0, (rd_T29 l0_1 x9_1).f1, (rd_T29 l0_1 x9_1).f2, (rd_T29 l0_1 x9_1).f3⟩ : S29) [.int .i64 ((rd_T29 l0_1 x9_1).f0), .int .i64 ((rd_T29 l0_1 x9_1).f1), .int .i64 ((rd_T29 l0_1 x9_1).f2), .int .i64 ((rd_T29 l0_1 x9_1).f3)] (fun k_ => some k_ ≠ (u8 : Value).ownBlock) (fun _ => False) rfl rfl ?aP (fun _ hk => hk.elim) ?aF ?aO ?aB ?aS ?aL ?_
                (case aP => exact k29_mkM _ _ _ (⟨(rd_T29 l0_1 x9_1).f0, (rd_T29 l0_1 x9_1).f1, (rd_T29 l0_1 x9_1).f2, (rd_T29 l0_1 x9_1).f3⟩ : S29))
                (case aB => exact (by repeat (first | (with_reducible first | exact HB.out | apply below_alloc | apply pw_below_drewN | apply below_drew1 | refine below_set ?_ GE297.out | refine below_set ?_ GE298.out | refine below_set ?_ GE301.out) | exact HB.out)))
                (case aF => exact (fun k_ hk => Kd.fresh' (Kd.R_lt (by (with_reducible repeat (first | apply Kd.R_alloc | apply Kd.R_drewN | apply Kd.R_drew)); exact HO_8.out)) k_ hk))
                (case aO => exact (by (with_reducible repeat (first | apply Kd.R_alloc | apply Kd.R_drewN | apply Kd.R_drew)); exact HO_302001.out))
                (case aS => exact (below_size (by repeat (first | (with_reducible first | exact HB.out | apply below_alloc | apply pw_below_drewN | apply below_drew1 | refine below_set ?_ GE297.out | refine below_set ?_ GE298.out | refine below_set ?_ GE301.out) | exact HB.out))))
                (case aL => have := LMc18.out; omega)
                intro v306 w24 ho hb hg hat
                rw [← Ny305.out] at ho
                have n0_ := Aside0.mk (Kd.R_after (ok := (fun _ => True)) (by (with_reducible repeat (first | apply Kd.R_alloc | apply Kd.R_drewN | apply Kd.R_drew)); exact Kd.R_mono HO_8.out (fun _ hk => ⟨trivial, hk⟩)) hg hat)
                have n1_ := Aside0.mk (blk_grown (g := gb297) (o := .cells #[.int .i64 a0_0, .slice (some ad302) l0_1.length c0_1] 25 (0, 0)) (by (with_reducible repeat (first | refine blk_drewN ?_ _ | refine blk_drew ?_ | refine blk_alloc ?_ _)); exact BK297.out) hg (Kd.R_ne HO_302001.out BK297.out (by decide)))
                have n2_ := Aside0.mk (blk_grown (g := gb298) (o := .cells #[.int .i64 0, .slice none 0 0] 25 (0, 0)) (by (with_reducible repeat (first | refine blk_drewN ?_ _ | refine blk_drew ?_ | refine blk_alloc ?_ _)); exact BK298.out) hg (Kd.R_ne HO_302001.out BK298.out (by decide)))
                have n3_ := Aside0.mk (blk_grown (g := gb301) (o := .cells #[.int .i64 a0_0, u302001] 25 (0, 0)) (by (with_reducible repeat (first | refine blk_drewN ?_ _ | refine blk_drew ?_ | refine blk_alloc ?_ _)); exact BK301.out) hg (Kd.R_ne HO_302001.out BK301.out (by decide)))
                have n4_ := Aside0.mk (hb)
                have n5_ := Aside0.mk (ho)
                clear HO_8
                clear BK297
                clear BK298
                clear BK301
                clear HB
                clear HO_302001
                have HO_8 := n0_
                have BK297 := n1_
                have BK298 := n2_
                have BK301 := n3_
                have HB := n4_
                have HO307 := n5_
                clear n0_ n1_ n2_ n3_ n4_ n5_
                clear ho hb hg hat
                obtain ⟨Ao25, co25, eo25⟩ := Kd.R_slice HO307.out
                (first | subst eo25 | (injection eo25 with f1_ f2_ f3_; have f4_ := f1_.symm; have f5_ := f3_.symm; clear f1_ f2_ f3_; subst f4_; subst f5_))
                refine hK.out _ _ ⟨(blk_cell BK301.out 0).trans rfl, (blk_cell BK301.out 1).trans rfl, (blk_cell BK297.out 0).trans rfl, (blk_cell BK297.out 1).trans rfl, ((HB.out.cell (World.block_lt_of_cell? w _ hw304_0)).trans hw304_0), ((HB.out.cell (World.block_lt_of_cell? w _ hw304_1)).trans hw304_1), ((HB.out.cell (World.block_lt_of_cell? w _ hw304_2)).trans hw304_2), ((HB.out.cell (World.block_lt_of_cell? w _ hw304_3)).trans hw304_3)⟩ (fun hHeld => ?_)
                clear hK K
                refine norm_ (a' := ?_) ?_ ?_
                rotate_left
                · show Act.put _ (some 43) _ = _
                  simp only [Act.put, List.setIfInBounds_toArray, List.set_cons_zero, List.set_cons_succ, i64_w, i32_w]
                  rfl
                refine pure_ (i := 9) (N := some 44) (v := ?_) (a' := ?_) #[true, true, true, true, true, true, true, true, true, true, false] rfl rfl (any_of HT_.out (by kernel_rfl)) (fun _ _ _ h => h) (Or.inl ⟨by rfl, ?_⟩) ?_ ?_
                rotate_left
                · intro w'
                  go_simp
                  with_reducible rfl
                rotate_left
                · simp only [Act.put, List.setIfInBounds_toArray, List.set_cons_zero, List.set_cons_succ, i64_w, i32_w]
                  rfl
                refine last_ (i := 10) (N := none) #[true, true, true, true, true, true, true, true, true, true, true] rfl rfl (one_of HT_.out (by kernel_rfl)) (by decide) (fun K hK => ?_)
                have hs26 : w24.cell? ⟨gb301, 1, none⟩ = some (u302001) := (blk_cell BK301.out 1).trans rfl
                have hfs26 := blk_frozen BK301.out 1
                have hns26_0 := NB297_301.out
                have hns26_1 := NB298_301.out
                have hms26_0 := NB301_297.out
                have hms26_1 := NB301_298.out
                refine skip_ (w1 := ?_) (by rfl) rfl ?_ ?_
                rotate_left
                · go_simp
                  rfl
                refine hK.out _ _ ?_
                clear hK K
                refine done_ (done_of HT_.out (by kernel_rfl)) ?_
                try go_wp2
                go_roundg k1
                case measure => have := HK1.out; omega
                case rel => exact ⟨(x8_1), (wrap64 (x9_1 + 1)), (y305), (.slice Ao25 y305.length co25), (by first | rfl | (simp; done) | (simp [*]; done)), H', ⟨by have := HK1.out; omega⟩, ⟨by (with_reducible repeat (first | apply Kd.R_alloc | apply Kd.R_drewN | apply Kd.R_drew)); exact Kd.R_mono (Kd.R_far (p := ⟨gb301, 1, none⟩) (Kd.R_types HO_8.out BK301.out (by decide)) (fun _ hk => hk.2) (.slice Ao25 y305.length co25)) (fun _ hk => hk.1.2)⟩, ⟨by (with_reducible repeat (first | apply Kd.R_alloc | apply Kd.R_drewN | apply Kd.R_drew)); exact Kd.R_mono (Kd.R_far (p := ⟨gb301, 1, none⟩) (Kd.R_types HO307.out BK301.out (by decide)) (fun _ hk => hk.2) (.slice Ao25 y305.length co25)) (fun _ hk => hk.1)⟩, ⟨by (with_reducible repeat (first | refine blk_drewN ?_ _ | refine blk_drew ?_ | refine blk_alloc ?_ _)); refine blk_far ?_ NB297_301.out _; (with_reducible repeat (first | refine blk_drewN ?_ _ | refine blk_drew ?_ | refine blk_alloc ?_ _)); exact BK297.out⟩, ⟨by (with_reducible repeat (first | refine blk_drewN ?_ _ | refine blk_drew ?_ | refine blk_alloc ?_ _)); refine blk_far ?_ NB298_301.out _; (with_reducible repeat (first | refine blk_drewN ?_ _ | refine blk_drew ?_ | refine blk_alloc ?_ _)); exact BK298.out⟩, ⟨by (with_reducible repeat (first | refine blk_drewN ?_ _ | refine blk_drew ?_ | refine blk_alloc ?_ _)); refine blk_put (cs := #[.int .i64 a0_0, u302001]) ?_ 1 _ rfl; (with_reducible repeat (first | refine blk_drewN ?_ _ | refine blk_drew ?_ | refine blk_alloc ?_ _)); exact BK301.out⟩, ⟨by repeat (first | (with_reducible first | exact HB.out | apply below_alloc | apply pw_below_drewN | apply below_drew1 | refine below_set ?_ GE297.out | refine below_set ?_ GE298.out | refine below_set ?_ GE301.out) | exact HB.out)⟩⟩
              · rw [if_neg c18] at H
                exact absurd H (by simp)
            · replace c17 := Bool.eq_false_iff.mpr c17
              subst c17
              have H1 : (if x8_1.length < 4398046511104 then (R21_Wipe.l0 k1 (x8_1 ++ [(⟨(rd_T29 l0_1 x9_1).f0, (rd_T29 l0_1 x9_1).f1, (rd_T29 l0_1 x9_1).f2, (rd_T29 l0_1 x9_1).f3⟩ : S29)]) (wrap64 (x9_1 + 1)) a0_0 l0_1 a0_0 x302001_1) else (none)) = some (r1, r2, r3, r4) := by rw [if_neg (show ¬ (false = true) by decide)] at H; exact H
              clear H
              have H := H1
              clear H1
              by_cases c27 : x8_1.length < 4398046511104
              · rw [if_pos c27] at H
                have LMc27 := Aside0.mk c27
                clear c27
                obtain ⟨y309, hy309⟩ : ∃ y_ : List (S29), y_ = (x8_1 ++ [(⟨(rd_T29 l0_1 x9_1).f0, (rd_T29 l0_1 x9_1).f1, (rd_T29 l0_1 x9_1).f2, (rd_T29 l0_1 x9_1).f3⟩ : S29)]) := ⟨_, rfl⟩
                replace H : (R21_Wipe.l0 k1 y309 (wrap64 (x9_1 + 1)) a0_0 l0_1 a0_0 x302001_1) = some (r1, r2, r3, r4) := by first | (rw [hy309]; with_reducible exact H) | (have H2_ := (Option.bind_some _ _).symm.trans H; rw [hy309]; with_reducible exact H2_) | (have H2_ := (Option.bind_some _ _).symm.trans H; with_reducible exact H2_) | with_reducible exact H | (rw [hy309]; exact H) | exact H
                have Ny309 := Aside0.mk hy309
                clear hy309
                have H' := Aside0.mk H
                clear H
                have hnb28 := NB297_298.out
                have hnc28 := NB298_297.out
                have hnb29 := NB297_301.out
                have hnc29 := NB301_297.out
                have hcz30_0 : wr.cell? ⟨gb297, 0, none⟩ = some (.int .i64 a0_0) := (blk_cell BK297.out 0).trans rfl
                have hcz30_1 : wr.cell? ⟨gb297, 1, none⟩ = some (.slice A0_1 l0_1.length c0_1) := (blk_cell BK297.out 1).trans rfl
                have hfz30_0 := blk_frozen BK297.out 0
                have hfz30_1 := blk_frozen BK297.out 1
                have p302 : 0 ≤ (x9_1 : Int) := of_decide_eq_true (by first | (with_reducible assumption) | assumption)
                have q302 : x9_1 < (l0_1.length : Int) := of_decide_eq_true (by first | (with_reducible assumption) | assumption)
                obtain ⟨ad302, e302, hx302_0, hx302_1, hx302_2, hx302_3⟩ := at_T29 HR0_1.out x9_1 p302 q302
                cases e302
                replace hx302_0 := (HB.out.cell (World.block_lt_of_cell? w _ hx302_0)).trans hx302_0
                replace hx302_1 := (HB.out.cell (World.block_lt_of_cell? w _ hx302_1)).trans hx302_1
                replace hx302_2 := (HB.out.cell (World.block_lt_of_cell? w _ hx302_2)).trans hx302_2
                replace hx302_3 := (HB.out.cell (World.block_lt_of_cell? w _ hx302_3)).trans hx302_3
                replace p302 := eq_true p302
                replace q302 := eq_true q302
                go_wp2_with (first | ((with_reducible refine gate_callee (f := 136) rfl ?_); refine goesL_ (some 34) rfl rfl Try.func136 (by kernel_rfl) rfl #[.agg #[.int .i64 ((rd_T29 l0_1 x9_1).f0), .int .i64 ((rd_T29 l0_1 x9_1).f1), .int .i64 ((rd_T29 l0_1 x9_1).f2), .int .i64 ((rd_T29 l0_1 x9_1).f3)]] rfl (by (try simp only [List.map_toArray, List.map_cons, List.map_nil]); first | done | rfl | (simp only [List.length_drop, List.length_take]; rfl)) ?_; (with_reducible refine (R21_hall.calls ((rd_T29 l0_1 x9_1).f0) ((rd_T29 l0_1 x9_1).f1) ((rd_T29 l0_1 x9_1).f2) ((rd_T29 l0_1 x9_1).f3) false _ A16.out).mono ?_); rintro e w31 ⟨rfl, hb⟩; refine ⟨_, rfl, ?_⟩; have n0_ := Aside0.mk (Kd.R_below (by (with_reducible repeat (first | apply Kd.R_alloc | apply Kd.R_drewN | apply Kd.R_drew)); exact HO_8.out) hb); have n1_ := Aside0.mk (Kd.R_below (by (with_reducible repeat (first | apply Kd.R_alloc | apply Kd.R_drewN | apply Kd.R_drew)); exact HO_302001.out) hb); have n2_ := Aside0.mk (blk_below (g := gb297) (o := .cells #[.int .i64 a0_0, .slice (some ad302) l0_1.length c0_1] 25 (0, 0)) (by (with_reducible repeat (first | refine blk_drewN ?_ _ | refine blk_drew ?_ | refine blk_alloc ?_ _)); exact BK297.out) hb); have n3_ := Aside0.mk (blk_below (g := gb298) (o := .cells #[.int .i64 0, .slice none 0 0] 25 (0, 0)) (by (with_reducible repeat (first | refine blk_drewN ?_ _ | refine blk_drew ?_ | refine blk_alloc ?_ _)); exact BK298.out) hb); have n4_ := Aside0.mk (blk_below (g := gb301) (o := .cells #[.int .i64 a0_0, u302001] 25 (0, 0)) (by (with_reducible repeat (first | refine blk_drewN ?_ _ | refine blk_drew ?_ | refine blk_alloc ?_ _)); exact BK301.out) hb); have n5_ := Aside0.mk (below_step (by repeat (first | (with_reducible first | exact HB.out | apply below_alloc | apply pw_below_drewN | apply below_drew1 | refine below_set ?_ GE297.out | refine below_set ?_ GE298.out | refine below_set ?_ GE301.out) | exact HB.out)) hb); clear HO_8; clear HO_302001; clear BK297; clear BK298; clear BK301; clear HB; have HO_8 := n0_; have HO_302001 := n1_; have BK297 := n2_; have BK298 := n3_; have BK301 := n4_; have HB := n5_; clear n0_ n1_ n2_ n3_ n4_ n5_; (try clear hb); (try clear hb2); (try clear hk); (try clear hi); have hcz32_0 : w31.cell? ⟨gb297, 0, none⟩ = some (.int .i64 a0_0) := (blk_cell BK297.out 0).trans rfl; have hcz32_1 : w31.cell? ⟨gb297, 1, none⟩ = some (.slice (some ad302) l0_1.length c0_1) := (blk_cell BK297.out 1).trans rfl; have hfz32_0 := blk_frozen BK297.out 0; have hfz32_1 := blk_frozen BK297.out 1; have p308 : 0 ≤ (x9_1 : Int) := of_decide_eq_true (by first | (with_reducible assumption) | assumption); have q308 : x9_1 < (l0_1.length : Int) := of_decide_eq_true (by first | (with_reducible assumption) | assumption); obtain ⟨ad308, e308, hx308_0, hx308_1, hx308_2, hx308_3⟩ := at_T29 HR0_1.out x9_1 p308 q308; obtain rfl : ad302 = ad308 := (by injection e308); replace hx308_0 := (HB.out.cell (World.block_lt_of_cell? w _ hx308_0)).trans hx308_0; replace hx308_1 := (HB.out.cell (World.block_lt_of_cell? w _ hx308_1)).trans hx308_1; replace hx308_2 := (HB.out.cell (World.block_lt_of_cell? w _ hx308_2)).trans hx308_2; replace hx308_3 := (HB.out.cell (World.block_lt_of_cell? w _ hx308_3)).trans hx308_3; replace p308 := eq_true p308; replace q308 := eq_true q308) | ((with_reducible refine gate_builtin (b := .append) (xs := #[.tmp 45, .tmp 51]) rfl ?_); at_builtin; refine Kd.R_append k29 (w0 := w) w.heap.size rfl (.tmp 45) (.tmp 51) 23 29 (.agg #[(.int .i64 0), (.int .i64 0), (.int .i64 0), (.int .i64 0)]) 32 rfl Try.underlying23 info29 rfl (by decide) (by omega) u8 x8_1 (⟨(rd_T29 l0_1 x9_1).f0, (rd_T29 l0_1 x9_1).f1, (rd_T29 l0_1 x9_1).f2, (rd_T29 l0_1 x9_1).f3⟩ : S29) [.int .i64 ((rd_T29 l0_1 x9_1).f0), .int .i64 ((rd_T29 l0_1 x9_1).f1), .int .i64 ((rd_T29 l0_1 x9_1).f2), .int .i64 ((rd_T29 l0_1 x9_1).f3)] (fun k_ => some k_ ≠ (u302001 : Value).ownBlock) (fun _ => False) rfl rfl ?aP (fun _ hk => hk.elim) ?aF ?aO ?aB ?aS ?aL ?_; (case aP => exact k29_mkM _ _ _ (⟨(rd_T29 l0_1 x9_1).f0, (rd_T29 l0_1 x9_1).f1, (rd_T29 l0_1 x9_1).f2, (rd_T29 l0_1 x9_1).f3⟩ : S29)); (case aB => exact (by repeat (first | (with_reducible first | exact HB.out | apply below_alloc | apply pw_below_drewN | apply below_drew1 | refine below_set ?_ GE297.out | refine below_set ?_ GE298.out | refine below_set ?_ GE301.out) | exact HB.out))); (case aF => exact (fun k_ hk => Kd.fresh' (Kd.R_lt (by (with_reducible repeat (first | apply Kd.R_alloc | apply Kd.R_drewN | apply Kd.R_drew)); exact HO_302001.out)) k_ hk)); (case aO => exact (by (with_reducible repeat (first | apply Kd.R_alloc | apply Kd.R_drewN | apply Kd.R_drew)); exact HO_8.out)); (case aS => exact (below_size (by repeat (first | (with_reducible first | exact HB.out | apply below_alloc | apply pw_below_drewN | apply below_drew1 | refine below_set ?_ GE297.out | refine below_set ?_ GE298.out | refine below_set ?_ GE301.out) | exact HB.out)))); (case aL => have := LMc27.out; omega); intro v310 w33 ho hb hg hat; rw [← Ny309.out] at ho; have n0_ := Aside0.mk (Kd.R_after (ok := (fun _ => True)) (by (with_reducible repeat (first | apply Kd.R_alloc | apply Kd.R_drewN | apply Kd.R_drew)); exact Kd.R_mono HO_302001.out (fun _ hk => ⟨trivial, hk⟩)) hg hat); have n1_ := Aside0.mk (blk_grown (g := gb297) (o := .cells #[.int .i64 a0_0, .slice (some ad302) l0_1.length c0_1] 25 (0, 0)) (by (with_reducible repeat (first | refine blk_drewN ?_ _ | refine blk_drew ?_ | refine blk_alloc ?_ _)); exact BK297.out) hg (Kd.R_ne HO_8.out BK297.out (by decide))); have n2_ := Aside0.mk (blk_grown (g := gb298) (o := .cells #[.int .i64 0, .slice none 0 0] 25 (0, 0)) (by (with_reducible repeat (first | refine blk_drewN ?_ _ | refine blk_drew ?_ | refine blk_alloc ?_ _)); exact BK298.out) hg (Kd.R_ne HO_8.out BK298.out (by decide))); have n3_ := Aside0.mk (blk_grown (g := gb301) (o := .cells #[.int .i64 a0_0, u302001] 25 (0, 0)) (by (with_reducible repeat (first | refine blk_drewN ?_ _ | refine blk_drew ?_ | refine blk_alloc ?_ _)); exact BK301.out) hg (Kd.R_ne HO_8.out BK301.out (by decide))); have n4_ := Aside0.mk (hb); have n5_ := Aside0.mk (ho); clear HO_302001; clear BK297; clear BK298; clear BK301; clear HB; clear HO_8; have HO_302001 := n0_; have BK297 := n1_; have BK298 := n2_; have BK301 := n3_; have HB := n4_; have HO311 := n5_; clear n0_ n1_ n2_ n3_ n4_ n5_; clear ho hb hg hat))
                go_roundg k1
                case measure => have := HK1.out; omega
                case rel => exact ⟨(y309), (wrap64 (x9_1 + 1)), (x302001_1), (u302001), (by first | rfl | (simp; done) | (simp [*]; done)), H', ⟨by have := HK1.out; omega⟩, ⟨by (with_reducible repeat (first | apply Kd.R_alloc | apply Kd.R_drewN | apply Kd.R_drew)); exact HO311.out⟩, ⟨by (with_reducible repeat (first | apply Kd.R_alloc | apply Kd.R_drewN | apply Kd.R_drew)); exact Kd.R_mono HO_302001.out (fun _ hk => hk.2)⟩, ⟨by (with_reducible repeat (first | refine blk_drewN ?_ _ | refine blk_drew ?_ | refine blk_alloc ?_ _)); exact BK297.out⟩, ⟨by (with_reducible repeat (first | refine blk_drewN ?_ _ | refine blk_drew ?_ | refine blk_alloc ?_ _)); exact BK298.out⟩, ⟨by (with_reducible repeat (first | refine blk_drewN ?_ _ | refine blk_drew ?_ | refine blk_alloc ?_ _)); exact BK301.out⟩, ⟨by repeat (first | (with_reducible first | exact HB.out | apply below_alloc | apply pw_below_drewN | apply below_drew1 | refine below_set ?_ GE297.out | refine below_set ?_ GE298.out | refine below_set ?_ GE301.out) | exact HB.out)⟩⟩
              · rw [if_neg c27] at H
                exact absurd H (by simp)
          · rw [if_neg c15] at H
            exact absurd H (by simp)
        · rw [if_neg c14] at H
          have c14b0 : decide (x9_1 < (l0_1.length : Int)) = false := decide_eq_false c14
          clear c14
          simp only [Option.some.injEq, Prod.mk.injEq] at H
          obtain ⟨rfl, rfl, rfl, rfl⟩ := H
          have hnb34 := NB297_298.out
          have hnc34 := NB298_297.out
          have hnb35 := NB297_301.out
          have hnc35 := NB301_297.out
          have hcz36_0 : wr.cell? ⟨gb297, 0, none⟩ = some (.int .i64 a0_0) := (blk_cell BK297.out 0).trans rfl
          have hcz36_1 : wr.cell? ⟨gb297, 1, none⟩ = some (.slice A0_1 l0_1.length c0_1) := (blk_cell BK297.out 1).trans rfl
          have hfz36_0 := blk_frozen BK297.out 0
          have hfz36_1 := blk_frozen BK297.out 1
          have hnb37 := NB301_298.out
          have hnc37 := NB298_301.out
          have hcz38_0 : wr.cell? ⟨gb301, 0, none⟩ = some (.int .i64 a0_0) := (blk_cell BK301.out 0).trans rfl
          have hcz38_1 : wr.cell? ⟨gb301, 1, none⟩ = some (u302001) := (blk_cell BK301.out 1).trans rfl
          have hfz38_0 := blk_frozen BK301.out 0
          have hfz38_1 := blk_frozen BK301.out 1
          have hcz39_0 : wr.cell? ⟨gb298, 0, none⟩ = some (.int .i64 0) := (blk_cell BK298.out 0).trans rfl
          have hcz39_1 : wr.cell? ⟨gb298, 1, none⟩ = some (.slice none 0 0) := (blk_cell BK298.out 1).trans rfl
          have hfz39_0 := blk_frozen BK298.out 0
          have hfz39_1 := blk_frozen BK298.out 1
          obtain ⟨Ao40, co40, eo40⟩ := Kd.R_slice HO_302001.out
          subst eo40
          go_wp2
          all_goals refine bodyPost_ret (results_ctt rfl _ _ gb298 25 #[.int .i64 a0_0, .slice Ao40 x302001_1.length co40] (0, 0) _ rfl (by (with_reducible repeat (first | refine blk_drewN ?_ _ | refine blk_drew ?_ | refine blk_alloc ?_ _)); refine blk_put (cs := #[.int .i64 a0_0, .slice none 0 0]) ?_ 1 _ rfl; (with_reducible repeat (first | refine blk_drewN ?_ _ | refine blk_drew ?_ | refine blk_alloc ?_ _)); refine blk_put (cs := #[.int .i64 0, .slice none 0 0]) ?_ 0 _ rfl; (with_reducible repeat (first | refine blk_drewN ?_ _ | refine blk_drew ?_ | refine blk_alloc ?_ _)); exact BK298.out) Try.underlying25 rfl (by kernel_rfl)) rfl ?_
          all_goals exact ⟨_, _, by first | rfl | (simp [errW_none, errW_some] <;> rfl) | (simp [*, errW_none, errW_some] <;> rfl), by (with_reducible repeat (first | apply Kd.R_alloc | apply Kd.R_drewN | apply Kd.R_drew)); exact Kd.R_mono (Kd.R_far (p := ⟨gb298, 1, none⟩) (Kd.R_far (p := ⟨gb298, 0, none⟩) (Kd.R_types HO_302001.out BK298.out (by decide)) (fun _ hk => hk.2) (.int .i64 a0_0)) (fun _ hk => hk.2) (.slice Ao40 x302001_1.length co40)) (fun _ hk => hk.1), by (with_reducible repeat (first | apply Kd.R_alloc | apply Kd.R_drewN | apply Kd.R_drew)); exact Kd.R_mono (Kd.R_far (p := ⟨gb298, 1, none⟩) (Kd.R_far (p := ⟨gb298, 0, none⟩) (Kd.R_types HO_8.out BK298.out (by decide)) (fun _ hk => hk.2) (.int .i64 a0_0)) (fun _ hk => hk.2) (.slice Ao40 x302001_1.length co40)) (fun _ hk => hk.1), by repeat (first | (with_reducible first | exact HB.out | apply below_alloc | apply pw_below_drewN | apply below_drew1 | refine below_set ?_ GE297.out | refine below_set ?_ GE298.out | refine below_set ?_ GE301.out) | exact HB.out)⟩
  · rw [if_neg c3] at H
    have c3b0 : (t299 == 0) = false := beq_eq_false_iff_ne.mpr c3
    have c3b1 : (t299 != 0) = true := bne_iff_ne.mpr c3
    simp only [Option.some.injEq, Prod.mk.injEq] at H
    obtain ⟨rfl, rfl, rfl, rfl⟩ := H
    go_enter Try.func39, Try.ntmps39
    go_wp2_with (first | ((with_reducible refine gate_dst (N := 1) rfl ?_); refine box_event ?hg (N := 1) ?hd (cs := #[.int .i64 a0_0, .slice A0_1 l0_1.length c0_1]) (t := 25) ?hr ?_; (case hd => rfl); (case hg => rfl); (case hr => first | (go_simp; done) | (go_simp; rfl)); intro gb297 hg w41 hbox hb; have n0_ := Aside0.mk (below_step (by repeat (first | (with_reducible first | exact HB.out | apply below_alloc | apply pw_below_drewN | apply below_drew1) | exact HB.out)) hb); have n1_ := Aside0.mk (hbox); have n2_ := Aside0.mk ((by rw [hg]; exact (below_size (by repeat (first | (with_reducible first | exact HB.out | apply below_alloc | apply pw_below_drewN | apply below_drew1) | exact HB.out))) : w.heap.size ≤ gb297)); have n3_ := Aside0.mk ((by rw [hg]; exact (below_size (by repeat (first | (with_reducible first | exact HB.out | apply below_alloc | apply pw_below_drewN | apply below_drew1) | exact HB.out))) : w.heap.size ≤ gb297)); clear HB; have HB := n0_; have BK297 := n1_; have GW297 := n2_; have GE297 := n3_; clear n0_ n1_ n2_ n3_; clear hb hbox hg) | ((with_reducible refine gate_dst (N := 2) rfl ?_); refine box_event ?hg (N := 2) ?hd (cs := #[.int .i64 0, .slice none 0 0]) (t := 25) ?hr ?_; (case hd => rfl); (case hg => rfl); (case hr => first | (go_simp; done) | (go_simp; rfl)); intro gb298 hg w42 hbox hb; have n0_ := Aside0.mk (blk_below (g := gb297) (o := .cells #[.int .i64 a0_0, .slice A0_1 l0_1.length c0_1] 25 (0, 0)) (by (with_reducible repeat (first | refine blk_drewN ?_ _ | refine blk_drew ?_ | refine blk_alloc ?_ _)); exact BK297.out) hb); have n1_ := Aside0.mk (below_step (by repeat (first | (with_reducible first | exact HB.out | apply below_alloc | apply pw_below_drewN | apply below_drew1 | refine below_set ?_ GE297.out) | exact HB.out)) hb); have n2_ := Aside0.mk (hbox); have n3_ := Aside0.mk ((by rw [hg]; exact (below_size (by repeat (first | (with_reducible first | exact HB.out | apply below_alloc | apply pw_below_drewN | apply below_drew1 | refine below_set ?_ GE297.out) | exact HB.out))) : w.heap.size ≤ gb298)); have n4_ := Aside0.mk ((by rw [hg]; exact (below_size (by repeat (first | (with_reducible first | exact HB.out | apply below_alloc | apply pw_below_drewN | apply below_drew1 | refine below_set ?_ GE297.out) | exact HB.out))) : w.heap.size ≤ gb298)); have n5_ := Aside0.mk ((by rw [hg]; exact Nat.ne_of_lt (blk_lt (g := gb297) (o := .cells #[.int .i64 a0_0, .slice A0_1 l0_1.length c0_1] 25 (0, 0)) (by (with_reducible repeat (first | refine blk_drewN ?_ _ | refine blk_drew ?_ | refine blk_alloc ?_ _)); exact BK297.out)) : gb297 ≠ gb298)); have n6_ := Aside0.mk ((by rw [hg]; exact Nat.ne_of_gt (blk_lt (g := gb297) (o := .cells #[.int .i64 a0_0, .slice A0_1 l0_1.length c0_1] 25 (0, 0)) (by (with_reducible repeat (first | refine blk_drewN ?_ _ | refine blk_drew ?_ | refine blk_alloc ?_ _)); exact BK297.out)) : gb298 ≠ gb297)); clear BK297; clear HB; have BK297 := n0_; have HB := n1_; have BK298 := n2_; have GW298 := n3_; have GE298 := n4_; have NB297_298 := n5_; have NB298_297 := n6_; clear n0_ n1_ n2_ n3_ n4_ n5_ n6_; clear hb hbox hg; have hnb43 := NB297_298.out; have hnc43 := NB298_297.out; have hcz44_0 : w42.cell? ⟨gb297, 0, none⟩ = some (.int .i64 a0_0) := (blk_cell BK297.out 0).trans rfl; have hcz44_1 : w42.cell? ⟨gb297, 1, none⟩ = some (.slice A0_1 l0_1.length c0_1) := (blk_cell BK297.out 1).trans rfl; have hfz44_0 := blk_frozen BK297.out 0; have hfz44_1 := blk_frozen BK297.out 1) | ((with_reducible refine gate_callee (f := 135) rfl ?_); refine goesL_ (some 12) rfl rfl Try.func135 (by kernel_rfl) rfl #[.agg #[.int .i64 a0_0, .slice A0_1 l0_1.length c0_1]] rfl (by (try simp only [List.map_toArray, List.map_cons, List.map_nil]); first | done | rfl | (simp only [List.length_drop, List.length_take]; rfl)) ?_; (with_reducible refine (R21_Check.calls k a0_0 _ _ l0_1 t299 t300 _ ?side1 ?side2 A2.out).mono ?_); (case side1 => repeat (first | exact (Kd.C_below HR0_1.out HB.out) | (with_reducible refine Kd.C_alloc ?_ _) | (with_reducible refine Kd.C_drewN ?_ _) | (with_reducible refine Kd.C_drew ?_))); (case side2 => exact HC0_1.out); rintro e w45 ⟨rfl, hb⟩; refine ⟨_, rfl, ?_⟩; have n0_ := Aside0.mk (blk_below (g := gb297) (o := .cells #[.int .i64 a0_0, .slice A0_1 l0_1.length c0_1] 25 (0, 0)) (by (with_reducible repeat (first | refine blk_drewN ?_ _ | refine blk_drew ?_ | refine blk_alloc ?_ _)); exact BK297.out) hb); have n1_ := Aside0.mk (blk_below (g := gb298) (o := .cells #[.int .i64 0, .slice none 0 0] 25 (0, 0)) (by (with_reducible repeat (first | refine blk_drewN ?_ _ | refine blk_drew ?_ | refine blk_alloc ?_ _)); exact BK298.out) hb); have n2_ := Aside0.mk (below_step (by repeat (first | (with_reducible first | exact HB.out | apply below_alloc | apply pw_below_drewN | apply below_drew1 | refine below_set ?_ GE297.out | refine below_set ?_ GE298.out) | exact HB.out)) hb); clear BK297; clear BK298; clear HB; have BK297 := n0_; have BK298 := n1_; have HB := n2_; clear n0_ n1_ n2_; (try clear hb); (try clear hb2); (try clear hk); (try clear hi); have hcz46_0 : w45.cell? ⟨gb298, 0, none⟩ = some (.int .i64 0) := (blk_cell BK298.out 0).trans rfl; have hcz46_1 : w45.cell? ⟨gb298, 1, none⟩ = some (.slice none 0 0) := (blk_cell BK298.out 1).trans rfl; have hfz46_0 := blk_frozen BK298.out 0; have hfz46_1 := blk_frozen BK298.out 1))
    all_goals refine bodyPost_ret (results_ctt rfl _ _ gb298 25 #[.int .i64 0, .slice none 0 0] (0, 0) _ rfl (by (with_reducible repeat (first | refine blk_drewN ?_ _ | refine blk_drew ?_ | refine blk_alloc ?_ _)); refine blk_put (cs := #[.int .i64 0, .slice none 0 0]) ?_ 1 _ rfl; (with_reducible repeat (first | refine blk_drewN ?_ _ | refine blk_drew ?_ | refine blk_alloc ?_ _)); refine blk_put (cs := #[.int .i64 0, .slice none 0 0]) ?_ 0 _ rfl; (with_reducible repeat (first | refine blk_drewN ?_ _ | refine blk_drew ?_ | refine blk_alloc ?_ _)); exact BK298.out) Try.underlying25 rfl (by kernel_rfl)) rfl ?_
    all_goals exact ⟨_, _, by first | rfl | (simp [errW_none, errW_some] <;> rfl) | (simp [*, errW_none, errW_some] <;> rfl), by first | exact Kd.R_nil _ _ _ _ _ | exact Kd.N_nil _ _ _ _ _ | exact Kd.V_nil _ _ _ _ _ | exact Kd.Q_nil _ _ _ _ _ | exact Kd.S_nil _ _ _ _ _, by first | exact Kd.R_nil _ _ _ _ _ | exact Kd.N_nil _ _ _ _ _ | exact Kd.V_nil _ _ _ _ _ | exact Kd.Q_nil _ _ _ _ _ | exact Kd.S_nil _ _ _ _ _, by repeat (first | (with_reducible first | exact HB.out | apply below_alloc | apply pw_below_drewN | apply below_drew1 | refine below_set ?_ GE297.out | refine below_set ?_ GE298.out) | exact HB.out)⟩


end Go.Proofs.Ytmfbpkjhabdcgaa.F
end
section
/- Contract of table.without. -/
namespace Go.Proofs.Ytmfbpkjhabdcgaa.F
open Go.RowKit Go.Proofs.YtmfbpkjhabdcgaaW.PrintWords Go.Proofs.YtmfbpkjhabdcgaaW.PrintLast Go.Proofs.YtmfbpkjhabdcgaaW.PrintMore
set_option linter.unusedVariables false
set_option linter.unusedSimpArgs false

set_option maxHeartbeats 2000000 in
set_option maxRecDepth 100000 in
/-- table.without. -/
theorem without_calls (g : Nat) (lb : Array Value) (eg : ∀ args w, (callFunc g args).run Try.prog w = .ok (.enter g args) w) (p : S29 → Bool) (a0 : Int) (A : Option Addr) (c : Nat) (l : List S29) (w : World)
    (hC : Kd.C k29 w A l.length l) (hlc : l.length ≤ c) (hl : l.length < 4398046511104) (hp : PredG g lb p w none) :
    Calls Try.prog 133 #[.agg #[.int .i64 a0, .slice A l.length c], .func (.func g) #[] lb] w fun e w' => ∃ v1 v2 : Value, e = .returned (.tuple #[.agg #[.int .i64 a0, v1], v2]) ∧
      Kd.R k29 29 w' w.heap.size (fun k => some k ≠ v2.ownBlock) v1 (l.filter (fun x => !p x)) ∧ Kd.R k29 29 w' w.heap.size (fun k => some k ≠ v1.ownBlock) v2 (l.filter p) ∧ Below w.heap.size w w' := by
  have hu25 := Try.underlying25
  have hcl : table_clone.f a0 l = some (a0, l) := by
    unfold table_clone.f api_Call_157.f
    rw [if_pos hl]
    rfl
  have HC := Aside0.mk hC
  have HL := Aside0.mk hl
  have HP := Aside0.mk hp
  have HCL := Aside0.mk hcl
  clear hC hl hp hcl
  go_enter Try.func133, Try.ntmps133
  go_wp2_with (first
    | ((with_reducible refine gate_dst (N := 2) rfl ?_); refine box_event ?hg (N := 2) ?hd (cs := #[.int .i64 a0, .slice A l.length c]) (t := 25) ?hr ?_; (case hd => rfl); (case hg => rfl); (case hr => first | (go_simp; done) | (go_simp; rfl)); intro g1 hg1 w1 hx1 hb1; have HB1 := Aside0.mk hb1; have HX1 := Aside0.mk hx1; have HG1 := Aside0.mk (show w.heap.size ≤ g1 by rw [hg1]; exact Nat.le_refl _); clear hb1 hg1 hx1)
    | ((with_reducible refine gate_dst (N := 4) rfl ?_); refine box_event ?hg (N := 4) ?hd (cs := #[.int .i64 0, .slice none 0 0]) (t := 25) ?hr ?_; (case hd => rfl); (case hg => rfl); (case hr => first | (go_simp; done) | (go_simp; rfl)); intro g2 hg2 w2 hx2 hb2; have HB2 := Aside0.mk (below_then HB1.out HB1.out.size hb2); have HX2 := Aside0.mk hx2; have HX12 := Aside0.mk (blk_below HX1.out hb2); have r0 := (blk_cell HX12.out 0).trans rfl; have r1 := (blk_cell HX12.out 1).trans rfl; have HG2 := Aside0.mk (show w.heap.size ≤ g2 by rw [hg2]; exact HB1.out.size); have HN := Aside0.mk (show g1 ≠ g2 by rw [hg2]; have := blk_lt HX1.out; omega); clear hb2 hg2 hx2)
    | (go_at_call 130; refine (filter_calls g lb eg p a0 A c l _ (Kd.C_below HC.out HB2.out) hlc HL.out (fun W x0 x1 x2 x3 hW => HP.out W x0 x1 x2 x3 (grown_new HB2.out hW (fun j e => by cases e)))).mono ?_; rintro e w3 ⟨v3, rfl, ho3, hb3⟩; have HO3 := Aside0.mk (Kd.R_mono (ok' := fun k => k < w3.heap.size ∧ w2.heap.size ≤ k) (Kd.R_bound ho3) (fun k hk => ⟨hk.2.2.1, hk.2.1⟩)); have HB3 := Aside0.mk (below_then HB2.out HB2.out.size hb3); have HX13 := Aside0.mk (blk_below HX12.out hb3); have HX23 := Aside0.mk (blk_below HX2.out hb3); have HS3 := Aside0.mk hb3.size; have s0 := (blk_cell HX13.out 0).trans rfl; have s1 := (blk_cell HX13.out 1).trans rfl; clear hb3 ho3)
    | (go_at_call 140; refine (table_clone.calls a0 A c l a0 l _ (Kd.C_below HC.out HB3.out) hlc HCL.out).mono ?_; rintro e w4 ⟨v4, rfl, ho4, hb4⟩; have HO4 := Aside0.mk ho4; have HO34 := Aside0.mk (Kd.R_below HO3.out hb4); have HB4 := Aside0.mk (below_then HB3.out HB3.out.size hb4); have HX14 := Aside0.mk (blk_below HX13.out hb4); have HX24 := Aside0.mk (blk_below HX23.out hb4); have HS4 := Aside0.mk hb4.size; obtain ⟨A4, c4, e4⟩ := Kd.R_slice ho4; subst e4; have HL1 := Aside0.mk (show g1 < w2.heap.size from blk_lt HX12.out); have HL2 := Aside0.mk (show g2 < w2.heap.size from blk_lt HX2.out); clear hb4 ho4)
    | ((with_reducible refine gate_store (t := 25) (p := 2) (v := .tmp 11) rfl ?_); refine box_store rfl rfl 25 (.tmp 2) (.tmp 11) rfl [.int .i64 a0, .slice A4 l.length c4] _ rfl rfl rfl (by rfl) (by simp [Value.oneCell']) HX14.out rfl ?_; intro w5 hbk hg5 hsz5; have HX15 := Aside0.mk hbk; have HZ5 := Aside0.mk (Nat.le_of_eq hsz5.symm); have u1 := (blk_cell hbk 1).trans rfl; have HX25 := Aside0.mk ((hg5.block g2 (blk_lt HX24.out) (fun e => HN.out (by injection e with e; exact e.symm))).trans HX24.out); have HB5 := Aside0.mk (HB4.out.grown hg5 HB4.out.size (fun k hk => by injection hk with hk; rw [← hk]; exact HG1.out)); have HO5 := Aside0.mk (Kd.R_mono (ok' := fun _ => True) (Kd.R_move (Kd.R_bound HO4.out) (fun k hk => hg5.block k hk.2.2.1 (fun e => by injection e with e; have := hk.2.1; have := HL1.out; have := HS3.out; omega))) (fun _ _ => trivial)); have HO35 := Aside0.mk (Kd.R_move HO34.out (fun k hk => hg5.block k (by have := hk.1; have := HS4.out; omega) (fun e => by injection e with e; have := hk.2; have := HL1.out; omega))); clear hbk hg5 hsz5)
    | (go_at_call 158; refine (deleteFunc_calls g lb eg p _ l w5 w3.heap.size (by have := HS4.out; have := HZ5.out; omega) HO5.out (fun W x0 x1 x2 x3 hW => HP.out W x0 x1 x2 x3 (grown_new HB5.out hW (fun j hj => by have := Kd.R_base HO5.out j hj; have := HB3.out.size; omega)))).mono ?_; rintro e w6 ⟨v6, rfl, ho6, hg6⟩; have HRB := Aside0.mk (Kd.R_base HO5.out); obtain ⟨A6, c6, e6⟩ := Kd.R_slice ho6; subst e6; have HO6 := Aside0.mk ho6; have HX16 := Aside0.mk ((hg6.block g1 (blk_lt HX15.out) (fun e => by have := HRB.out g1 e.symm; have := HL1.out; have := HS3.out; omega)).trans HX15.out); have HX26 := Aside0.mk ((hg6.block g2 (blk_lt HX25.out) (fun e => by have := HRB.out g2 e.symm; have := HL2.out; have := HS3.out; omega)).trans HX25.out); have HB6 := Aside0.mk (HB5.out.grown hg6 HB5.out.size (fun k hk => by have := HRB.out k hk; have := HB3.out.size; omega)); have HO36 := Aside0.mk (Kd.R_move HO35.out (fun k hk => hg6.block k (by have := hk.1; have := HS4.out; have := HZ5.out; omega) (fun e => by have := HRB.out k e.symm; have := hk.1; omega))); have y0 := (blk_cell HX16.out 0).trans rfl; have y1 := (blk_cell HX16.out 1).trans rfl; have y2 := blk_frozen HX16.out 0; have y3 := blk_frozen HX16.out 1; have z0 := (blk_cell HX26.out 0).trans rfl; have z1 := (blk_cell HX26.out 1).trans rfl; have z2 := blk_frozen HX26.out 0; have z3 := blk_frozen HX26.out 1; have n1 := HN.out; have n2 := HN.out.symm; clear hg6 ho6))
  have hgw : w.heap.size ≤ g1 ∧ w.heap.size ≤ g2 := ⟨HG1.out, HG2.out⟩
  have hfar : ∀ k, k ≠ g1 → k ≠ g2 → (((w6.setCell ⟨g1, 1, none⟩ (.slice A6 (l.filter (fun x => !p x)).length c6)).setCell ⟨g2, 0, none⟩ (.int .i64 a0)).setCell ⟨g2, 1, none⟩ (.slice A6 (l.filter (fun x => !p x)).length c6)).heap[k]? = w6.heap[k]? := fun k h1 h2 =>
    (Below.heap_setCell _ _ _ _ h2).trans ((Below.heap_setCell _ _ _ _ h2).trans (Below.heap_setCell _ _ _ _ h1))
  refine bodyPost_ret (results_ct rfl _ _ g2 25 #[.int .i64 a0, .slice A6 (l.filter (fun x => !p x)).length c6] (0, 0) _ rfl (blk_put (blk_put (blk_far HX26.out n2 _) 0 _ rfl) 1 _ rfl) Try.underlying25 rfl (by kernel_rfl)) rfl ?_
  refine ⟨_, v3, rfl, ?_, ?_, ?_⟩
  · refine Kd.R_lower (Kd.R_mono (Kd.R_move (Kd.R_bound HO6.out) (fun k hk => hfar k (fun e => ?_) (fun e => ?_))) (fun k hk e => ?_)) HB3.out.size
    · have := hk.2.1; have := HL1.out; have := HS3.out; omega
    · have := hk.2.1; have := HL2.out; have := HS3.out; omega
    · have := (HO36.out.1 k e.symm).1; have := hk.2.1; omega
  · refine Kd.R_lower (Kd.R_mono (Kd.R_move HO36.out (fun k hk => hfar k (fun e => ?_) (fun e => ?_))) (fun k hk e => ?_)) HB2.out.size
    · have := hk.2; have := HL1.out; omega
    · have := hk.2; have := HL2.out; omega
    · have := Kd.R_base HO6.out k e.symm; have := hk.1; omega
  · exact ((HB6.out.setCell (p := ⟨g1, 1, none⟩) hgw.1 _).setCell (p := ⟨g2, 0, none⟩) hgw.2 _).setCell (p := ⟨g2, 1, none⟩) hgw.2 _

end Go.Proofs.Ytmfbpkjhabdcgaa.F
end
section
/- Contract of table.Serve. -/
namespace Go.Proofs.Ytmfbpkjhabdcgaa.F
open Go.RowKit Go.Proofs.YtmfbpkjhabdcgaaW.PrintWords Go.Proofs.YtmfbpkjhabdcgaaW.PrintLast Go.Proofs.YtmfbpkjhabdcgaaW.PrintMore
set_option linter.unusedVariables false
set_option linter.unusedSimpArgs false

def table_Serve.f (a0_0 : Int) (l0_1 : List (S29)) (a1 : Int) (a2 : Int) : Option (Int × (List (S29)) × (List (S29)) × Int) :=
  (table_valid.f a0_0 l0_1).bind fun e => if e = 0 then (if a1 < 0 then some (0, [], [], 2) else if a1 ≥ 64 then some (0, [], [], 2) else if a2 < 1 then some (0, [], [], 2) else if a2 > 8 then some (0, [], [], 2) else if l0_1.length < 4398046511104 then some (a0_0, l0_1.filter (fun x => !((fun x => x.f1 == a1 && (x.f0 != 3 || x.f2 == a2))) x), l0_1.filter (fun x => x.f1 == a1 && (x.f0 != 3 || x.f2 == a2)), 0) else none) else some (0, [], [], e)

set_option maxHeartbeats 4000000 in
set_option maxRecDepth 100000 in
theorem table_Serve.calls (a0_0 : Int) (A0_1 : Option Addr) (c0_1 : Nat) (l0_1 : List (S29)) (a1 : Int) (a2 : Int) (r1 : Int) (r2 : List (S29)) (r3 : List (S29)) (r4 : Int) (w : World) (hr0_1 : Kd.C k29 w A0_1 l0_1.length l0_1) (hc0_1 : l0_1.length ≤ c0_1) (h : table_Serve.f a0_0 l0_1 a1 a2 = some (r1, r2, r3, r4)) :
    Calls Try.prog 35 #[.agg #[.int .i64 a0_0, .slice A0_1 l0_1.length c0_1], .int .i64 a1, .int .i64 a2] w fun e w' => ∃ v1_ v2_ : Value, e = .returned (.tuple #[.agg #[.int .i64 r1, v1_], v2_, .int .i64 r4]) ∧ Kd.R k29 29 w' w.heap.size (fun k_ => some k_ ≠ (v2_ : Value).ownBlock) v1_ r2 ∧ Kd.R k29 29 w' w.heap.size (fun k_ => some k_ ≠ (v1_ : Value).ownBlock) v2_ r3 ∧ Below w.heap.size w w' := by
  have hu25 := Try.underlying25
  unfold table_Serve.f at h
  obtain ⟨e, he, h⟩ := Option.bind_eq_some_iff.mp h
  have HE := Aside0.mk he
  have HC := Aside0.mk hr0_1
  clear he hr0_1
  by_cases c0 : e = 0
  · subst c0
    rw [if_pos rfl] at h
    by_cases k0 : a1 < 0
    · rw [if_pos k0] at h
      simp only [Option.some.injEq, Prod.mk.injEq] at h
      obtain ⟨rfl, rfl, rfl, rfl⟩ := h
      have d0 : decide (a1 < 0) = true := decide_eq_true k0
      clear k0
      go_enter Try.func35, Try.ntmps35
      go_wp2_with (first | ((with_reducible refine gate_dst (N := 3) rfl ?_); refine box_event ?hg (N := 3) ?hd (cs := #[.int .i64 a0_0, .slice A0_1 l0_1.length c0_1]) (t := 25) ?hr ?_; (case hd => rfl); (case hg => rfl); (case hr => first | (go_simp; done) | (go_simp; rfl)); intro gt hg_ w1 hx_ hb_; have HB1 := Aside0.mk hb_; have HX1 := Aside0.mk hx_; clear hg_ hb_ hx_) | ((with_reducible refine gate_dst (N := 4) rfl ?_); refine box_event ?hg (N := 4) ?hd (cs := #[.int .i64 a1]) (t := 3) ?hr ?_; (case hd => rfl); (case hg => rfl); (case hr => first | (go_simp; done) | (go_simp; rfl)); intro gf hg_ w2 hx_ hb_; have HB2 := Aside0.mk (below_then HB1.out HB1.out.size hb_); have HF2 := Aside0.mk hx_; have HX2 := Aside0.mk (blk_below HX1.out hb_); clear hg_ hb_ hx_) | ((with_reducible refine gate_dst (N := 5) rfl ?_); refine box_event ?hg (N := 5) ?hd (cs := #[.int .i64 a2]) (t := 3) ?hr ?_; (case hd => rfl); (case hg => rfl); (case hr => first | (go_simp; done) | (go_simp; rfl)); intro gc hg_ w3 hx_ hb_; have HB3 := Aside0.mk (below_then HB2.out HB2.out.size hb_); have HC3 := Aside0.mk hx_; have HF3 := Aside0.mk (blk_below HF2.out hb_); have HX3 := Aside0.mk (blk_below HX2.out hb_); clear hg_ hb_ hx_) | ((with_reducible refine gate_dst (N := 6) rfl ?_); refine box_event ?hg (N := 6) ?hd (cs := #[.int .i64 0, .slice none 0 0]) (t := 25) ?hr ?_; (case hd => rfl); (case hg => rfl); (case hr => first | (go_simp; done) | (go_simp; rfl)); intro g6 hg_ w4 hx_ hb_; have HB4 := Aside0.mk (below_then HB3.out HB3.out.size hb_); have HG6 := Aside0.mk (show w.heap.size ≤ g6 by rw [hg_]; exact HB3.out.size); have H64 := Aside0.mk hx_; have HF4 := Aside0.mk (blk_below HF3.out hb_); have HC4 := Aside0.mk (blk_below HC3.out hb_); have HX4 := Aside0.mk (blk_below HX3.out hb_); have r0 := (blk_cell HX4.out 0).trans rfl; have r1 := (blk_cell HX4.out 1).trans rfl; clear hg_ hb_ hx_) | (go_at_call 129; refine (table_valid.calls a0_0 A0_1 c0_1 l0_1 _ _ (Kd.C_below HC.out HB4.out) hc0_1 HE.out).mono ?_; rintro e w5 ⟨rfl, hb_⟩; have HB5 := Aside0.mk (below_then HB4.out HB4.out.size hb_); have HF5 := Aside0.mk (blk_below HF4.out hb_); have HC5 := Aside0.mk (blk_below HC4.out hb_); have s2 := (blk_cell HF5.out 0).trans rfl; have s3 := (blk_cell HC5.out 0).trans rfl; have H65 := Aside0.mk (blk_below H64.out hb_); have HX5 := Aside0.mk (blk_below HX4.out hb_); have s0 := (blk_cell HX5.out 0).trans rfl; have s1 := (blk_cell HX5.out 1).trans rfl; have y0 := (blk_cell H65.out 0).trans rfl; have y1 := (blk_cell H65.out 1).trans rfl; have y2 := blk_frozen H65.out 0; have y3 := blk_frozen H65.out 1; clear hb_))
      refine bodyPost_ret (results_ctt rfl _ _ g6 25 #[.int .i64 0, .slice none 0 0] (0, 0) _ rfl (blk_put (blk_put H65.out 0 _ rfl) 1 _ rfl) Try.underlying25 rfl (by kernel_rfl)) rfl ?_
      exact ⟨_, _, rfl, Kd.R_nil _ _ _ _ _, Kd.R_nil _ _ _ _ _, (HB5.out.setCell (p := ⟨g6, 0, none⟩) HG6.out _).setCell (p := ⟨g6, 1, none⟩) HG6.out _⟩
    · rw [if_neg k0] at h
      have d0 : decide (a1 < 0) = false := decide_eq_false k0
      clear k0
      by_cases k1 : a1 ≥ 64
      · rw [if_pos k1] at h
        simp only [Option.some.injEq, Prod.mk.injEq] at h
        obtain ⟨rfl, rfl, rfl, rfl⟩ := h
        have d1 : decide (64 ≤ a1) = true := decide_eq_true k1
        clear k1
        go_enter Try.func35, Try.ntmps35
        go_wp2_with (first | ((with_reducible refine gate_dst (N := 3) rfl ?_); refine box_event ?hg (N := 3) ?hd (cs := #[.int .i64 a0_0, .slice A0_1 l0_1.length c0_1]) (t := 25) ?hr ?_; (case hd => rfl); (case hg => rfl); (case hr => first | (go_simp; done) | (go_simp; rfl)); intro gt hg_ w1 hx_ hb_; have HB1 := Aside0.mk hb_; have HX1 := Aside0.mk hx_; clear hg_ hb_ hx_) | ((with_reducible refine gate_dst (N := 4) rfl ?_); refine box_event ?hg (N := 4) ?hd (cs := #[.int .i64 a1]) (t := 3) ?hr ?_; (case hd => rfl); (case hg => rfl); (case hr => first | (go_simp; done) | (go_simp; rfl)); intro gf hg_ w2 hx_ hb_; have HB2 := Aside0.mk (below_then HB1.out HB1.out.size hb_); have HF2 := Aside0.mk hx_; have HX2 := Aside0.mk (blk_below HX1.out hb_); clear hg_ hb_ hx_) | ((with_reducible refine gate_dst (N := 5) rfl ?_); refine box_event ?hg (N := 5) ?hd (cs := #[.int .i64 a2]) (t := 3) ?hr ?_; (case hd => rfl); (case hg => rfl); (case hr => first | (go_simp; done) | (go_simp; rfl)); intro gc hg_ w3 hx_ hb_; have HB3 := Aside0.mk (below_then HB2.out HB2.out.size hb_); have HC3 := Aside0.mk hx_; have HF3 := Aside0.mk (blk_below HF2.out hb_); have HX3 := Aside0.mk (blk_below HX2.out hb_); clear hg_ hb_ hx_) | ((with_reducible refine gate_dst (N := 6) rfl ?_); refine box_event ?hg (N := 6) ?hd (cs := #[.int .i64 0, .slice none 0 0]) (t := 25) ?hr ?_; (case hd => rfl); (case hg => rfl); (case hr => first | (go_simp; done) | (go_simp; rfl)); intro g6 hg_ w4 hx_ hb_; have HB4 := Aside0.mk (below_then HB3.out HB3.out.size hb_); have HG6 := Aside0.mk (show w.heap.size ≤ g6 by rw [hg_]; exact HB3.out.size); have H64 := Aside0.mk hx_; have HF4 := Aside0.mk (blk_below HF3.out hb_); have HC4 := Aside0.mk (blk_below HC3.out hb_); have HX4 := Aside0.mk (blk_below HX3.out hb_); have r0 := (blk_cell HX4.out 0).trans rfl; have r1 := (blk_cell HX4.out 1).trans rfl; clear hg_ hb_ hx_) | (go_at_call 129; refine (table_valid.calls a0_0 A0_1 c0_1 l0_1 _ _ (Kd.C_below HC.out HB4.out) hc0_1 HE.out).mono ?_; rintro e w5 ⟨rfl, hb_⟩; have HB5 := Aside0.mk (below_then HB4.out HB4.out.size hb_); have HF5 := Aside0.mk (blk_below HF4.out hb_); have HC5 := Aside0.mk (blk_below HC4.out hb_); have s2 := (blk_cell HF5.out 0).trans rfl; have s3 := (blk_cell HC5.out 0).trans rfl; have H65 := Aside0.mk (blk_below H64.out hb_); have HX5 := Aside0.mk (blk_below HX4.out hb_); have s0 := (blk_cell HX5.out 0).trans rfl; have s1 := (blk_cell HX5.out 1).trans rfl; have y0 := (blk_cell H65.out 0).trans rfl; have y1 := (blk_cell H65.out 1).trans rfl; have y2 := blk_frozen H65.out 0; have y3 := blk_frozen H65.out 1; clear hb_))
        refine bodyPost_ret (results_ctt rfl _ _ g6 25 #[.int .i64 0, .slice none 0 0] (0, 0) _ rfl (blk_put (blk_put H65.out 0 _ rfl) 1 _ rfl) Try.underlying25 rfl (by kernel_rfl)) rfl ?_
        exact ⟨_, _, rfl, Kd.R_nil _ _ _ _ _, Kd.R_nil _ _ _ _ _, (HB5.out.setCell (p := ⟨g6, 0, none⟩) HG6.out _).setCell (p := ⟨g6, 1, none⟩) HG6.out _⟩
      · rw [if_neg k1] at h
        have d1 : decide (64 ≤ a1) = false := decide_eq_false k1
        clear k1
        by_cases k2 : a2 < 1
        · rw [if_pos k2] at h
          simp only [Option.some.injEq, Prod.mk.injEq] at h
          obtain ⟨rfl, rfl, rfl, rfl⟩ := h
          have d2 : decide (a2 < 1) = true := decide_eq_true k2
          clear k2
          go_enter Try.func35, Try.ntmps35
          go_wp2_with (first | ((with_reducible refine gate_dst (N := 3) rfl ?_); refine box_event ?hg (N := 3) ?hd (cs := #[.int .i64 a0_0, .slice A0_1 l0_1.length c0_1]) (t := 25) ?hr ?_; (case hd => rfl); (case hg => rfl); (case hr => first | (go_simp; done) | (go_simp; rfl)); intro gt hg_ w1 hx_ hb_; have HB1 := Aside0.mk hb_; have HX1 := Aside0.mk hx_; clear hg_ hb_ hx_) | ((with_reducible refine gate_dst (N := 4) rfl ?_); refine box_event ?hg (N := 4) ?hd (cs := #[.int .i64 a1]) (t := 3) ?hr ?_; (case hd => rfl); (case hg => rfl); (case hr => first | (go_simp; done) | (go_simp; rfl)); intro gf hg_ w2 hx_ hb_; have HB2 := Aside0.mk (below_then HB1.out HB1.out.size hb_); have HF2 := Aside0.mk hx_; have HX2 := Aside0.mk (blk_below HX1.out hb_); clear hg_ hb_ hx_) | ((with_reducible refine gate_dst (N := 5) rfl ?_); refine box_event ?hg (N := 5) ?hd (cs := #[.int .i64 a2]) (t := 3) ?hr ?_; (case hd => rfl); (case hg => rfl); (case hr => first | (go_simp; done) | (go_simp; rfl)); intro gc hg_ w3 hx_ hb_; have HB3 := Aside0.mk (below_then HB2.out HB2.out.size hb_); have HC3 := Aside0.mk hx_; have HF3 := Aside0.mk (blk_below HF2.out hb_); have HX3 := Aside0.mk (blk_below HX2.out hb_); clear hg_ hb_ hx_) | ((with_reducible refine gate_dst (N := 6) rfl ?_); refine box_event ?hg (N := 6) ?hd (cs := #[.int .i64 0, .slice none 0 0]) (t := 25) ?hr ?_; (case hd => rfl); (case hg => rfl); (case hr => first | (go_simp; done) | (go_simp; rfl)); intro g6 hg_ w4 hx_ hb_; have HB4 := Aside0.mk (below_then HB3.out HB3.out.size hb_); have HG6 := Aside0.mk (show w.heap.size ≤ g6 by rw [hg_]; exact HB3.out.size); have H64 := Aside0.mk hx_; have HF4 := Aside0.mk (blk_below HF3.out hb_); have HC4 := Aside0.mk (blk_below HC3.out hb_); have HX4 := Aside0.mk (blk_below HX3.out hb_); have r0 := (blk_cell HX4.out 0).trans rfl; have r1 := (blk_cell HX4.out 1).trans rfl; clear hg_ hb_ hx_) | (go_at_call 129; refine (table_valid.calls a0_0 A0_1 c0_1 l0_1 _ _ (Kd.C_below HC.out HB4.out) hc0_1 HE.out).mono ?_; rintro e w5 ⟨rfl, hb_⟩; have HB5 := Aside0.mk (below_then HB4.out HB4.out.size hb_); have HF5 := Aside0.mk (blk_below HF4.out hb_); have HC5 := Aside0.mk (blk_below HC4.out hb_); have s2 := (blk_cell HF5.out 0).trans rfl; have s3 := (blk_cell HC5.out 0).trans rfl; have H65 := Aside0.mk (blk_below H64.out hb_); have HX5 := Aside0.mk (blk_below HX4.out hb_); have s0 := (blk_cell HX5.out 0).trans rfl; have s1 := (blk_cell HX5.out 1).trans rfl; have y0 := (blk_cell H65.out 0).trans rfl; have y1 := (blk_cell H65.out 1).trans rfl; have y2 := blk_frozen H65.out 0; have y3 := blk_frozen H65.out 1; clear hb_))
          refine bodyPost_ret (results_ctt rfl _ _ g6 25 #[.int .i64 0, .slice none 0 0] (0, 0) _ rfl (blk_put (blk_put H65.out 0 _ rfl) 1 _ rfl) Try.underlying25 rfl (by kernel_rfl)) rfl ?_
          exact ⟨_, _, rfl, Kd.R_nil _ _ _ _ _, Kd.R_nil _ _ _ _ _, (HB5.out.setCell (p := ⟨g6, 0, none⟩) HG6.out _).setCell (p := ⟨g6, 1, none⟩) HG6.out _⟩
        · rw [if_neg k2] at h
          have d2 : decide (a2 < 1) = false := decide_eq_false k2
          clear k2
          by_cases k3 : a2 > 8
          · rw [if_pos k3] at h
            simp only [Option.some.injEq, Prod.mk.injEq] at h
            obtain ⟨rfl, rfl, rfl, rfl⟩ := h
            have d3 : decide (8 < a2) = true := decide_eq_true k3
            clear k3
            go_enter Try.func35, Try.ntmps35
            go_wp2_with (first | ((with_reducible refine gate_dst (N := 3) rfl ?_); refine box_event ?hg (N := 3) ?hd (cs := #[.int .i64 a0_0, .slice A0_1 l0_1.length c0_1]) (t := 25) ?hr ?_; (case hd => rfl); (case hg => rfl); (case hr => first | (go_simp; done) | (go_simp; rfl)); intro gt hg_ w1 hx_ hb_; have HB1 := Aside0.mk hb_; have HX1 := Aside0.mk hx_; clear hg_ hb_ hx_) | ((with_reducible refine gate_dst (N := 4) rfl ?_); refine box_event ?hg (N := 4) ?hd (cs := #[.int .i64 a1]) (t := 3) ?hr ?_; (case hd => rfl); (case hg => rfl); (case hr => first | (go_simp; done) | (go_simp; rfl)); intro gf hg_ w2 hx_ hb_; have HB2 := Aside0.mk (below_then HB1.out HB1.out.size hb_); have HF2 := Aside0.mk hx_; have HX2 := Aside0.mk (blk_below HX1.out hb_); clear hg_ hb_ hx_) | ((with_reducible refine gate_dst (N := 5) rfl ?_); refine box_event ?hg (N := 5) ?hd (cs := #[.int .i64 a2]) (t := 3) ?hr ?_; (case hd => rfl); (case hg => rfl); (case hr => first | (go_simp; done) | (go_simp; rfl)); intro gc hg_ w3 hx_ hb_; have HB3 := Aside0.mk (below_then HB2.out HB2.out.size hb_); have HC3 := Aside0.mk hx_; have HF3 := Aside0.mk (blk_below HF2.out hb_); have HX3 := Aside0.mk (blk_below HX2.out hb_); clear hg_ hb_ hx_) | ((with_reducible refine gate_dst (N := 6) rfl ?_); refine box_event ?hg (N := 6) ?hd (cs := #[.int .i64 0, .slice none 0 0]) (t := 25) ?hr ?_; (case hd => rfl); (case hg => rfl); (case hr => first | (go_simp; done) | (go_simp; rfl)); intro g6 hg_ w4 hx_ hb_; have HB4 := Aside0.mk (below_then HB3.out HB3.out.size hb_); have HG6 := Aside0.mk (show w.heap.size ≤ g6 by rw [hg_]; exact HB3.out.size); have H64 := Aside0.mk hx_; have HF4 := Aside0.mk (blk_below HF3.out hb_); have HC4 := Aside0.mk (blk_below HC3.out hb_); have HX4 := Aside0.mk (blk_below HX3.out hb_); have r0 := (blk_cell HX4.out 0).trans rfl; have r1 := (blk_cell HX4.out 1).trans rfl; clear hg_ hb_ hx_) | (go_at_call 129; refine (table_valid.calls a0_0 A0_1 c0_1 l0_1 _ _ (Kd.C_below HC.out HB4.out) hc0_1 HE.out).mono ?_; rintro e w5 ⟨rfl, hb_⟩; have HB5 := Aside0.mk (below_then HB4.out HB4.out.size hb_); have HF5 := Aside0.mk (blk_below HF4.out hb_); have HC5 := Aside0.mk (blk_below HC4.out hb_); have s2 := (blk_cell HF5.out 0).trans rfl; have s3 := (blk_cell HC5.out 0).trans rfl; have H65 := Aside0.mk (blk_below H64.out hb_); have HX5 := Aside0.mk (blk_below HX4.out hb_); have s0 := (blk_cell HX5.out 0).trans rfl; have s1 := (blk_cell HX5.out 1).trans rfl; have y0 := (blk_cell H65.out 0).trans rfl; have y1 := (blk_cell H65.out 1).trans rfl; have y2 := blk_frozen H65.out 0; have y3 := blk_frozen H65.out 1; clear hb_))
            refine bodyPost_ret (results_ctt rfl _ _ g6 25 #[.int .i64 0, .slice none 0 0] (0, 0) _ rfl (blk_put (blk_put H65.out 0 _ rfl) 1 _ rfl) Try.underlying25 rfl (by kernel_rfl)) rfl ?_
            exact ⟨_, _, rfl, Kd.R_nil _ _ _ _ _, Kd.R_nil _ _ _ _ _, (HB5.out.setCell (p := ⟨g6, 0, none⟩) HG6.out _).setCell (p := ⟨g6, 1, none⟩) HG6.out _⟩
          · rw [if_neg k3] at h
            have d3 : decide (8 < a2) = false := decide_eq_false k3
            clear k3
            split at h
            case isFalse => cases h
            case isTrue hl =>
            simp only [Option.some.injEq, Prod.mk.injEq] at h
            obtain ⟨rfl, rfl, rfl, rfl⟩ := h
            have HL := Aside0.mk hl
            clear hl
            go_enter Try.func35, Try.ntmps35
            go_wp2_with (first | ((with_reducible refine gate_dst (N := 3) rfl ?_); refine box_event ?hg (N := 3) ?hd (cs := #[.int .i64 a0_0, .slice A0_1 l0_1.length c0_1]) (t := 25) ?hr ?_; (case hd => rfl); (case hg => rfl); (case hr => first | (go_simp; done) | (go_simp; rfl)); intro gt hg_ w1 hx_ hb_; have HB1 := Aside0.mk hb_; have HX1 := Aside0.mk hx_; clear hg_ hb_ hx_) | ((with_reducible refine gate_dst (N := 4) rfl ?_); refine box_event ?hg (N := 4) ?hd (cs := #[.int .i64 a1]) (t := 3) ?hr ?_; (case hd => rfl); (case hg => rfl); (case hr => first | (go_simp; done) | (go_simp; rfl)); intro gf hg_ w2 hx_ hb_; have HB2 := Aside0.mk (below_then HB1.out HB1.out.size hb_); have HF2 := Aside0.mk hx_; have HX2 := Aside0.mk (blk_below HX1.out hb_); clear hg_ hb_ hx_) | ((with_reducible refine gate_dst (N := 5) rfl ?_); refine box_event ?hg (N := 5) ?hd (cs := #[.int .i64 a2]) (t := 3) ?hr ?_; (case hd => rfl); (case hg => rfl); (case hr => first | (go_simp; done) | (go_simp; rfl)); intro gc hg_ w3 hx_ hb_; have HB3 := Aside0.mk (below_then HB2.out HB2.out.size hb_); have HC3 := Aside0.mk hx_; have HF3 := Aside0.mk (blk_below HF2.out hb_); have HX3 := Aside0.mk (blk_below HX2.out hb_); clear hg_ hb_ hx_) | ((with_reducible refine gate_dst (N := 6) rfl ?_); refine box_event ?hg (N := 6) ?hd (cs := #[.int .i64 0, .slice none 0 0]) (t := 25) ?hr ?_; (case hd => rfl); (case hg => rfl); (case hr => first | (go_simp; done) | (go_simp; rfl)); intro g6 hg_ w4 hx_ hb_; have HB4 := Aside0.mk (below_then HB3.out HB3.out.size hb_); have HG6 := Aside0.mk (show w.heap.size ≤ g6 by rw [hg_]; exact HB3.out.size); have H64 := Aside0.mk hx_; have HF4 := Aside0.mk (blk_below HF3.out hb_); have HC4 := Aside0.mk (blk_below HC3.out hb_); have HX4 := Aside0.mk (blk_below HX3.out hb_); have r0 := (blk_cell HX4.out 0).trans rfl; have r1 := (blk_cell HX4.out 1).trans rfl; clear hg_ hb_ hx_) | (go_at_call 129; refine (table_valid.calls a0_0 A0_1 c0_1 l0_1 _ _ (Kd.C_below HC.out HB4.out) hc0_1 HE.out).mono ?_; rintro e w5 ⟨rfl, hb_⟩; have HB5 := Aside0.mk (below_then HB4.out HB4.out.size hb_); have HF5 := Aside0.mk (blk_below HF4.out hb_); have HC5 := Aside0.mk (blk_below HC4.out hb_); have s2 := (blk_cell HF5.out 0).trans rfl; have s3 := (blk_cell HC5.out 0).trans rfl; have H65 := Aside0.mk (blk_below H64.out hb_); have HX5 := Aside0.mk (blk_below HX4.out hb_); have s0 := (blk_cell HX5.out 0).trans rfl; have s1 := (blk_cell HX5.out 1).trans rfl; have y0 := (blk_cell H65.out 0).trans rfl; have y1 := (blk_cell H65.out 1).trans rfl; have y2 := blk_frozen H65.out 0; have y3 := blk_frozen H65.out 1; clear hb_) | (go_at_call 133; refine (without_calls 134 _ (enters_of Try.func134 (by kernel_rfl) rfl) (fun x => x.f1 == a1 && (x.f0 != 3 || x.f2 == a2)) a0_0 A0_1 c0_1 l0_1 _ (Kd.C_below HC.out HB5.out) hc0_1 HL.out (serve1_pred _ none gf gc a1 a2 HF5.out (fun e => by cases e) HC5.out (fun e => by cases e))).mono ?_; rintro e w6 ⟨v1, v2, rfl, ho1, ho2, hb6⟩; obtain ⟨A1, n1, c1, e1⟩ : ∃ A n c, v1 = Value.slice A n c := ⟨_, _, _, (Kd.R_slice ho1).choose_spec.choose_spec⟩; subst e1; have HO1 := Aside0.mk ho1; have HO2 := Aside0.mk ho2; have HB6 := Aside0.mk (below_then HB5.out HB5.out.size hb6); have H66 := Aside0.mk (blk_below H65.out hb6); have HL6 := Aside0.mk (show g6 < w5.heap.size from blk_lt H65.out); have hl6 := blk_lt H66.out; have z0 := (blk_cell H66.out 0).trans rfl; have z1 := (blk_cell H66.out 1).trans rfl; have z2 := blk_frozen H66.out 0; have z3 := blk_frozen H66.out 1; clear ho1 ho2 hb6))
            have hw6 := HB6.out.size
            refine bodyPost_ret (results_ctt rfl _ _ g6 25 #[.int .i64 a0_0, .slice A1 n1 c1] (0, 0) _ rfl (blk_alloc (blk_put (blk_put H66.out 0 _ rfl) 1 _ rfl) _) Try.underlying25 rfl (by kernel_rfl)) rfl ?_
            refine ⟨_, v2, rfl, Kd.R_lower (Kd.R_mono (Kd.R_move (Kd.R_bound HO1.out) (fun k hk => (Below.heap_alloc _ _ _ (by simpa [World.setCell] using hk.2.2.1)).trans ((Below.heap_setCell _ _ _ _ (fun e => ?_)).trans (Below.heap_setCell _ _ _ _ (fun e => ?_))))) (fun k hk => hk.1)) HB5.out.size, Kd.R_lower (Kd.R_mono (Kd.R_move (Kd.R_bound HO2.out) (fun k hk => (Below.heap_alloc _ _ _ (by simpa [World.setCell] using hk.2.2.1)).trans ((Below.heap_setCell _ _ _ _ (fun e => ?_)).trans (Below.heap_setCell _ _ _ _ (fun e => ?_))))) (fun k hk => hk.1)) HB5.out.size, ((HB6.out.setCell (p := ⟨g6, 0, none⟩) HG6.out _).setCell (p := ⟨g6, 1, none⟩) HG6.out _).alloc (by simpa [World.setCell] using hw6) _⟩
            all_goals (have := hk.2.1; have := HL6.out; have e' : k = g6 := e; omega)
  · rw [if_neg c0] at h
    simp only [Option.some.injEq, Prod.mk.injEq] at h
    obtain ⟨rfl, rfl, rfl, rfl⟩ := h
    have d0 : (e == 0) = false := beq_eq_false_iff_ne.mpr c0
    have d1 : (e != 0) = true := bne_iff_ne.mpr c0
    clear c0
    go_enter Try.func35, Try.ntmps35
    go_wp2_with (first | ((with_reducible refine gate_dst (N := 3) rfl ?_); refine box_event ?hg (N := 3) ?hd (cs := #[.int .i64 a0_0, .slice A0_1 l0_1.length c0_1]) (t := 25) ?hr ?_; (case hd => rfl); (case hg => rfl); (case hr => first | (go_simp; done) | (go_simp; rfl)); intro gt hg_ w1 hx_ hb_; have HB1 := Aside0.mk hb_; have HX1 := Aside0.mk hx_; clear hg_ hb_ hx_) | ((with_reducible refine gate_dst (N := 4) rfl ?_); refine box_event ?hg (N := 4) ?hd (cs := #[.int .i64 a1]) (t := 3) ?hr ?_; (case hd => rfl); (case hg => rfl); (case hr => first | (go_simp; done) | (go_simp; rfl)); intro gf hg_ w2 hx_ hb_; have HB2 := Aside0.mk (below_then HB1.out HB1.out.size hb_); have HF2 := Aside0.mk hx_; have HX2 := Aside0.mk (blk_below HX1.out hb_); clear hg_ hb_ hx_) | ((with_reducible refine gate_dst (N := 5) rfl ?_); refine box_event ?hg (N := 5) ?hd (cs := #[.int .i64 a2]) (t := 3) ?hr ?_; (case hd => rfl); (case hg => rfl); (case hr => first | (go_simp; done) | (go_simp; rfl)); intro gc hg_ w3 hx_ hb_; have HB3 := Aside0.mk (below_then HB2.out HB2.out.size hb_); have HC3 := Aside0.mk hx_; have HF3 := Aside0.mk (blk_below HF2.out hb_); have HX3 := Aside0.mk (blk_below HX2.out hb_); clear hg_ hb_ hx_) | ((with_reducible refine gate_dst (N := 6) rfl ?_); refine box_event ?hg (N := 6) ?hd (cs := #[.int .i64 0, .slice none 0 0]) (t := 25) ?hr ?_; (case hd => rfl); (case hg => rfl); (case hr => first | (go_simp; done) | (go_simp; rfl)); intro g6 hg_ w4 hx_ hb_; have HB4 := Aside0.mk (below_then HB3.out HB3.out.size hb_); have HG6 := Aside0.mk (show w.heap.size ≤ g6 by rw [hg_]; exact HB3.out.size); have H64 := Aside0.mk hx_; have HF4 := Aside0.mk (blk_below HF3.out hb_); have HC4 := Aside0.mk (blk_below HC3.out hb_); have HX4 := Aside0.mk (blk_below HX3.out hb_); have r0 := (blk_cell HX4.out 0).trans rfl; have r1 := (blk_cell HX4.out 1).trans rfl; clear hg_ hb_ hx_) | (go_at_call 129; refine (table_valid.calls a0_0 A0_1 c0_1 l0_1 _ _ (Kd.C_below HC.out HB4.out) hc0_1 HE.out).mono ?_; rintro e w5 ⟨rfl, hb_⟩; have HB5 := Aside0.mk (below_then HB4.out HB4.out.size hb_); have HF5 := Aside0.mk (blk_below HF4.out hb_); have HC5 := Aside0.mk (blk_below HC4.out hb_); have s2 := (blk_cell HF5.out 0).trans rfl; have s3 := (blk_cell HC5.out 0).trans rfl; have H65 := Aside0.mk (blk_below H64.out hb_); have HX5 := Aside0.mk (blk_below HX4.out hb_); have s0 := (blk_cell HX5.out 0).trans rfl; have s1 := (blk_cell HX5.out 1).trans rfl; have y0 := (blk_cell H65.out 0).trans rfl; have y1 := (blk_cell H65.out 1).trans rfl; have y2 := blk_frozen H65.out 0; have y3 := blk_frozen H65.out 1; clear hb_))
    refine bodyPost_ret (results_ctt rfl _ _ g6 25 #[.int .i64 0, .slice none 0 0] (0, 0) _ rfl (blk_put (blk_put H65.out 0 _ rfl) 1 _ rfl) Try.underlying25 rfl (by kernel_rfl)) rfl ?_
    exact ⟨_, _, rfl, Kd.R_nil _ _ _ _ _, Kd.R_nil _ _ _ _ _, (HB5.out.setCell (p := ⟨g6, 0, none⟩) HG6.out _).setCell (p := ⟨g6, 1, none⟩) HG6.out _⟩

end Go.Proofs.Ytmfbpkjhabdcgaa.F
end
section
/- Contract of table.Wipe. -/
namespace Go.Proofs.Ytmfbpkjhabdcgaa.F
open Go.RowKit Go.Proofs.YtmfbpkjhabdcgaaW.PrintWords Go.Proofs.YtmfbpkjhabdcgaaW.PrintLast Go.Proofs.YtmfbpkjhabdcgaaW.PrintMore
set_option linter.unusedVariables false
set_option linter.unusedSimpArgs false

def table_Wipe.f (a0_0 : Int) (l0_1 : List (S29)) : Option (Int × (List (S29)) × (List (S29)) × Int) :=
  (table_valid.f a0_0 l0_1).bind fun e => if e = 0 then (if l0_1.length < 4398046511104 then some (a0_0, l0_1.filter (fun x => !((fun x => !(x.f0 != 3))) x), l0_1.filter (fun x => !(x.f0 != 3)), 0) else none) else some (0, [], [], e)

set_option maxHeartbeats 4000000 in
set_option maxRecDepth 100000 in
theorem table_Wipe.calls (a0_0 : Int) (A0_1 : Option Addr) (c0_1 : Nat) (l0_1 : List (S29)) (r1 : Int) (r2 : List (S29)) (r3 : List (S29)) (r4 : Int) (w : World) (hr0_1 : Kd.C k29 w A0_1 l0_1.length l0_1) (hc0_1 : l0_1.length ≤ c0_1) (h : table_Wipe.f a0_0 l0_1 = some (r1, r2, r3, r4)) :
    Calls Try.prog 38 #[.agg #[.int .i64 a0_0, .slice A0_1 l0_1.length c0_1]] w fun e w' => ∃ v1_ v2_ : Value, e = .returned (.tuple #[.agg #[.int .i64 r1, v1_], v2_, .int .i64 r4]) ∧ Kd.R k29 29 w' w.heap.size (fun k_ => some k_ ≠ (v2_ : Value).ownBlock) v1_ r2 ∧ Kd.R k29 29 w' w.heap.size (fun k_ => some k_ ≠ (v1_ : Value).ownBlock) v2_ r3 ∧ Below w.heap.size w w' := by
  have hu25 := Try.underlying25
  unfold table_Wipe.f at h
  obtain ⟨e, he, h⟩ := Option.bind_eq_some_iff.mp h
  have HE := Aside0.mk he
  have HC := Aside0.mk hr0_1
  clear he hr0_1
  by_cases c0 : e = 0
  · subst c0
    rw [if_pos rfl] at h
    split at h
    case isFalse => cases h
    case isTrue hl =>
    simp only [Option.some.injEq, Prod.mk.injEq] at h
    obtain ⟨rfl, rfl, rfl, rfl⟩ := h
    have HL := Aside0.mk hl
    clear hl
    go_enter Try.func38, Try.ntmps38
    go_wp2_with (first | ((with_reducible refine gate_dst (N := 1) rfl ?_); refine box_event ?hg (N := 1) ?hd (cs := #[.int .i64 a0_0, .slice A0_1 l0_1.length c0_1]) (t := 25) ?hr ?_; (case hd => rfl); (case hg => rfl); (case hr => first | (go_simp; done) | (go_simp; rfl)); intro gt hg_ w3 hx_ hb_; have HB3 := Aside0.mk hb_; have HX3 := Aside0.mk hx_; clear hg_ hb_ hx_) | ((with_reducible refine gate_dst (N := 2) rfl ?_); refine box_event ?hg (N := 2) ?hd (cs := #[.int .i64 0, .slice none 0 0]) (t := 25) ?hr ?_; (case hd => rfl); (case hg => rfl); (case hr => first | (go_simp; done) | (go_simp; rfl)); intro g6 hg_ w4 hx_ hb_; have HB4 := Aside0.mk (below_then HB3.out HB3.out.size hb_); have HG6 := Aside0.mk (show w.heap.size ≤ g6 by rw [hg_]; exact HB3.out.size); have H64 := Aside0.mk hx_; have HX4 := Aside0.mk (blk_below HX3.out hb_); have r0 := (blk_cell HX4.out 0).trans rfl; have r1 := (blk_cell HX4.out 1).trans rfl; clear hg_ hb_ hx_) | (go_at_call 129; refine (table_valid.calls a0_0 A0_1 c0_1 l0_1 _ _ (Kd.C_below HC.out HB4.out) hc0_1 HE.out).mono ?_; rintro e w5 ⟨rfl, hb_⟩; have HB5 := Aside0.mk (below_then HB4.out HB4.out.size hb_); have H65 := Aside0.mk (blk_below H64.out hb_); have HX5 := Aside0.mk (blk_below HX4.out hb_); have s0 := (blk_cell HX5.out 0).trans rfl; have s1 := (blk_cell HX5.out 1).trans rfl; have y0 := (blk_cell H65.out 0).trans rfl; have y1 := (blk_cell H65.out 1).trans rfl; have y2 := blk_frozen H65.out 0; have y3 := blk_frozen H65.out 1; clear hb_) | (go_at_call 133; refine (without_calls 137 _ (enters_of Try.func137 (by kernel_rfl) rfl) (fun x => !(x.f0 != 3)) a0_0 A0_1 c0_1 l0_1 _ (Kd.C_below HC.out HB5.out) hc0_1 HL.out (wipe1_pred _ none)).mono ?_; rintro e w6 ⟨v1, v2, rfl, ho1, ho2, hb6⟩; obtain ⟨A1, n1, c1, e1⟩ : ∃ A n c, v1 = Value.slice A n c := ⟨_, _, _, (Kd.R_slice ho1).choose_spec.choose_spec⟩; subst e1; have HO1 := Aside0.mk ho1; have HO2 := Aside0.mk ho2; have HB6 := Aside0.mk (below_then HB5.out HB5.out.size hb6); have H66 := Aside0.mk (blk_below H65.out hb6); have HL6 := Aside0.mk (show g6 < w5.heap.size from blk_lt H65.out); have hl6 := blk_lt H66.out; have z0 := (blk_cell H66.out 0).trans rfl; have z1 := (blk_cell H66.out 1).trans rfl; have z2 := blk_frozen H66.out 0; have z3 := blk_frozen H66.out 1; clear ho1 ho2 hb6))
    have hw6 := HB6.out.size
    refine bodyPost_ret (results_ctt rfl _ _ g6 25 #[.int .i64 a0_0, .slice A1 n1 c1] (0, 0) _ rfl (blk_alloc (blk_put (blk_put H66.out 0 _ rfl) 1 _ rfl) _) Try.underlying25 rfl (by kernel_rfl)) rfl ?_
    refine ⟨_, v2, rfl, Kd.R_lower (Kd.R_mono (Kd.R_move (Kd.R_bound HO1.out) (fun k hk => (Below.heap_alloc _ _ _ (by simpa [World.setCell] using hk.2.2.1)).trans ((Below.heap_setCell _ _ _ _ (fun e => ?_)).trans (Below.heap_setCell _ _ _ _ (fun e => ?_))))) (fun k hk => hk.1)) HB5.out.size, Kd.R_lower (Kd.R_mono (Kd.R_move (Kd.R_bound HO2.out) (fun k hk => (Below.heap_alloc _ _ _ (by simpa [World.setCell] using hk.2.2.1)).trans ((Below.heap_setCell _ _ _ _ (fun e => ?_)).trans (Below.heap_setCell _ _ _ _ (fun e => ?_))))) (fun k hk => hk.1)) HB5.out.size, ((HB6.out.setCell (p := ⟨g6, 0, none⟩) HG6.out _).setCell (p := ⟨g6, 1, none⟩) HG6.out _).alloc (by simpa [World.setCell] using hw6) _⟩
    all_goals (have := hk.2.1; have := HL6.out; have e' : k = g6 := e; omega)
  · rw [if_neg c0] at h
    simp only [Option.some.injEq, Prod.mk.injEq] at h
    obtain ⟨rfl, rfl, rfl, rfl⟩ := h
    have d0 : (e == 0) = false := beq_eq_false_iff_ne.mpr c0
    have d1 : (e != 0) = true := bne_iff_ne.mpr c0
    clear c0
    go_enter Try.func38, Try.ntmps38
    go_wp2_with (first | ((with_reducible refine gate_dst (N := 1) rfl ?_); refine box_event ?hg (N := 1) ?hd (cs := #[.int .i64 a0_0, .slice A0_1 l0_1.length c0_1]) (t := 25) ?hr ?_; (case hd => rfl); (case hg => rfl); (case hr => first | (go_simp; done) | (go_simp; rfl)); intro gt hg_ w3 hx_ hb_; have HB3 := Aside0.mk hb_; have HX3 := Aside0.mk hx_; clear hg_ hb_ hx_) | ((with_reducible refine gate_dst (N := 2) rfl ?_); refine box_event ?hg (N := 2) ?hd (cs := #[.int .i64 0, .slice none 0 0]) (t := 25) ?hr ?_; (case hd => rfl); (case hg => rfl); (case hr => first | (go_simp; done) | (go_simp; rfl)); intro g6 hg_ w4 hx_ hb_; have HB4 := Aside0.mk (below_then HB3.out HB3.out.size hb_); have HG6 := Aside0.mk (show w.heap.size ≤ g6 by rw [hg_]; exact HB3.out.size); have H64 := Aside0.mk hx_; have HX4 := Aside0.mk (blk_below HX3.out hb_); have r0 := (blk_cell HX4.out 0).trans rfl; have r1 := (blk_cell HX4.out 1).trans rfl; clear hg_ hb_ hx_) | (go_at_call 129; refine (table_valid.calls a0_0 A0_1 c0_1 l0_1 _ _ (Kd.C_below HC.out HB4.out) hc0_1 HE.out).mono ?_; rintro e w5 ⟨rfl, hb_⟩; have HB5 := Aside0.mk (below_then HB4.out HB4.out.size hb_); have H65 := Aside0.mk (blk_below H64.out hb_); have HX5 := Aside0.mk (blk_below HX4.out hb_); have s0 := (blk_cell HX5.out 0).trans rfl; have s1 := (blk_cell HX5.out 1).trans rfl; have y0 := (blk_cell H65.out 0).trans rfl; have y1 := (blk_cell H65.out 1).trans rfl; have y2 := blk_frozen H65.out 0; have y3 := blk_frozen H65.out 1; clear hb_))
    refine bodyPost_ret (results_ctt rfl _ _ g6 25 #[.int .i64 0, .slice none 0 0] (0, 0) _ rfl (blk_put (blk_put H65.out 0 _ rfl) 1 _ rfl) Try.underlying25 rfl (by kernel_rfl)) rfl ?_
    exact ⟨_, _, rfl, Kd.R_nil _ _ _ _ _, Kd.R_nil _ _ _ _ _, (HB5.out.setCell (p := ⟨g6, 0, none⟩) HG6.out _).setCell (p := ⟨g6, 1, none⟩) HG6.out _⟩

end Go.Proofs.Ytmfbpkjhabdcgaa.F
end
